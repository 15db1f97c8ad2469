/-
  Part 7 of 17: the contracts that the proof of the last part uses; each stands under its own head.
-/
import Derived.Test.YtbgfmbmcabekeaaGreatDoorJ2
import Derived.Test.YtbgfmbmcabekeaaGreatDoorJ1
import Derived.LoopN
import Derived.WalkMore
import Derived.Deep.Cut
import Derived.Deep.RegionLaw
import Derived.Deep.RegionHeld3
import Derived.BigQuiet
import Derived.Test.YtbgfmbmcabekeaaGreatDoorJ6
import Derived.Test.YtbgfmbmcabekeaaGreatDoorJ5
import Derived.Deep.OwnRows
set_option linter.unusedSimpArgs false
set_option linter.unusedVariables false

/-
  Maps with integer keys and few entries, as lists of pairs: lookup, update.
-/
namespace Go.Proofs.YtbgfmbmcabekeaaGreatDoor
open Go.RowKit

/-- the value of a key -/
def getI : List (Int × Value) → Int → Option Value
  | [], _ => none
  | p :: r, k => if p.1 = k then some p.2 else getI r k
/-- the entries with a key's value set -/
def setI : List (Int × Value) → Int → Value → List (Int × Value)
  | [], k, v => [(k, v)]
  | p :: r, k, v => if p.1 = k then (k, v) :: r else p :: setI r k v
/-- where a key stands -/
def findI : List (Int × Value) → Int → Nat → Option (Nat × Value)
  | [], _, _ => none
  | p :: r, k, i => if p.1 = k then some (i, p.2) else findI r k (i + 1)
theorem findI_get (kv : List (Int × Value)) (k : Int) : ∀ i, (findI kv k i).map (·.2) = getI kv k := by
  induction kv with
  | nil => intro i; rfl
  | cons p r ih =>
    intro i
    unfold findI getI
    split
    · rfl
    · exact ih (i + 1)
theorem findI_none (kv : List (Int × Value)) (k : Int) : ∀ i, getI kv k = none → findI kv k i = none := by
  intro i h
  have h1 := findI_get kv k i
  rw [h] at h1
  cases hf : findI kv k i with
  | none => rfl
  | some x => rw [hf] at h1; cases h1
theorem findI_some (kv : List (Int × Value)) (k : Int) (v : Value) (h : getI kv k = some v) : ∀ i, ∃ j, findI kv k i = some (i + j, v) ∧ kv[j]? = some (k, v) ∧ ∀ u, setI kv k u = kv.set j (k, u) := by
  induction kv with
  | nil => cases h
  | cons p r ih =>
    intro i
    unfold getI at h
    by_cases hp : p.1 = k
    · rw [if_pos hp] at h
      cases h
      exact ⟨0, by simp [findI, hp], by simp [← hp], fun u => by simp [setI, hp]⟩
    · rw [if_neg hp] at h
      obtain ⟨j, h1, h2, h3⟩ := ih h (i + 1)
      exact ⟨j + 1, by simp [findI, hp, h1]; omega, by simpa using h2, fun u => by simp [setI, hp, h3]⟩
theorem setI_none (kv : List (Int × Value)) (k : Int) (v : Value) (h : getI kv k = none) : setI kv k v = kv ++ [(k, v)] := by
  induction kv with
  | nil => rfl
  | cons p r ih =>
    unfold getI at h
    by_cases hp : p.1 = k
    · rw [if_pos hp] at h; cases h
    · rw [if_neg hp] at h
      simp [setI, hp, ih h]

/-- block g is the map of these pairs -/
def MapI (w : World) (g : Nat) (kv : List (Int × Value)) : Prop := ∃ es c, MapAt w g es c ∧ es.toList.map (fun e => (e.key, e.val)) = kv.map (fun p => (Value.int .i64 p.1, p.2))
section
variable {P : Program} {w W : World} {g : Nat} {kv : List (Int × Value)}
theorem MapI.ext (h : MapI w g kv) (k : Below w.heap.size w W) : MapI W g kv := by
  obtain ⟨es, c, h, e⟩ := h
  exact ⟨es, c, h.ext k, e⟩
theorem MapI.lt (h : MapI w g kv) : g < w.heap.size := by
  obtain ⟨es, c, h, e⟩ := h
  exact h.lt
theorem MapI.new (w : World) : MapI (w.alloc (.map #[] 0)) w.heap.size [] := ⟨#[], 0, MapAt.new w, rfl⟩

theorem findNow_I (kd : IntKind) (k : Int) : ∀ (kv : List (Int × Value)) (es : List MapEntry) (i : Nat), es.map (fun e => (e.key, e.val)) = kv.map (fun p => (Value.int .i64 p.1, p.2)) →
    Instr.findNow (.int kd) (.int .i64 k) es i = some (findI kv k i) := by
  intro kv
  induction kv with
  | nil =>
    intro es i h
    cases es with
    | nil => rfl
    | cons e r => cases h
  | cons p r ih =>
    intro es i h
    cases es with
    | nil => cases h
    | cons e es =>
      simp only [List.map_cons, List.cons.injEq, Prod.mk.injEq] at h
      obtain ⟨⟨hk, hv⟩, ht⟩ := h
      unfold Instr.findNow findI
      have hs : Instr.sameNow (.int kd) (.int .i64 k) (.int .i64 p.1) = some (k == p.1) := by simp [Instr.sameNow]
      rw [hk, hs]
      by_cases hp : p.1 = k
      · rw [if_pos hp, show (k == p.1) = true by simp [hp]]
        simp [hv]
      · rw [if_neg hp, show (k == p.1) = false by simp; omega]
        exact ih es (i + 1) ht

theorem findKey_I {K : TypeId} {kd : IntKind} (hK : P.underlying K = some (.int kd)) (k : Int) (kv : List (Int × Value)) (es : List MapEntry) (h : es.map (fun e => (e.key, e.val)) = kv.map (fun p => (Value.int .i64 p.1, p.2))) :
    (Instr.findKey K (.int .i64 k) es).run P w = .ok (findI kv k 0) w := by
  have h1 := findNow_I kd k kv es 0 h
  simp [Instr.findKey, run_underlying hK, Result.andThen, h1]

theorem checkKey_I {K : TypeId} {kd : IntKind} (hK : P.underlying K = some (.int kd)) (k : Int) (b : Bool) : (Instr.checkKey b 10000 K (.int .i64 k)).run P w = .ok () w := by
  unfold Instr.checkKey
  simp [run_underlying hK, Result.andThen]

theorem lookup_I {T K E : TypeId} {kd : IntKind} (hT : P.underlying T = some (.map K E)) (hK : P.underlying K = some (.int kd)) (h : MapI w g kv) (k : Int) {z : Value} (hz : (zeroValue E).run P w = .ok z w) :
    (Instr.lookup T (.map (some g)) (.int .i64 k) false).run P w = .ok ((getI kv k).getD z) w := by
  obtain ⟨es, c, h, e⟩ := h
  have hg := getM (P := P) h
  have hck := fun b => checkKey_I (P := P) (w := w) hK k b
  have hf := findKey_I (P := P) (w := w) hK k kv es.toList e
  unfold Instr.lookup
  have h1 := findI_get kv k 0
  cases hc : findI kv k 0 with
  | none =>
    rw [hc] at hf h1
    rw [← h1]
    simp [run_underlying hT, Result.andThen, hg, hck, hf, hz]
  | some x =>
    rw [hc] at hf h1
    rw [← h1]
    obtain ⟨i, v⟩ := x
    simp [run_underlying hT, Result.andThen, hg, hck, hf]

theorem lookup_Iok {T K E : TypeId} {kd : IntKind} (hT : P.underlying T = some (.map K E)) (hK : P.underlying K = some (.int kd)) (h : MapI w g kv) (k : Int) {z : Value} (hz : (zeroValue E).run P w = .ok z w) :
    (Instr.lookup T (.map (some g)) (.int .i64 k) true).run P w = .ok (.tuple #[(getI kv k).getD z, .bool (getI kv k).isSome]) w := by
  obtain ⟨es, c, h, e⟩ := h
  have hg := getM (P := P) h
  have hck := fun b => checkKey_I (P := P) (w := w) hK k b
  have hf := findKey_I (P := P) (w := w) hK k kv es.toList e
  unfold Instr.lookup
  have h1 := findI_get kv k 0
  cases hc : findI kv k 0 with
  | none =>
    rw [hc] at hf h1
    rw [← h1]
    simp [run_underlying hT, Result.andThen, hg, hck, hf, hz]
  | some x =>
    rw [hc] at hf h1
    rw [← h1]
    obtain ⟨i, v⟩ := x
    simp [run_underlying hT, Result.andThen, hg, hck, hf]

theorem update_I {T K E : TypeId} {kd : IntKind} (hT : P.underlying T = some (.map K E)) (hK : P.underlying K = some (.int kd)) (h : MapI w g kv) (k : Int) (v : Value) :
    ∃ o, (Instr.mapUpdate T (.map (some g)) (.int .i64 k) v).run P w = .ok () (w.putObj g o) ∧ MapI (w.putObj g o) g (setI kv k v) := by
  obtain ⟨es, c, h, e⟩ := h
  have hg := getM (P := P) h
  have hck := checkKey_I (P := P) (w := w) hK k false
  have hf := findKey_I (P := P) (w := w) hK k kv es.toList e
  have hs := fun o => setM (P := P) o h
  cases hc : getI kv k with
  | none =>
    rw [findI_none kv k 0 hc] at hf
    refine ⟨.map (es.push ⟨.int .i64 k, v, c⟩) (c + 1), ?_, _, _, h.put _ _, ?_⟩
    · unfold Instr.mapUpdate
      simp [run_underlying hT, Result.andThen, hg, hck, hf, hs]
    · rw [setI_none kv k v hc]
      simp [e]
  | some x =>
    obtain ⟨j, h1, h2, h3⟩ := findI_some kv k x hc 0
    rw [h1] at hf
    rw [Nat.zero_add] at hf
    have hj : (es.toList.map (fun e => (e.key, e.val)))[j]? = some (.int .i64 k, x) := by rw [e, List.getElem?_map, h2]; rfl
    rw [List.getElem?_map, Option.map_eq_some_iff] at hj
    obtain ⟨en, hen, hek⟩ := hj
    have hen' : es[j]? = some en := by simpa using hen
    have hkk : en.key = .int .i64 k := congrArg Prod.fst hek
    have hsb : Instr.sameBits 10000 (.int .i64 k) (.int .i64 k) = true := by unfold Instr.sameBits; simp
    refine ⟨.map (es.modify j fun e => { e with key := .int .i64 k, val := v }) c, ?_, _, _, h.put _ _, ?_⟩
    · unfold Instr.mapUpdate Instr.keyThatStays
      simp [run_underlying hT, Result.andThen, hg, hck, hf, hs, hen', hkk, hsb]
    · rw [h3]
      apply List.ext_getElem?
      intro i
      have ei : (es.toList.map (fun e => (e.key, e.val)))[i]? = (kv.map (fun p => (Value.int .i64 p.1, p.2)))[i]? := by rw [e]
      simp only [List.getElem?_map, Array.toList_modify, List.getElem?_modify, List.getElem?_set] at ei ⊢
      by_cases hij : j = i
      · subst hij
        have hlt : j < kv.length := (List.getElem?_eq_some_iff.1 h2).1
        simp [hen', hlt]
      · simp [hij] at ei ⊢
        exact ei
end

end Go.Proofs.YtbgfmbmcabekeaaGreatDoor

/-
  package ring: within, Valid, at a list of members of weight 1.
-/
namespace Go.Proofs.YtbgfmbmcabekeaaGreatDoor
open Go.RowKit

/-- a list of members of weight 1 and of region 0, in memory -/
def MemsAt (w : World) (v : Value) (ns : List Nat) : Prop :=
  ∃ A c, v = .slice A ns.length c ∧ ns.length ≤ c ∧ (0 < ns.length → ∃ b off, A = some ⟨b, off, none⟩ ∧ ∀ (j n : Nat), ns[j]? = some n →
    w.cell? ⟨b, off + j * 3, none⟩ = some (.int .i64 n) ∧ w.cell? ⟨b, off + j * 3 + 1, none⟩ = some (.int .i64 0) ∧ w.cell? ⟨b, off + j * 3 + 2, none⟩ = some (.int .i64 1))
/-- the nodes of valid members -/
structure NodesOK (ns : List Nat) : Prop where
  some_ : 0 < ns.length
  few : ns.length ≤ 24
  below : ∀ n ∈ ns, n < 24
  asc : ∀ (j a b : Nat), ns[j]? = some a → ns[j + 1]? = some b → a < b
theorem MemsAt.ext {w W : World} {v : Value} {ns : List Nat} (h : MemsAt w v ns) (k : Below w.heap.size w W) : MemsAt W v ns := by
  obtain ⟨A, c, rfl, hc, h⟩ := h
  refine ⟨A, c, rfl, hc, fun h0 => ?_⟩
  obtain ⟨b, off, hA, hcell⟩ := h h0
  exact ⟨b, off, hA, fun j n hn => ⟨cell_ext (hcell j n hn).1 k, cell_ext (hcell j n hn).2.1 k, cell_ext (hcell j n hn).2.2 k⟩⟩
theorem MemsAt.at_ {w : World} {v : Value} {ns : List Nat} (h : MemsAt w v ns) {j n : Nat} (hj : ns[j]? = some n) : ∃ b off c, v = .slice (some ⟨b, off, none⟩) ns.length c ∧ ns.length ≤ c ∧
    w.cell? ⟨b, off + j * 3, none⟩ = some (.int .i64 n) ∧ w.cell? ⟨b, off + j * 3 + 1, none⟩ = some (.int .i64 0) ∧ w.cell? ⟨b, off + j * 3 + 2, none⟩ = some (.int .i64 1) := by
  obtain ⟨A, c, rfl, hc, h⟩ := h
  have hlt := (List.getElem?_eq_some_iff.1 hj).1
  obtain ⟨b, off, rfl, hcell⟩ := h (by omega)
  exact ⟨b, off, c, rfl, hc, hcell j n hj⟩

set_option maxHeartbeats 400000 in
theorem rwithin_yes (n lo hi : Int) (h1 : lo ≤ n) (h2 : n ≤ hi) (w : World) : Calls Tryz.prog 68 #[.int .i64 n, .int .i64 lo, .int .i64 hi] w fun e w' => e = .returned (.bool true) ∧ w = w' := by
  go_enter Tryz.func68, Tryz.ntmps68
  go_wp2
  go_ret
  exact ⟨by simp [h1, h2], rfl⟩

/-- the last node ahead of a place -/
def lastF (ns : List Nat) : Nat → Int
  | 0 => -1
  | k + 1 => ((ns.getD k 0 : Nat) : Int)

set_option maxHeartbeats 1000000 in
theorem rvalid_yes (ns : List Nat) (v : Value) (w : World) (hv : MemsAt w v ns) (hn : NodesOK ns) : Calls Tryz.prog 69 #[v] w fun e w' => e = .returned (.bool true) ∧ Below w.heap.size w w' := by
  have HV := Lib.hid hv
  have HN := Lib.hid hn
  obtain ⟨A, c, rfl, hc, _⟩ := hv
  have hfew := hn.few
  clear hn
  go_enter Tryz.func69, Tryz.ntmps69
  go_wp2
  go_loopw [3, 5, 8] (fun last _ i W => ∃ k : Nat, k ≤ ns.length ∧ i = .int .i64 k ∧ last = .int .i64 (lastF ns k) ∧ Below w.heap.size w W) (fun _ _ i _ => ns.length - (intOf i).toNat)
  case atStart => exact ⟨0, Nat.zero_le _, rfl, rfl, ext_refl w⟩
  case round =>
    obtain ⟨k, hk, rfl, rfl, hE⟩ := hrel
    have HE := Lib.hid hE
    clear hE
    by_cases hlt : k < ns.length
    · obtain ⟨n, hn⟩ : ∃ n, ns[k]? = some n := ⟨_, List.getElem?_eq_getElem hlt⟩
      obtain ⟨b, off, c', hA, _, c0, c1, c2⟩ := (HV.out.ext HE.out).at_ hn
      injection hA with hA hn' hc'
      subst hA; subst hc'
      clear hn'
      have hn24 : n < 24 := HN.out.below n (List.mem_of_getElem? hn)
      have hla : lastF ns k + 1 ≤ (n : Int) ∧ -1 ≤ lastF ns k ∧ lastF ns k ≤ 23 := by
        cases k with
        | zero => simp [lastF]
        | succ k =>
          have hk' : k < ns.length := by omega
          have h1 := HN.out.asc k ns[k] n (List.getElem?_eq_getElem hk') hn
          have h2 := HN.out.below ns[k] (List.getElem_mem hk')
          simp only [lastF, List.getD_eq_getElem?_getD, List.getElem?_eq_getElem hk', Option.getD_some]
          omega
      have hnx : lastF ns (k + 1) = (n : Int) := by simp [lastF, hn]
      have HNX := Lib.hid hnx
      generalize lastF ns k = la at *
      obtain ⟨l1, l2, l3⟩ := hla
      have e1 : IntKind.i64.wrap (la + 1) = la + 1 := by rw [IntWalk.i64_in _ (by omega)]
      have e2 : IntKind.i64.wrap ((k : Int) + 1) = (k : Int) + 1 := by rw [IntWalk.i64_in _ (by omega)]
      have d1 : decide ((k : Int) < (ns.length : Int)) = true := by simp; omega
      have q0 : (0 : Int) ≤ (k : Int) := by omega
      have q1 : (k : Int) < (ns.length : Int) := by omega
      clear hn hnx
      go_wp2_with (go_at_call 68; refine (rwithin_yes _ _ _ (by omega) (by omega) _).mono ?_; rintro e w' ⟨rfl, rfl⟩)
      go_roundw
      case rel => exact ⟨k + 1, by omega, by go_num, by rw [HNX.out], ext_alloc HE.out _⟩
      case measure => simp [intOf]; omega
    · have d1 : decide ((k : Int) < (ns.length : Int)) = false := by simp; omega
      have hpos := HN.out.some_
      have hl0 : 0 ≤ lastF ns k := by
        cases k with
        | zero => omega
        | succ k => simp [lastF]
      generalize lastF ns k = la at *
      go_wp2
      go_ret
      exact ⟨by simp [hl0], HE.out⟩

end Go.Proofs.YtbgfmbmcabekeaaGreatDoor

/-
  package ring: limits at a list of members of weight 1.
-/
namespace Go.Proofs.YtbgfmbmcabekeaaGreatDoor
open Go.RowKit

/-- how many slots each of m members of weight 1 may own -/
def limF (m : Nat) : Int := (80 + (m : Int) - 1) / (m : Int)
/-- the limits as a map's pairs -/
def limsI (m : Nat) (ns : List Nat) : List (Int × Value) := ns.map fun n : Nat => ((n : Int), Value.int .i64 (limF m))
theorem getI_none (kv : List (Int × Value)) (k : Int) (h : ∀ p ∈ kv, p.1 ≠ k) : getI kv k = none := by
  induction kv with
  | nil => rfl
  | cons p r ih =>
    unfold getI
    rw [if_neg (h p (List.mem_cons_self ..))]
    exact ih fun q hq => h q (List.mem_cons_of_mem _ hq)
theorem MapI.drew {w : World} {g : Nat} {kv : List (Int × Value)} (h : MapI w g kv) : MapI w.drew g kv := h

theorem NodesOK.lt_of {ns : List Nat} (h : NodesOK ns) {q k a n : Nat} (hq : ns[q]? = some a) (hk : ns[k]? = some n) (hqk : q < k) : a < n := by
  obtain ⟨d, rfl⟩ : ∃ d, k = q + 1 + d := ⟨k - (q + 1), by omega⟩
  clear hqk
  induction d generalizing n with
  | zero => exact h.asc q a n hq hk
  | succ d ih =>
    have hlt := (List.getElem?_eq_some_iff.1 hk).1
    have h1 : ns[q + 1 + d]? = some ns[q + 1 + d] := List.getElem?_eq_getElem (by omega)
    have h2 := ih h1
    have h3 := h.asc (q + 1 + d) _ n h1 hk
    omega

set_option maxHeartbeats 2000000 in
theorem limits_any (ns : List Nat) (v : Value) (w : World) (hv : MemsAt w v ns) (hn : NodesOK ns) : Calls Tryz.prog 67 #[v] w fun e w' => ∃ g, e = .returned (.map (some g)) ∧ w.heap.size ≤ g ∧ MapI w' g (limsI ns.length ns) ∧ Below w.heap.size w w' := by
  have HV := Lib.hid hv
  have HN := Lib.hid hn
  have HRV := Lib.hid (fun W (k : Below w.heap.size w W) => rvalid_yes ns v W (hv.ext k) hn)
  obtain ⟨A, c, rfl, hc, _⟩ := hv
  have hfew := hn.few
  have hsome := hn.some_
  have hmm := @run_makeMap Tryz.prog
  clear hn
  obtain ⟨X, hX⟩ : ∃ X, X = w.alloc (.map #[] 0) := ⟨_, rfl⟩
  have HX := Lib.hid hX
  have HE0 := Lib.hid (show Below w.heap.size w X by rw [hX]; exact ext_new _ _)
  have HM0 := Lib.hid (show MapI X w.heap.size [] by rw [hX]; exact MapI.new w)
  clear hX
  go_enter Tryz.func67, Tryz.ntmps67
  go_wp2_with fail
  rw [← HX.out]
  go_loopw [4, 6, 12] (fun s _ i W => ∃ k : Nat, k ≤ ns.length ∧ i = .int .i64 k ∧ s = .int .i64 k ∧ Below X.heap.size X W) (fun _ _ i _ => ns.length - (intOf i).toNat)
  case atStart => exact ⟨0, Nat.zero_le _, rfl, rfl, ext_refl X⟩
  case round =>
    obtain ⟨k, hk, rfl, rfl, hE⟩ := hrel
    have HE := Lib.hid hE
    clear hE
    by_cases hlt : k < ns.length
    · obtain ⟨n, hn⟩ : ∃ n, ns[k]? = some n := ⟨_, List.getElem?_eq_getElem hlt⟩
      obtain ⟨b, off, c', hA, _, c0, c1, c2⟩ := (HV.out.ext (ext_call HE0.out HE.out)).at_ hn
      injection hA with hA hn' hc'
      subst hA; subst hc'
      clear hn'
      have e2 : IntKind.i64.wrap ((k : Int) + 1) = (k : Int) + 1 := by rw [IntWalk.i64_in _ (by omega)]
      have d1 : decide ((k : Int) < (ns.length : Int)) = true := by simp; omega
      have q0 : (0 : Int) ≤ (k : Int) := by omega
      have q1 : (k : Int) < (ns.length : Int) := by omega
      clear hn
      go_wp2
      go_roundw
      case rel => exact ⟨k + 1, by omega, by go_num, by go_num, ext_alloc HE.out _⟩
      case measure => simp [intOf]; omega
    · have d1 : decide ((k : Int) < (ns.length : Int)) = false := by simp; omega
      obtain rfl : k = ns.length := by omega
      have HEk := Lib.hid (ext_call HE0.out HE.out)
      go_wp2_with fail
      refine (HRV.out _ HEk.out).mono ?_
      rintro e W2 ⟨rfl, hb2⟩
      have HE2 := Lib.hid (ext_call HE.out hb2)
      clear hb2 hk d1
      go_wp2_with fail
      go_loopw [8, 25] (fun _ i W => ∃ k : Nat, k ≤ ns.length ∧ i = .int .i64 k ∧ MapI W w.heap.size (limsI ns.length (ns.take k)) ∧ Below w.heap.size w W) (fun _ i _ => ns.length - (intOf i).toNat)
      case atStart => exact ⟨0, Nat.zero_le _, rfl, HM0.out.ext HE2.out, ext_call HE0.out HE2.out⟩
      case round =>
        obtain ⟨k, hk, rfl, hM, hE⟩ := hrel
        have HE3 := Lib.hid hE
        have HM3 := Lib.hid hM
        clear hE hM
        by_cases hlt : k < ns.length
        · obtain ⟨n, hn⟩ : ∃ n, ns[k]? = some n := ⟨_, List.getElem?_eq_getElem hlt⟩
          obtain ⟨b, off, c', hA, _, c0, c1, c2⟩ := (HV.out.ext HE3.out).at_ hn
          injection hA with hA hn' hc'
          subst hA; subst hc'
          clear hn'
          have hno : getI (limsI ns.length (ns.take k)) (n : Int) = none := getI_none _ _ fun p hp => by
            unfold limsI at hp
            obtain ⟨a, ha, rfl⟩ := List.mem_map.1 hp
            obtain ⟨q, hq, hqa⟩ := List.mem_iff_getElem.1 ha
            have hqk : q < k := by simp at hq; omega
            have hqn : ns[q]? = some a := by
              rw [List.getElem_take] at hqa
              rw [← hqa]
              exact List.getElem?_eq_getElem (by omega)
            have : a < n := HN.out.lt_of hqn hn hqk
            simp; omega
          have hst : limsI ns.length (ns.take (k + 1)) = setI (limsI ns.length (ns.take k)) (n : Int) (.int .i64 ((80 + (ns.length : Int) - 1) / (ns.length : Int))) := by
            rw [setI_none _ _ _ hno, List.take_add_one, hn]
            simp [limsI, limF]
          have HST := Lib.hid hst
          have hW : Below w.heap.size w (wr.alloc (.cells #[.int .i64 n, .int .i64 0, .int .i64 1] 83)).drew := (ext_alloc HE3.out _).drew
          have hWg : w.heap.size < (wr.alloc (.cells #[.int .i64 n, .int .i64 0, .int .i64 1] 83)).heap.size := (HM3.out.ext (ext_new wr (.cells #[.int .i64 n, .int .i64 0, .int .i64 1] 83))).lt
          obtain ⟨o, hup, hMu⟩ := update_I (P := Tryz.prog) (w := (wr.alloc (.cells #[.int .i64 n, .int .i64 0, .int .i64 1] 83)).drew) Tryz.underlying145 Tryz.underlying3 (MapI.drew (HM3.out.ext (ext_new wr _))) (n : Int) (.int .i64 ((80 + (ns.length : Int) - 1) / (ns.length : Int)))
          have HMu := Lib.hid hMu
          have HW := Lib.hid hW
          have e2 : IntKind.i64.wrap ((k : Int) + 1) = (k : Int) + 1 := by rw [IntWalk.i64_in _ (by omega)]
          have d1 : decide ((k : Int) < (ns.length : Int)) = true := by simp; omega
          have q0 : (0 : Int) ≤ (k : Int) := by omega
          have q1 : (k : Int) < (ns.length : Int) := by omega
          clear hn hno hst hMu hW
          go_upto_region 12 with (fail)
          go_region
          all_goals
            go_wp2
            go_roundw
            case rel => exact ⟨k + 1, by omega, by go_num, by rw [HST.out]; exact HMu.out, ext_put HW.out (Nat.le_refl _) _⟩
            case measure => simp [intOf]; omega
        · have d1 : decide ((k : Int) < (ns.length : Int)) = false := by simp; omega
          obtain rfl : k = ns.length := by omega
          rw [List.take_length] at HM3
          go_wp2
          go_ret
          exact ⟨_, rfl, Nat.le_refl _, HM3.out, HE3.out⟩

end Go.Proofs.YtbgfmbmcabekeaaGreatDoor

/-
  Plain laws on rings: as long as fewer slots are given away than all members together may hold, one of them has room.
-/
namespace Go.Proofs.YtbgfmbmcabekeaaGreatDoor

theorem ind_zero (o : Nat) : ∀ ns : List Nat, o ∉ ns → (ns.map (fun n => if o = n then 1 else 0)).sum = 0 := by
  intro ns
  induction ns with
  | nil => intro _; rfl
  | cons a r ih =>
    intro h
    rw [List.mem_cons, not_or] at h
    simp [h.1, ih h.2]
theorem ind_one (o : Nat) : ∀ ns : List Nat, ns.Nodup → o ∈ ns → (ns.map (fun n => if o = n then 1 else 0)).sum = 1 := by
  intro ns
  induction ns with
  | nil => intro _ h; cases h
  | cons a r ih =>
    intro hn h
    rw [List.nodup_cons] at hn
    by_cases ha : o = a
    · subst ha
      simp [ind_zero o r hn.1]
    · rcases List.mem_cons.1 h with h | h
      · exact absurd h ha
      · simp [ha, ih hn.2 h]
theorem sum_add (f g : Nat → Nat) : ∀ ns : List Nat, (ns.map (fun n => f n + g n)).sum = (ns.map f).sum + (ns.map g).sum := by
  intro ns
  induction ns with
  | nil => rfl
  | cons a r ih => simp only [List.map_cons, List.sum_cons, ih]; omega
theorem count_sum (ns : List Nat) (hn : ns.Nodup) : ∀ os : List Nat, (∀ o ∈ os, o ∈ ns) → (ns.map (fun n => os.count n)).sum = os.length := by
  intro os
  induction os with
  | nil =>
    intro _
    induction ns with
    | nil => rfl
    | cons a r ih => simpa using ih (List.nodup_cons.1 hn).2
  | cons o r ih =>
    intro h
    have e : (fun n => (o :: r).count n) = fun n => r.count n + (if o = n then 1 else 0) := by
      funext n
      rw [List.count_cons]
      by_cases hon : o = n <;> simp [hon]
    rw [e, sum_add, ih (fun x hx => h x (List.mem_cons_of_mem _ hx)), ind_one o ns hn (h o (List.mem_cons_self ..))]
    rfl
theorem sum_ge (f : Nat → Nat) (L : Nat) : ∀ ns : List Nat, (∀ n ∈ ns, L ≤ f n) → ns.length * L ≤ (ns.map f).sum := by
  intro ns
  induction ns with
  | nil => intro _; simp
  | cons a r ih =>
    intro h
    have h1 := h a (List.mem_cons_self ..)
    have h2 := ih fun n hn => h n (List.mem_cons_of_mem _ hn)
    simp only [List.map_cons, List.sum_cons, List.length_cons, Nat.succ_mul]
    omega
/-- if all members hold L, no fewer slots are given away than that -/
theorem room_left (ns : List Nat) (hn : ns.Nodup) (os : List Nat) (h : ∀ o ∈ os, o ∈ ns) (L : Nat) (hall : ∀ n ∈ ns, L ≤ os.count n) : ns.length * L ≤ os.length := by
  rw [← count_sum ns hn os h]
  exact sum_ge _ L ns hall

end Go.Proofs.YtbgfmbmcabekeaaGreatDoor

/-
  package ring: ValidRing at a ring whose owners keep within the limits.
-/
namespace Go.Proofs.YtbgfmbmcabekeaaGreatDoor
open Go.RowKit

theorem bcells3 {w : World} {g : Nat} {t : TypeId} {a0 a1 a2 : Value} (h : Blk w g t #[a0, a1, a2]) : w.cell? ⟨g, 0, none⟩ = some a0 ∧ w.cell? ⟨g, 1, none⟩ = some a1 ∧ w.cell? ⟨g, 2, none⟩ = some a2 := ⟨h.cell 0, h.cell 1, h.cell 2⟩

theorem NodesOK.nodup {ns : List Nat} (h : NodesOK ns) : ns.Nodup := by
  unfold List.Nodup
  rw [List.pairwise_iff_getElem]
  intro i j hi hj hij e
  have := h.lt_of (List.getElem?_eq_getElem hi) (List.getElem?_eq_getElem hj) hij
  omega

/-- a slice of numbers in memory -/
def NumsAt (w : World) (v : Value) (os : List Nat) : Prop :=
  ∃ A c, v = .slice A os.length c ∧ os.length ≤ c ∧ (0 < os.length → ∃ b off, A = some ⟨b, off, none⟩ ∧ ∀ (j n : Nat), os[j]? = some n → w.cell? ⟨b, off + j, none⟩ = some (.int .i64 n))
theorem NumsAt.ext {w W : World} {v : Value} {os : List Nat} (h : NumsAt w v os) (k : Below w.heap.size w W) : NumsAt W v os := by
  obtain ⟨A, c, rfl, hc, h⟩ := h
  refine ⟨A, c, rfl, hc, fun h0 => ?_⟩
  obtain ⟨b, off, hA, hcell⟩ := h h0
  exact ⟨b, off, hA, fun j n hn => cell_ext (hcell j n hn) k⟩
theorem NumsAt.at_ {w : World} {v : Value} {os : List Nat} (h : NumsAt w v os) {j n : Nat} (hj : os[j]? = some n) : ∃ b off c, v = .slice (some ⟨b, off, none⟩) os.length c ∧ os.length ≤ c ∧ w.cell? ⟨b, off + j, none⟩ = some (.int .i64 n) := by
  obtain ⟨A, c, rfl, hc, h⟩ := h
  have hlt := (List.getElem?_eq_some_iff.1 hj).1
  obtain ⟨b, off, rfl, hcell⟩ := h (by omega)
  exact ⟨b, off, c, rfl, hc, hcell j n hj⟩

/-- the room that is left to each member -/
def roomI (ns : List Nat) (f : Nat → Int) : List (Int × Value) := ns.map fun n : Nat => ((n : Int), Value.int .i64 (f n))
theorem roomI_get (f : Nat → Int) (o : Nat) : ∀ ns : List Nat, o ∈ ns → getI (roomI ns f) (o : Int) = some (.int .i64 (f o)) := by
  intro ns
  induction ns with
  | nil => intro h; cases h
  | cons a r ih =>
    intro h
    show (if ((a : Int) = (o : Int)) then some (Value.int .i64 (f a)) else getI (roomI r f) (o : Int)) = _
    by_cases ha : a = o
    · subst ha; simp
    · rw [if_neg (by omega)]
      rcases List.mem_cons.1 h with h | h
      · exact absurd h.symm ha
      · exact ih h
theorem roomI_other (f g : Nat → Int) (ns : List Nat) (h : ∀ n ∈ ns, f n = g n) : roomI ns f = roomI ns g := by
  unfold roomI
  exact List.map_congr_left fun n hn => by rw [h n hn]
theorem roomI_set (f : Nat → Int) (o : Nat) (x : Int) : ∀ ns : List Nat, ns.Nodup → o ∈ ns → setI (roomI ns f) (o : Int) (.int .i64 x) = roomI ns (fun n => if n = o then x else f n) := by
  intro ns
  induction ns with
  | nil => intro _ h; cases h
  | cons a r ih =>
    intro hn h
    rw [List.nodup_cons] at hn
    show (if ((a : Int) = (o : Int)) then ((o : Int), Value.int .i64 x) :: roomI r f else ((a : Int), Value.int .i64 (f a)) :: setI (roomI r f) (o : Int) (.int .i64 x)) = _
    by_cases ha : a = o
    · subst ha
      rw [if_pos rfl, roomI_other f (fun n => if n = a then x else f n) r (fun n hm => by
        have : n ≠ a := fun e => hn.1 (e ▸ hm)
        simp [this])]
      simp [roomI]
    · rw [if_neg (by omega)]
      rcases List.mem_cons.1 h with h | h
      · exact absurd h.symm ha
      · rw [ih hn.2 h]
        simp [roomI, ha]
theorem limF_le (m : Nat) (h0 : 0 < m) (h1 : m ≤ 24) : 1 ≤ limF m ∧ limF m ≤ 103 := by
  unfold limF
  constructor
  · exact Int.le_ediv_of_mul_le (by omega) (by omega)
  · refine Int.le_trans (Int.ediv_le_self _ (by omega)) (by omega)

set_option maxHeartbeats 2000000 in
theorem validRing_yes (ns os : List Nat) (ep : Int) (vm vo : Value) (w : World) (hm : MemsAt w vm ns) (hn : NodesOK ns) (ho : NumsAt w vo os) (hl : os.length = 64) (hos : ∀ o ∈ os, o ∈ ns) (hlim : ∀ n, (os.count n : Int) ≤ limF ns.length)
    (h1 : 1 ≤ ep) (h2 : ep ≤ 1000000) :
    Calls Tryz.prog 37 #[.agg #[.int .i64 ep, vm, vo]] w fun e w' => e = .returned (.bool true) ∧ Below w.heap.size w w' := by
  obtain ⟨X, hX⟩ : ∃ X, X = w.alloc (.cells #[.int .i64 ep, vm, vo] 30) := ⟨_, rfl⟩
  have HX := Lib.hid hX
  have HE0 := Lib.hid (show Below w.heap.size w X by rw [hX]; exact ext_new _ _)
  have HB0 := Lib.hid (show Blk X w.heap.size 30 #[.int .i64 ep, vm, vo] by rw [hX]; exact Blk.new _ _ _)
  have HM := Lib.hid (hm.ext HE0.out)
  have HO := Lib.hid (ho.ext HE0.out)
  have HN := Lib.hid hn
  have HLI := Lib.hid hlim
  have HOS := Lib.hid hos
  have HL := Lib.hid hl
  obtain ⟨Am, cm, rfl, hcm, _⟩ := hm
  obtain ⟨Ao, co, rfl, hco, _⟩ := ho
  have hfew := hn.few
  have hsome := hn.some_
  obtain ⟨hf1, hf2⟩ := limF_le ns.length hsome hfew
  have h64 : os.length ≤ 64 := by omega
  clear hX hn hlim hos hl
  obtain ⟨b0, b1, b2⟩ := bcells3 HB0.out
  go_enter Tryz.func37, Tryz.ntmps37
  go_wp2_with fail
  rw [← HX.out]
  refine (limits_any ns _ X HM.out HN.out).mono ?_
  rintro e W1 ⟨g, rfl, hg, hM1, hb1⟩
  have HE1 := Lib.hid hb1
  have HM1 := Lib.hid (show MapI W1 g (roomI ns (fun n => limF ns.length - (os.take 0).count n)) by simpa [roomI, limsI] using hM1)
  have HG := Lib.hid hg
  clear hg hM1 hb1 b0 b1 b2
  obtain ⟨b0, b1, b2⟩ := bcells3 (HB0.out.ext HE1.out)
  go_wp2_with fail
  clear b0 b1 b2
  go_loopw [5, 12] (fun _ i W => ∃ k : Nat, k ≤ os.length ∧ i = .int .i64 k ∧ MapI W g (roomI ns (fun n => limF ns.length - (os.take k).count n)) ∧ Below X.heap.size X W) (fun _ i _ => os.length - (intOf i).toNat)
  case atStart => exact ⟨0, Nat.zero_le _, rfl, HM1.out, HE1.out⟩
  case round =>
    obtain ⟨k, hk, rfl, hM, hE⟩ := hrel
    have HE := Lib.hid hE
    have HMk := Lib.hid hM
    clear hE hM
    by_cases hlt : k < os.length
    · obtain ⟨o, ho⟩ : ∃ o, os[k]? = some o := ⟨_, List.getElem?_eq_getElem (by omega)⟩
      obtain ⟨b, off, c', hA, _, c0⟩ := (HO.out.ext HE.out).at_ ho
      injection hA with hA hn' hc'
      subst hA; subst hc'
      clear hn'
      have hons := HOS.out o (List.mem_of_getElem? ho)
      have hz : (zeroValue 3).run Tryz.prog wr = .ok (.int .i64 0) wr := by kernel_rfl
      have hget := roomI_get (fun n => limF ns.length - (os.take k).count n) o ns hons
      have hlk := lookup_I (P := Tryz.prog) (w := wr) Tryz.underlying145 Tryz.underlying3 HMk.out (o : Int) hz
      rw [hget, Option.getD_some] at hlk
      obtain ⟨q, hq⟩ : ∃ q : Int, q = limF ns.length - (os.take k).count o := ⟨_, rfl⟩
      rw [← hq] at hlk
      have hcnt : ((os.take (k + 1)).count o : Int) = (os.take k).count o + 1 := by
        rw [List.take_add_one, ho]
        simp [List.count_append]
      have hle : ((os.take (k + 1)).count o : Int) ≤ limF ns.length := by
        refine Int.le_trans ?_ (HLI.out o)
        exact_mod_cast (List.take_sublist (k + 1) os).count_le o
      have hq0 : 1 ≤ q := by omega
      have hq1 : q ≤ 103 := by omega
      have e1 : IntKind.i64.wrap (q - 1) = q - 1 := by rw [IntWalk.i64_in _ (by omega)]
      obtain ⟨ob, hup, hMu⟩ := update_I (P := Tryz.prog) (w := wr) Tryz.underlying145 Tryz.underlying3 HMk.out (o : Int) (.int .i64 (q - 1))
      have hset : setI (roomI ns (fun n => limF ns.length - (os.take k).count n)) (o : Int) (.int .i64 (q - 1)) = roomI ns (fun n => limF ns.length - (os.take (k + 1)).count n) := by
        rw [roomI_set _ o _ ns HN.out.nodup hons]
        refine roomI_other _ _ ns fun n _ => ?_
        by_cases hno : n = o
        · subst hno
          simp only [if_true]
          omega
        · have : (os.take (k + 1)).count n = (os.take k).count n := by
            rw [List.take_add_one, ho]
            have hno' : o ≠ n := fun e => hno e.symm
            simp [List.count_append, List.count_cons, hno']
          simp [hno, this]
      rw [hset] at hMu
      have hget2 := roomI_get (fun n => limF ns.length - (os.take (k + 1)).count n) o ns hons
      have hz2 : (zeroValue 3).run Tryz.prog (wr.putObj g ob) = .ok (.int .i64 0) (wr.putObj g ob) := by kernel_rfl
      have hlk2 := lookup_I (P := Tryz.prog) (w := wr.putObj g ob) Tryz.underlying145 Tryz.underlying3 hMu (o : Int) hz2
      rw [hget2, Option.getD_some, show limF ns.length - (os.take (k + 1)).count o = q - 1 by omega] at hlk2
      have HMu := Lib.hid hMu
      have HEu := Lib.hid (HE.out.trans (show Below X.heap.size wr (wr.putObj g ob) from ⟨rfl, rfl, rfl, by simp, fun i hi => World.putObj_heap_other (by have := HG.out; omega)⟩))
      have e2 : IntKind.i64.wrap ((k : Int) + 1) = (k : Int) + 1 := by rw [IntWalk.i64_in _ (by omega)]
      have d1 : decide ((k : Int) < (os.length : Int)) = true := by simp; omega
      have d2 : decide (q - 1 < 0) = false := by simp; omega
      have q0 : (0 : Int) ≤ (k : Int) := by omega
      have q1 : (k : Int) < (os.length : Int) := by omega
      clear ho hons hget hget2 hset hMu hq hcnt hle hz hz2
      go_wp2
      go_roundw
      case rel => exact ⟨k + 1, by omega, by go_num, HMu.out, HEu.out⟩
      case measure => simp [intOf]; omega
    · have d1 : decide ((k : Int) < (os.length : Int)) = false := by simp; omega
      obtain ⟨b0, b1, b2⟩ := bcells3 (HB0.out.ext HE.out)
      have d3 : ((os.length : Int) == 64) = true := by simp; have := HL.out; omega
      have HRV := Lib.hid (rvalid_yes ns _ wr (HM.out.ext HE.out) HN.out)
      go_wp2_with (first
        | (go_at_call 68; refine (rwithin_yes _ _ _ h1 h2 _).mono ?_; rintro e w' ⟨rfl, rfl⟩)
        | (go_at_call 69; refine HRV.out.mono ?_; rintro e W3 ⟨rfl, hb3⟩; have HE3 := Lib.hid (ext_call HE.out hb3); obtain ⟨x0, x1, x2⟩ := bcells3 (HB0.out.ext HE3.out); clear hb3))
      go_ret
      exact ⟨rfl, ext_call HE0.out HE3.out⟩

end Go.Proofs.YtbgfmbmcabekeaaGreatDoor

/-
  package cachetierref12: within, Valid, Limit at a list of members of weight 1.
-/
namespace Go.Proofs.YtbgfmbmcabekeaaGreatDoor
open Go.RowKit

set_option maxHeartbeats 400000 in
theorem w12_yes (n lo hi : Int) (h1 : lo ≤ n) (h2 : n ≤ hi) (w : World) : Calls Tryz.prog 107 #[.int .i64 n, .int .i64 lo, .int .i64 hi] w fun e w' => e = .returned (.bool true) ∧ w = w' := by
  go_enter Tryz.func107, Tryz.ntmps107
  go_wp2
  go_ret
  exact ⟨by simp [h1, h2], rfl⟩

theorem w12_q (n lo hi : Int) (h1 : lo ≤ n) (h2 : n ≤ hi) (w : World) : Calls Tryz.prog 107 #[.int .i64 n, .int .i64 lo, .int .i64 hi] w fun e w' => e = .returned (.bool true) ∧ w' = w :=
  (w12_yes n lo hi h1 h2 w).mono fun _ _ ⟨a, b⟩ => ⟨a, b.symm⟩

set_option maxHeartbeats 2000000 in
theorem v12_yes (ns : List Nat) (v : Value) (w : World) (hv : MemsAt w v ns) (hn : NodesOK ns) : Calls Tryz.prog 153 #[v] w fun e w' => e = .returned (.bool true) ∧ Below w.heap.size w w' := by
  have HV := Lib.hid hv
  have HN := Lib.hid hn
  obtain ⟨A, c, rfl, hc, _⟩ := hv
  have hfew := hn.few
  have hsome := hn.some_
  clear hn
  go_enter Tryz.func153, Tryz.ntmps153
  go_wp2_with (go_at_call 107; refine (w12_yes _ _ _ (by omega) (by omega) _).mono ?_; rintro e w' ⟨rfl, rfl⟩)
  go_loopw [3, 4] (fun i _ W => ∃ k : Nat, k ≤ ns.length ∧ i = .int .i64 k ∧ Below w.heap.size w W) (fun i _ _ => ns.length - (intOf i).toNat)
  case atStart => exact ⟨0, Nat.zero_le _, rfl, ext_refl w⟩
  case round =>
    obtain ⟨k, hk, rfl, hE⟩ := hrel
    have HE := Lib.hid hE
    clear hE
    by_cases hlt : k < ns.length
    · obtain ⟨n, hn⟩ : ∃ n, ns[k]? = some n := ⟨_, List.getElem?_eq_getElem hlt⟩
      obtain ⟨b, off, c', hA, _, c0, c1, c2⟩ := (HV.out.ext HE.out).at_ hn
      injection hA with hA hn' hc'
      subst hA; subst hc'
      clear hn'
      have hn24 : n < 24 := HN.out.below n (List.mem_of_getElem? hn)
      have e2 : IntKind.i64.wrap ((k : Int) + 1) = (k : Int) + 1 := by rw [IntWalk.i64_in _ (by omega)]
      have d1 : decide ((k : Int) < (ns.length : Int)) = true := by simp; omega
      have q0 : (0 : Int) ≤ (k : Int) := by omega
      have q1 : (k : Int) < (ns.length : Int) := by omega
      have HE2 := Lib.hid (ext_alloc HE.out (.cells #[.int .i64 n, .int .i64 0, .int .i64 1] 83))
      by_cases hk0 : k = 0
      · subst hk0
        simp only [Nat.zero_mul, Nat.add_zero] at c0 c1 c2
        clear hn
        go_upto_region 7 with (fail)
        go_quiet (first | (go_at_call 107; refine Calls.quiet_of_same (w12_q _ _ _ (by omega) (by omega) _)))
        go_wp2
        go_roundw
        case rel => exact ⟨1, by omega, by go_num, ext_drewN HE2.out nq⟩
        case measure => simp [intOf]; omega
      · obtain ⟨m, rfl⟩ : ∃ m, k = m + 1 := ⟨k - 1, by omega⟩
        have hm : ns[m]? = some ns[m] := List.getElem?_eq_getElem (by omega)
        have hmn : ns[m] < n := HN.out.asc m _ _ hm hn
        obtain ⟨b', off', c', hA, _, p0, _, _⟩ := (HV.out.ext HE.out).at_ hm
        injection hA with hA hn' hc'
        injection hA with hA
        injection hA with hb ho _
        subst hb; subst ho
        generalize ns[m] = pn at *
        have d3 : decide ((0 : Int) < ((m + 1 : Nat) : Int)) = true := by simp
        have p1 := cell_ext p0 (ext_new wr (.cells #[.int .i64 n, .int .i64 0, .int .i64 1] 83))
        have e3 : IntKind.i64.wrap (m : Int) = (m : Int) := IntWalk.i64_in _ (by omega)
        have q3 : (m : Int) < (ns.length : Int) := by omega
        have d4 : decide ((n : Int) ≤ (pn : Int)) = false := by simp; omega
        clear hn hm hk0
        go_upto_region 7 with (fail)
        go_quiet (first | (go_at_call 107; refine Calls.quiet_of_same (w12_q _ _ _ (by omega) (by omega) _)))
        go_wp2
        go_roundw
        case rel => exact ⟨m + 2, by omega, by go_num, ext_drewN HE2.out nq⟩
        case measure => simp [intOf]; omega
    · have d1 : decide ((k : Int) < (ns.length : Int)) = false := by simp; omega
      go_wp2
      go_ret
      exact ⟨rfl, HE.out⟩

end Go.Proofs.YtbgfmbmcabekeaaGreatDoor

/-
  package cachetierref12: Limit at a list of members of weight 1.
-/
namespace Go.Proofs.YtbgfmbmcabekeaaGreatDoor
open Go.RowKit

/-- the weight that is found among the first members -/
def ownF (ns : List Nat) (o k : Nat) : Int := if o ∈ ns.take k then 1 else 0
theorem ownF_hit (ns : List Nat) (o k : Nat) (h : ns[k]? = some o) : ownF ns o (k + 1) = 1 := by
  unfold ownF
  rw [List.take_add_one, h]
  simp
theorem ownF_miss (ns : List Nat) (o k n : Nat) (h : ns[k]? = some n) (hne : n ≠ o) : ownF ns o (k + 1) = ownF ns o k := by
  unfold ownF
  rw [List.take_add_one, h]
  have : o ≠ n := fun e => hne e.symm
  simp [this]
theorem ownF_all (ns : List Nat) (o : Nat) (h : o ∈ ns) : ownF ns o ns.length = 1 := by
  unfold ownF
  rw [List.take_length, if_pos h]

set_option maxHeartbeats 2000000 in
theorem limit12 (ns : List Nat) (o : Nat) (v : Value) (w : World) (hv : MemsAt w v ns) (hn : NodesOK ns) (ho : o ∈ ns) :
    Calls Tryz.prog 157 #[v, .int .i64 o] w fun e w' => e = .returned (.int .i64 (limF ns.length)) ∧ Below w.heap.size w w' := by
  have HV := Lib.hid hv
  have HRV := Lib.hid (v12_yes ns v w hv hn)
  have HO := Lib.hid ho
  obtain ⟨A, c, rfl, hc, _⟩ := hv
  have hfew := hn.few
  have hsome := hn.some_
  clear hn ho
  go_enter Tryz.func157, Tryz.ntmps157
  go_wp2_with fail
  refine HRV.out.mono ?_
  rintro e W1 ⟨rfl, hb1⟩
  have HE1 := Lib.hid hb1
  clear hb1
  go_wp2_with fail
  go_loop [5, 6, 7] (fun s own i => ∃ k : Nat, k ≤ ns.length ∧ i = .int .i64 k ∧ s = .int .i64 k ∧ own = .int .i64 (ownF ns o k)) (fun _ _ i => ns.length - (intOf i).toNat)
  case atStart => exact ⟨0, Nat.zero_le _, rfl, rfl, by simp [ownF]⟩
  case round =>
    obtain ⟨k, hk, rfl, rfl, rfl⟩ := hrel
    by_cases hlt : k < ns.length
    · obtain ⟨n, hn⟩ : ∃ n, ns[k]? = some n := ⟨_, List.getElem?_eq_getElem hlt⟩
      obtain ⟨b, off, c', hA, _, c0, c1, c2⟩ := (HV.out.ext HE1.out).at_ hn
      injection hA with hA hn' hc'
      subst hA; subst hc'
      clear hn'
      have HN := Lib.hid hn
      have e2 : IntKind.i64.wrap ((k : Int) + 1) = (k : Int) + 1 := by rw [IntWalk.i64_in _ (by omega)]
      have d1 : decide ((k : Int) < (ns.length : Int)) = true := by simp; omega
      have q0 : (0 : Int) ≤ (k : Int) := by omega
      have q1 : (k : Int) < (ns.length : Int) := by omega
      by_cases hno : n = o
      · have d2 : ((n : Int) == (o : Int)) = true := by simp [hno]
        have HNO := Lib.hid hno
        clear hno hn
        go_wp2
        go_round
        case rel => exact ⟨k + 1, by omega, by go_num, by go_num, by rw [ownF_hit ns o k (by rw [← HNO.out]; exact HN.out)]⟩
        case measure => simp [intOf]; omega
      · have d2 : ((n : Int) == (o : Int)) = false := by simp; omega
        have HNO := Lib.hid hno
        clear hno hn
        go_wp2
        go_round
        case rel => exact ⟨k + 1, by omega, by go_num, by go_num, by rw [ownF_miss ns o k n HN.out HNO.out]⟩
        case measure => simp [intOf]; omega
    · have d1 : decide ((k : Int) < (ns.length : Int)) = false := by simp; omega
      obtain rfl : k = ns.length := by omega
      rw [ownF_all ns o HO.out]
      go_wp2
      go_ret
      exact ⟨rfl, HE1.out⟩

end Go.Proofs.YtbgfmbmcabekeaaGreatDoor

/-
  package cachetierref12: spots at a list of members of weight 1.
-/
namespace Go.Proofs.YtbgfmbmcabekeaaGreatDoor
open Go.RowKit Go.Shelf

theorem keepN {X W W' : World} {p : Addr} {u : Value} (h : W.cell? p = some u ∧ Below X.heap.size X W) (hb : Below W.heap.size W W') : W'.cell? p = some u ∧ Below X.heap.size X W' := ⟨cell_ext h.1 hb, ext_call h.2 hb⟩

theorem spot_info : (Tryz.prog.info? 255).map (fun i => (i.zero, i.size, i.bytes)) = some (some (.agg #[.int .i64 0, .int .i64 0]), 2, 16) := by kernel_rfl

theorem sz1 (s : ByteArray) (h : s.size ≤ 2) : (⟨#[110, 111, 100, 101, 32]⟩ : ByteArray).size + s.size ≤ 9223372036854775807 := by
  have e1 : (⟨#[110, 111, 100, 101, 32]⟩ : ByteArray).size = 5 := rfl
  omega
theorem sf1 (s : ByteArray) (h : s.size ≤ 2) : ¬ 9223372036854775807 < 5 + s.size := by omega
theorem sf2 (s : ByteArray) (h : s.size ≤ 2) : ¬ 9223372036854775807 < 5 + s.size + 1 := by omega
theorem sf3 (s t : ByteArray) (h : s.size ≤ 2) (k : t.size ≤ 2) : ¬ 9223372036854775807 < 5 + s.size + 1 + t.size := by omega
theorem sz2 (s : ByteArray) (h : s.size ≤ 2) : ((⟨#[110, 111, 100, 101, 32]⟩ : ByteArray) ++ s).size + (⟨#[32]⟩ : ByteArray).size ≤ 9223372036854775807 := by
  have e1 : (⟨#[110, 111, 100, 101, 32]⟩ : ByteArray).size = 5 := rfl
  have e2 : (⟨#[32]⟩ : ByteArray).size = 1 := rfl
  rw [ByteArray.size_append]
  omega
theorem sz3 (s t : ByteArray) (h : s.size ≤ 2) (k : t.size ≤ 2) : (((⟨#[110, 111, 100, 101, 32]⟩ : ByteArray) ++ s) ++ (⟨#[32]⟩ : ByteArray)).size + t.size ≤ 9223372036854775807 := by
  have e1 : (⟨#[110, 111, 100, 101, 32]⟩ : ByteArray).size = 5 := rfl
  have e2 : (⟨#[32]⟩ : ByteArray).size = 1 := rfl
  rw [ByteArray.size_append, ByteArray.size_append]
  omega
theorem sz4 (s t : ByteArray) (h : s.size ≤ 2) (k : t.size ≤ 2) : ((((⟨#[110, 111, 100, 101, 32]⟩ : ByteArray) ++ s) ++ (⟨#[32]⟩ : ByteArray)) ++ t).size ≤ 100000 := by
  have e1 : (⟨#[110, 111, 100, 101, 32]⟩ : ByteArray).size = 5 := rfl
  have e2 : (⟨#[32]⟩ : ByteArray).size = 1 := rfl
  rw [ByteArray.size_append, ByteArray.size_append, ByteArray.size_append]
  omega

theorem cells_two_new (w : World) (u v : Value) (t : TypeId) : ∀ (j : Nat) (x : Value), [u, v][j]? = some x → (w.alloc (.cells #[u, v] t)).cell? ((⟨w.heap.size, 0, none⟩ : Addr).add j) = some x := by
  intro j x h
  rw [add_lit0]
  have hb := Blk.new w t #[u, v]
  match j, h with
  | 0, h => simp at h; subst h; exact hb.cell 0
  | 1, h => simp at h; subst h; exact hb.cell 1
  | (j + 2), h => simp at h

theorem insFacts (ns : List Nat) (i k q n : Nat) (p : Int) (xs : List (Int × Nat)) (hn : ns[i]? = some n)
    (h : xs.length = 4 * i + k ∧ (∀ x ∈ xs, x.2 ∈ ns) ∧ (∀ n ∈ ns.take i, ∃ x ∈ xs, x.2 = n) ∧ (0 < k → ∀ n, ns[i]? = some n → ∃ x ∈ xs, x.2 = n)) (hq : q ≤ xs.length) :
    (xs.take q ++ (p, n) :: xs.drop q).length = 4 * i + (k + 1) ∧ (∀ x ∈ xs.take q ++ (p, n) :: xs.drop q, x.2 ∈ ns) ∧ (∀ n' ∈ ns.take i, ∃ x ∈ xs.take q ++ (p, n) :: xs.drop q, x.2 = n') ∧ (0 < k + 1 → ∀ n', ns[i]? = some n' → ∃ x ∈ xs.take q ++ (p, n) :: xs.drop q, x.2 = n') := by
  obtain ⟨h1, h2, h3, _⟩ := h
  have hmem : ∀ x, x ∈ xs → x ∈ xs.take q ++ (p, n) :: xs.drop q := fun x hx => by
    rw [← List.take_append_drop q xs, List.mem_append] at hx
    rw [List.mem_append, List.mem_cons]
    rcases hx with h | h
    · exact .inl h
    · exact .inr (.inr h)
  refine ⟨by simp; omega, fun x hx => ?_, fun n' hn' => ?_, fun _ n' hn' => ⟨(p, n), by simp, ?_⟩⟩
  · rw [List.mem_append, List.mem_cons] at hx
    rcases hx with h | rfl | h
    · exact h2 x (List.mem_of_mem_take h)
    · exact List.mem_of_getElem? hn
    · exact h2 x (List.mem_of_mem_drop h)
  · obtain ⟨x, hx, e⟩ := h3 n' hn'
    exact ⟨x, hmem x hx, e⟩
  · rw [hn] at hn'
    injection hn'

/-- what is known of the row of spots -/
def SpotsI (w : World) (ns : List Nat) (i k : Nat) (v : Value) (W : World) : Prop := ∃ xs : List (Int × Nat),
  W.ownsRow w.heap.size 255 2 v xs.length (pc xs) ∧ Below w.heap.size w W ∧ Hid (xs.length = 4 * i + k ∧ (∀ x ∈ xs, x.2 ∈ ns) ∧ (∀ n ∈ ns.take i, ∃ x ∈ xs, x.2 = n) ∧ (0 < k → ∀ n, ns[i]? = some n → ∃ x ∈ xs, x.2 = n))

set_option maxRecDepth 100000 in
set_option maxHeartbeats 4000000 in
theorem spots_any (ns : List Nat) (v : Value) (w : World) (hv : MemsAt w v ns) (hn : NodesOK ns) : Calls Tryz.prog 154 #[v] w fun e w' => (∃ u, e = .returned u ∧ SpotsI w ns ns.length 0 u w') := by
  have HV := Lib.hid hv
  have HN := Lib.hid hn
  obtain ⟨A, c, rfl, hc, _⟩ := hv
  have hfew := hn.few
  clear hn
  obtain ⟨is, his, hzs0, hzs1, hzs2⟩ := info_parts spot_info
  go_enter Tryz.func154, Tryz.ntmps154
  go_wp2
  go_loopw [3, 4, 5, 6, 7] (fun o i _ _ _ W => ∃ k : Nat, k ≤ ns.length ∧ i = .int .i64 k ∧ SpotsI w ns k 0 o W) (fun _ i _ _ _ _ => ns.length - (intOf i).toNat)
  case atStart => exact ⟨0, Nat.zero_le _, rfl, [], World.ownsRow_nil _ _ _ _, ext_refl w, ⟨rfl, (fun x h => by cases h), (fun n h => by simp at h), (fun h => absurd h (by omega))⟩⟩
  case round =>
    obtain ⟨i, hi, rfl, hS⟩ := hrel
    have HS := Lib.hid hS
    clear hS
    by_cases hlt : i < ns.length
    · obtain ⟨n, hn⟩ : ∃ n, ns[i]? = some n := ⟨_, List.getElem?_eq_getElem hlt⟩
      have hn24 : n < 24 := HN.out.below n (List.mem_of_getElem? hn)
      have HNN := Lib.hid hn
      have d1 : decide ((i : Int) < (ns.length : Int)) = true := by simp; omega
      have q0 : (0 : Int) ≤ (i : Int) := by omega
      have q1 : (i : Int) < (ns.length : Int) := by omega
      clear hn
      go_wp2
      go_loopw [3, 5, 6, 7] (fun o j _ _ W => ∃ k : Nat, k ≤ 4 ∧ j = .int .i64 k ∧ SpotsI w ns i k o W) (fun _ j _ _ _ => 4 - (intOf j).toNat)
      case atStart => exact ⟨0, by omega, rfl, HS.out⟩
      case round =>
        obtain ⟨k, hk, rfl, hS⟩ := hrel
        obtain ⟨xs, hown, hE, hX⟩ := hS
        have HLen := Lib.hid (show xs.length ≤ 100 by have := hX.out.1; omega)
        have HO := Lib.hid hown
        have HE := Lib.hid hE
        clear hown hE
        obtain ⟨b, off, c', hA, _, c0, c1, c2⟩ := (HV.out.ext HE.out).at_ HNN.out
        injection hA with hA hn' hc'
        subst hA; subst hc'
        clear hn'
        by_cases hk4 : k < 4
        · have d2 : decide ((k : Int) < 4) = true := by simp; omega
          go_upto_region 8 with (fail)
          go_cut [6] from 24 to 41 (fun x W => ∃ (bx : Nat) (p : Int), x = .pointer (some ⟨bx, 0, none⟩) ∧ wr.heap.size ≤ bx ∧ Blk W bx 255 #[.int .i64 p, .int .i64 n] ∧ Below wr.heap.size wr W)
          case first =>
            have c0x := cell_ext c0 (ext_new wr (.cells #[.int .i64 0, .int .i64 0] 255))
            refine wp_region_noPanic ?_
            go_region_law (first
              | (go_simp; go_at_call 155; (with_reducible refine (point12_any _ _ hh4).mono ?_); rintro e w' ⟨⟨z, rfl⟩, rfl⟩)
              | (go_simp; go_at_call 156; (with_reducible refine (digits_any n (by omega) _).mono ?_); rintro e W1 ⟨⟨s1, rfl, hz1⟩, hb1⟩; have hh1 := sz1 s1 hz1; have hh2 := sz2 s1 hz1; have hf1 := sf1 s1 hz1; have hf2 := sf2 s1 hz1;
                  have c0a : W1.cell? ⟨b, off + i * 3, none⟩ = some (.int .i64 n) := cell_ext (by first | exact c0 | exact c0x | exact cell_ext c0 (ext_new _ _)) hb1;
                  have c0ax := cell_ext c0a (ext_new W1 (.cells #[.int .i64 0, .int .i64 0] 255));
                  have hE1 : Below wr.heap.size wr W1 := ext_call (by first | exact ext_refl wr | exact ext_new wr _ | exact (ext_refl wr).drew | exact (ext_new wr _).drew) hb1;
                  first | (have hxa : Blk W1 wr.heap.size 255 #[.int .i64 0, .int .i64 0] := Blk.ext (W := (wr.alloc (.cells #[.int .i64 0, .int .i64 0] 255)).drew) (show Blk (wr.alloc (.cells #[.int .i64 0, .int .i64 0] 255)) wr.heap.size 255 #[.int .i64 0, .int .i64 0] from Blk.new wr _ _) hb1) | skip)
              | (go_simp; go_at_call 156; (with_reducible refine (digits_any k (by omega) _).mono ?_); rintro e W2 ⟨⟨s2, rfl, hz2⟩, hb2⟩; have hh3 := sz3 s1 s2 hz1 hz2; have hf3 := sf3 s1 s2 hz1 hz2; have hh4 := sz4 s1 s2 hz1 hz2;
                  have c0b : W2.cell? ⟨b, off + i * 3, none⟩ = some (.int .i64 n) := cell_ext (by first | exact c0a | exact c0ax | exact cell_ext c0a (ext_new _ _)) hb2;
                  have hE2 : Below wr.heap.size wr W2 := ext_call (by first | exact hE1 | exact ext_alloc hE1 _) hb2;
                  have c0c := cell_ext c0b (ext_new W2 (.cells #[.int .i64 0, .int .i64 0] 255));
                  first
                    | (have hxb : Blk W2 wr.heap.size 255 #[.int .i64 0, .int .i64 0] := hxa.ext hb2; have bx0 := hxb.cell 0; have bx1 := hxb.cell 1; have bf0 := hxb.frozen 0; have bf1 := hxb.frozen 1)
                    | (have hxb : Blk W2 W1.heap.size 255 #[.int .i64 0, .int .i64 0] := Blk.ext (W := W1.alloc (.cells #[.int .i64 0, .int .i64 0] 255)) (Blk.new W1 _ _) hb2; have bx0 := hxb.cell 0; have bx1 := hxb.cell 1; have bf0 := hxb.frozen 0; have bf1 := hxb.frozen 1)
                    | skip))
            all_goals
              refine NoPanic.normal ?_
              go_wp2_with fail
              go_meet
              case rel =>
                first
                  | exact ⟨_, _, rfl, by first | exact Nat.le_refl _ | exact hE1.size | exact hE2.size, (hxb.set_ 0 _).set_ 1 _, ext_set (ext_set hE2 (by first | exact Nat.le_refl _ | exact hE1.size) _) (by first | exact Nat.le_refl _ | exact hE1.size) _⟩
                  | exact ⟨_, _, rfl, hE2.size, ((Blk.new W2 _ _).set_ 0 _).set_ 1 _, ext_set (ext_set (ext_alloc hE2 _) hE2.size _) hE2.size _⟩
                  | exact ⟨_, _, rfl, hE2.size, Blk.new W2 _ _, ext_alloc hE2 _⟩
          case rest =>
            obtain ⟨bx, p, rfl, hbx, hB, hEc⟩ := hcut
            obtain ⟨A3, cap3, hu3⟩ := own_shape HO.out
            subst hu3
            have HNe := Lib.hid (show some bx ≠ (Value.slice A3 xs.length cap3).ownBlock from fun e => by have := (HO.out.lt bx e.symm).2; omega)
            have HO2 := Lib.hid (own_below HO.out hEc)
            have HB2 := Lib.hid hB
            have HE2 := Lib.hid (ext_call HE.out hEc)
            have HXX := Lib.hid hX.out
            generalize wc = wd at *
            clear hB hEc hX c0 c1 c2 HO HE d2
            go_upto_block 4 with (fail)
            go_cut [7] from 44 to 58 (fun a W => ∃ q : Nat, q ≤ xs.length ∧ a = .int .i64 q ∧ W.ownsRow w.heap.size 255 2 (.slice A3 xs.length cap3) xs.length (pc xs) ∧ Blk W bx 255 #[.int .i64 p, .int .i64 n] ∧ Below w.heap.size w W)
            case first =>
              go_wp2_with fail
              go_loopw [7] (fun a W => ∃ q : Nat, q ≤ xs.length ∧ a = .int .i64 q ∧ W.ownsRow w.heap.size 255 2 (.slice A3 xs.length cap3) xs.length (pc xs) ∧ Blk W bx 255 #[.int .i64 p, .int .i64 n] ∧ Below w.heap.size w W) (fun a _ => (intOf a).toNat)
              case atStart => exact ⟨xs.length, Nat.le_refl _, rfl, HO2.out, HB2.out, HE2.out⟩
              case round =>
                obtain ⟨q, hq, rfl, ho, hB, hE⟩ := hrel
                have HO4 := Lib.hid ho
                have HB4 := Lib.hid hB
                have HE4 := Lib.hid hE
                have x0 := hB.cell 0
                by_cases hq0 : q = 0
                · subst hq0
                  have d3 : decide ((0 : Int) < ((0 : Nat) : Int)) = false := by simp
                  clear ho hB hE
                  go_wp2_with fail
                  go_quiet (fail)
                  go_wp2_with fail
                  go_meet
                  case rel => exact ⟨0, Nat.zero_le _, rfl, own_below HO4.out (below_drewN (Below.refl _ _) nq), HB4.out.ext (below_drewN (Below.refl _ _) nq), ext_drewN HE4.out nq⟩
                · obtain ⟨m, rfl⟩ : ∃ m, q = m + 1 := ⟨q - 1, by omega⟩
                  obtain ⟨y, hy⟩ : ∃ y, xs[m]? = some y := ⟨_, List.getElem?_eq_getElem (by omega)⟩
                  obtain ⟨g3, c3', hA3, _, _⟩ := ho.form (by omega)
                  injection hA3 with hA3 _ hc3
                  subst hA3; subst hc3
                  have hy0 := (SpotRow.cell (show SpotRow wr w.heap.size g3 cap3 xs from ho) hy).1
                  have d3 : decide ((0 : Int) < ((m + 1 : Nat) : Int)) = true := by simp
                  have e3 : IntKind.i64.wrap (m : Int) = (m : Int) := IntWalk.i64_in _ (by have := HLen.out; omega)
                  have q3 : (m : Int) < (xs.length : Int) := by omega
                  have q4 : (0 : Int) ≤ (m : Int) := by omega
                  obtain ⟨y1, hy1⟩ : ∃ y1, y1 = y.1 := ⟨_, rfl⟩
                  rw [← hy1] at hy0
                  clear ho hB hE hq0 hy1 hy
                  by_cases hp : p < y1
                  · have d4 : decide (p < y1) = true := by simp [hp]
                    go_wp2_with fail
                    go_quiet (fail)
                    go_wp2_with fail
                    go_roundw
                    case rel => exact ⟨m, by omega, by go_num, own_below HO4.out (below_drewN (Below.refl _ _) nq), HB4.out.ext (below_drewN (Below.refl _ _) nq), ext_drewN HE4.out nq⟩
                    case measure => simp [intOf]; try omega
                  · have d4 : decide (p < y1) = false := by simp; omega
                    go_wp2_with fail
                    go_quiet (fail)
                    go_wp2_with fail
                    go_meet
                    case rel => exact ⟨m + 1, by omega, by go_num, own_below HO4.out (below_drewN (Below.refl _ _) nq), HB4.out.ext (below_drewN (Below.refl _ _) nq), ext_drewN HE4.out nq⟩
            case rest =>
              obtain ⟨q, hq, rfl, ho3, hB3, hE3⟩ := hcut
              generalize wc = we at *
              have HO3 := Lib.hid ho3
              have HB3 := Lib.hid hB3
              have HE3 := Lib.hid hE3
              have x0 := hB3.cell 0
              have x1 := hB3.cell 1
              have hxl := HLen.out
              have hws := hE3.size
              have hbw := hB3.lt
              clear ho3 hB3 hE3 HO2 HB2 HE2
              go_wp2_with (at_builtin; refine wpList_append_own _ rfl (.tmp 59) (.tmp 61) 250 rfl w.heap.size 255 is (.agg #[.int .i64 0, .int .i64 0]) 2 16 Tryz.underlying250 his hzs0 hzs1 hzs2 rfl (by decide) (.slice A3 xs.length cap3) xs.length (pc xs) rfl (HO3.out.alloc _) ⟨we.heap.size, 0, none⟩ 1 1 [.int .i64 p, .int .i64 n] rfl rfl (cells_two_new _ _ _ _) ?_ ?_ ?_ ?_ ?_; (simp [Value.oneCell']); (unfold maxLen; omega); omega; (rw [World.size_alloc]; omega); intro v4 W4 ho4 hg4 _)
              obtain ⟨g5, c5, hv5, _, _⟩ := ho4.form (by omega)
              subst hv5
              have hsr : SpotRow W4 w.heap.size g5 c5 (xs ++ [(p, n)]) := by
                unfold SpotRow
                rw [pc_append, List.length_append]
                exact ho4
              have hcap : xs.length + 1 ≤ c5 := by
                obtain ⟨_, _, _, h, _⟩ := hsr.block
                simpa using h
              have HB5 := Lib.hid (show Blk W4 bx 255 #[.int .i64 p, .int .i64 n] from (hg4.block bx (by rw [World.size_alloc]; omega) HNe.out).trans (HB3.out.alloc _))
              have HE5 := Lib.hid (show Below w.heap.size w W4 from (ext_alloc HE3.out (.cells #[.int .i64 p, .int .i64 n] 255)).grown hg4 (ext_alloc HE3.out (.cells #[.int .i64 p, .int .i64 n] 255)).size (fun k e => ((HO3.out.alloc (.cells #[.int .i64 p, .int .i64 n] 255)).lt k e).1))
              have HSR := Lib.hid hsr
              clear hsr ho4 hg4 x0 x1 HO3 HB3 HE3
              by_cases hqm : q < xs.length
              · obtain ⟨W5, hrun, hsr5, hg5⟩ := (show SpotRow W4.drew w.heap.size g5 c5 (xs ++ [(p, n)]) from HSR.out).shift (n := xs.length) (by simp) hqm
                have HS5 := Lib.hid hsr5
                have HG5 := Lib.hid hg5
                have e5 : IntKind.i64.wrap ((q : Int) + 1) = (q : Int) + 1 := by rw [IntWalk.i64_in _ (by omega)]
                clear hsr5 hg5
                have e6 : xs.length + 1 - (q + 1) = xs.length - q := by omega
                rw [e6] at hrun
                have hne : bx ≠ g5 := by
                  rintro rfl
                  obtain ⟨_, cur, hg, _, _, hcz, _⟩ := HSR.out.block
                  have hb := HB5.out
                  unfold Blk at hb
                  rw [hg] at hb
                  injection hb with hb
                  injection hb with hb
                  rw [hb] at hcz
                  simp at hcz
                  omega
                have HB6 := Lib.hid (show Blk W5 bx 255 #[.int .i64 p, .int .i64 n] from (HG5.out.block bx HB5.out.lt (fun e => hne (by injection e))).trans HB5.out)
                have x0 := HB6.out.cell 0
                have x1 := HB6.out.cell 1
                have hyl : q < ((xs ++ [(p, n)]).take (q + 1) ++ ((xs ++ [(p, n)]).drop q).take (xs.length - q)).length := by simp; omega
                obtain ⟨y0, y1⟩ := HS5.out.cell (List.getElem?_eq_getElem hyl)
                generalize (((xs ++ [(p, n)]).take (q + 1) ++ ((xs ++ [(p, n)]).drop q).take (xs.length - q))[q]) = yy at y0 y1
                have f0 := HS5.out.frozen (q * 2)
                have f1 := HS5.out.frozen (q * 2 + 1)
                have q6 : (0 : Int) ≤ (q : Int) := by omega
                have q7 : (q : Int) < (xs.length : Int) + 1 := by omega
                have HYL := Lib.hid hyl
                clear hne hyl e6
                go_upto_region 13 with (fail)
                go_region
                all_goals
                  go_wp2
                  go_roundw
                  case rel =>
                    have hput := HS5.out.put HYL.out (p, n)
                    rw [insert_mid xs (p, n) q hqm] at hput
                    have hfx := insFacts ns i k q n p xs HNN.out HXX.out hq
                    refine ⟨k + 1, by omega, by go_num, xs.take q ++ (p, n) :: xs.drop q, ?_, ?_, hfx⟩
                    · unfold SpotRow at hput
                      have hl : (xs.take q ++ (p, n) :: xs.drop q).length = xs.length + 1 := by simp; omega
                      rw [hl] at hput ⊢
                      exact hput
                    · exact ext_set (ext_set ((HE5.out.drew).grown HG5.out HE5.out.size (fun k e => by injection e with e; rw [← e]; exact HSR.out.block.1)) HSR.out.block.1 _) HSR.out.block.1 _
                  case measure => simp [intOf]; omega
              · obtain rfl : q = xs.length := by omega
                have hrun0 := fun (dp : Option Addr) (dCap : Nat) (a : Addr) (sLen sCap : Nat) => run_copy_0 (P := Tryz.prog) W4.drew 250 250 3 255 dp dCap a sLen sCap Tryz.underlying250 (by kernel_rfl)
                have e5 : IntKind.i64.wrap ((xs.length : Int) + 1) = (xs.length : Int) + 1 := by rw [IntWalk.i64_in _ (by omega)]
                have x0 := HB5.out.cell 0
                have x1 := HB5.out.cell 1
                obtain ⟨y0, y1⟩ := HSR.out.cell (k := xs.length) (x := (p, n)) (by simp)
                have f0 := HSR.out.frozen (xs.length * 2)
                have f1 := HSR.out.frozen (xs.length * 2 + 1)
                have q6 : (0 : Int) ≤ (xs.length : Int) := by omega
                by_cases hcc : c5 = xs.length + 1
                all_goals
                  go_upto_region 13 with (fail)
                  go_region
                  all_goals
                    go_wp2
                    go_roundw
                    case rel =>
                      have hput := (show SpotRow W4.drew w.heap.size g5 c5 (xs ++ [(p, n)]) from HSR.out).put (k := xs.length) (by simp) (p, n)
                      rw [insert_last xs (p, n)] at hput
                      have hfx := insFacts ns i k xs.length n p xs HNN.out HXX.out (Nat.le_refl _)
                      refine ⟨k + 1, by omega, by go_num, xs.take xs.length ++ (p, n) :: xs.drop xs.length, ?_, ?_, hfx⟩
                      · unfold SpotRow at hput
                        have hl : (xs.take xs.length ++ (p, n) :: xs.drop xs.length).length = xs.length + 1 := by simp
                        rw [hl] at hput ⊢
                        exact hput
                      · exact ext_set (ext_set (HE5.out.drew) HSR.out.block.1 _) HSR.out.block.1 _
                    case measure => simp [intOf]; omega
        · have d2 : decide ((k : Int) < 4) = false := by simp; omega
          have hx := hX.out
          obtain rfl : k = 4 := by omega
          have hfx : xs.length = 4 * (i + 1) + 0 ∧ (∀ x ∈ xs, x.2 ∈ ns) ∧ (∀ n ∈ ns.take (i + 1), ∃ x ∈ xs, x.2 = n) ∧ (0 < 0 → ∀ n, ns[i + 1]? = some n → ∃ x ∈ xs, x.2 = n) := by
            obtain ⟨h1, h2, h3, h4⟩ := hx
            refine ⟨by omega, h2, fun n' hn' => ?_, fun h => absurd h (by omega)⟩
            rw [List.take_add_one, HNN.out] at hn'
            rcases List.mem_append.1 hn' with h | h
            · exact h3 n' h
            · simp at h
              subst h
              exact h4 (by omega) _ HNN.out
          have HFX := Lib.hid hfx
          have e2 : IntKind.i64.wrap ((i : Int) + 1) = (i : Int) + 1 := by rw [IntWalk.i64_in _ (by omega)]
          clear hx hfx hX
          go_wp2
          go_roundw
          case rel => exact ⟨i + 1, by omega, by go_num, xs, HO.out, HE.out, HFX.out⟩
          case measure => simp [intOf]; omega
    · have d1 : decide ((i : Int) < (ns.length : Int)) = false := by simp; omega
      obtain rfl : i = ns.length := by omega
      go_wp2
      go_ret
      exact ⟨_, rfl, HS.out⟩

end Go.Proofs.YtbgfmbmcabekeaaGreatDoor

/-
  package cachetierref12: Assign at a list of members of weight 1.
-/
namespace Go.Proofs.YtbgfmbmcabekeaaGreatDoor
open Go.RowKit Go.Shelf

/-- how many slots each node owns -/
def loadC (os : List Nat) : Array Value := ((List.range 24).map fun n => Value.int .i64 (os.count n : Int)).toArray
/-- what is known between two slots: X the world behind 'make' -/
def AssI (X : World) (gl : Nat) (ns os : List Nat) (k : Nat) (v : Value) (W : World) : Prop :=
  Ext2 gl gl X W ∧ Blk W gl 3 (loadC os) ∧ W.ownsRow X.heap.size 3 1 v os.length (os.map fun n : Nat => Value.int .i64 (n : Int)) ∧ Hid (os.length = k ∧ (∀ o ∈ os, o ∈ ns) ∧ ∀ n, (os.count n : Int) ≤ limF ns.length)

theorem cyc (f t m : Nat) (ht : t < m) : (f + (t + m - f % m) % m) % m = t := by
  have h1 : f % m < m := Nat.mod_lt _ (by omega)
  rw [Nat.add_mod, Nat.mod_mod]
  rcases Nat.lt_or_ge t (f % m) with h | h
  · rw [Nat.mod_eq_of_lt (a := t + m - f % m) (by omega), show f % m + (t + m - f % m) = t + m by omega, Nat.add_mod_right, Nat.mod_eq_of_lt ht]
  · rw [show t + m - f % m = (t - f % m) + m by omega, Nat.add_mod_right, Nat.mod_eq_of_lt (a := t - f % m) (by omega), show f % m + (t - f % m) = t by omega, Nat.mod_eq_of_lt ht]
theorem limF_all (m : Nat) (h0 : 0 < m) (h1 : m ≤ 24) : 64 ≤ m * (limF m).toNat := by
  have : ∀ m : Fin 25, 0 < m.val → 64 ≤ m.val * (limF m.val).toNat := by decide
  exact this ⟨m, by omega⟩ h0

theorem keepNB {X W : World} {p : Addr} {u : Value} (h : W.cell? p = some u ∧ Below X.heap.size X W) : Below X.heap.size X W := h.2
theorem loadC_get (os : List Nat) (o : Nat) (h : o < 24) : (loadC os)[o]? = some (.int .i64 (os.count o : Int)) := by
  unfold loadC
  simp [h]
theorem loadC_set (os : List Nat) (o : Nat) (h : o < 24) : loadC (os ++ [o]) = (loadC os).setIfInBounds o (.int .i64 ((os.count o : Int) + 1)) := by
  apply Array.ext'
  apply List.ext_getElem?
  intro i
  unfold loadC
  simp only [Array.toList_setIfInBounds, List.getElem?_map, List.getElem?_set, List.length_map, List.length_range, List.getElem?_range']
  by_cases hi : i < 24
  · by_cases ho : o = i
    · subst ho
      simp [h, List.count_append]
    · simp [hi, ho, List.count_append, List.count_cons]
  · have : ¬ o = i := by omega
    simp [hi, this]
theorem AssI.ext {X W W' : World} {gl k : Nat} {ns os : List Nat} {v : Value} (h : AssI X gl ns os k v W) (hb : Below W.heap.size W W') : AssI X gl ns os k v W' := ⟨h.1.ext hb, h.2.1.ext hb, own_below h.2.2.1 hb, h.2.2.2⟩

theorem grown_set (w : World) (g i : Nat) (u : Value) : w.grownBy (w.setCell ⟨g, i, none⟩ u) (some g) := ⟨rfl, rfl, rfl, by simp [World.setCell], fun k _ hk => Below.heap_setCell w ⟨g, i, none⟩ u k (fun e => hk (by rw [e]))⟩
theorem AssI.ownSet {X W : World} {gl k : Nat} {ns os : List Nat} {v u : Value} {i : Nat} (h : AssI X gl ns os k v W) (hgl : gl < X.heap.size) :
    (W.setCell ⟨gl, i, none⟩ u).ownsRow X.heap.size 3 1 v os.length (os.map fun n : Nat => Value.int .i64 (n : Int)) := by
  refine h.2.2.1.kept (grown_set W gl i u) ?_
  cases hv : v.ownBlock with
  | none => exact .inl rfl
  | some b =>
    refine .inr fun e => ?_
    have := (h.2.2.1.lt b hv).1
    injection e with e
    omega
theorem AssI.step {X W W7 : World} {gl k : Nat} {ns os : List Nat} {o cn : Nat} {v v7 : Value} (h : AssI X gl ns os k v W) (hgl : gl < X.heap.size) (ho : o ∈ ns) (ho24 : o < 24) (hcn : cn = os.count o) (hlt : (cn : Int) < limF ns.length) (obj : Obj)
    (ho7 : W7.ownsRow X.heap.size 3 1 v7 (os.length + 1) ((os.map fun n : Nat => Value.int .i64 (n : Int)) ++ [.int .i64 (o : Int)]))
    (hg7 : ((W.setCell ⟨gl, o, none⟩ (.int .i64 ((cn : Int) + 1))).alloc obj).grownBy W7 v.ownBlock) : AssI X gl ns (os ++ [o]) (k + 1) v7 W7 := by
  have hsz : X.heap.size ≤ W.heap.size := h.1.size
  have hne : ∀ b, b < X.heap.size → some b ≠ v.ownBlock := fun b hb e => by
    have := (h.2.2.1.lt b e.symm).1
    omega
  have hset := h.1.setA o (.int .i64 ((cn : Int) + 1))
  have hal := hset.ext (ext_new _ obj)
  have hlt2 : ∀ b, b < X.heap.size → b < ((W.setCell ⟨gl, o, none⟩ (.int .i64 ((cn : Int) + 1))).alloc obj).heap.size := fun b hb => Nat.lt_of_lt_of_le hb hal.size
  refine ⟨⟨hg7.os.trans hal.os, hg7.tape.trans hal.tape, hg7.output.trans hal.output, Nat.le_trans hal.size hg7.size, fun b hb h1 h2 => (hg7.block b (hlt2 b hb) (hne b hb)).trans (hal.block b hb h1 h2)⟩, ?_, ?_, ?_⟩
  · rw [loadC_set os o ho24, ← hcn]
    have hb := (h.2.1.set_ o (.int .i64 ((cn : Int) + 1))).alloc obj
    exact (hg7.block gl (hlt2 gl hgl) (hne gl hgl)).trans hb
  · rw [List.length_append, List.map_append]
    exact ho7
  · obtain ⟨h1, h2, h3⟩ := h.2.2.2.out
    refine ⟨by simp [h1], fun x hx => ?_, fun n => ?_⟩
    · rcases List.mem_append.1 hx with hx | hx
      · exact h2 x hx
      · simp at hx
        rw [hx]; exact ho
    · rw [List.count_append]
      by_cases hno : o = n
      · subst hno
        simp
        omega
      · have := h3 n
        simpa [List.count_cons, hno] using this

theorem mk24 (w : World) : (Instr.makeSlice 28 (.int .i64 24) (.int .i64 24)).run Tryz.prog w = .ok (.slice (some ⟨w.heap.size, 0, none⟩) 24 24) (w.alloc (.cells (loadC []) 3)) := by
  have h := run_make_row' (P := Tryz.prog) 28 3 (.int .i64 0) 8 Tryz.underlying28 int_info rfl .i64 .i64 24 (by decide) (by decide) w
  rw [show madeCells #[Value.int .i64 0] 24 = loadC [] by kernel_rfl] at h
  exact h

set_option maxRecDepth 100000 in
set_option maxHeartbeats 4000000 in
theorem assign_any (ns : List Nat) (v : Value) (w : World) (hv : MemsAt w v ns) (hn : NodesOK ns) : Calls Tryz.prog 106 #[v] w fun e w' =>
    ∃ u os, e = .returned (.tuple #[u, .int .i64 0]) ∧ NumsAt w' u os ∧ os.length = 64 ∧ (∀ o ∈ os, o ∈ ns) ∧ (∀ n, (os.count n : Int) ≤ limF ns.length) ∧ Below w.heap.size w w' := by
  have HV := Lib.hid hv
  have HN := Lib.hid hn
  have HRV := Lib.hid (v12_yes ns v w hv hn)
  have HSP := Lib.hid (fun W (k : Below w.heap.size w W) => spots_any ns v W (hv.ext k) hn)
  obtain ⟨A, c, rfl, hc, _⟩ := hv
  have hfew := hn.few
  have hsome := hn.some_
  clear hn
  go_enter Tryz.func106, Tryz.ntmps106
  go_wp2_with fail
  refine HRV.out.mono ?_
  rintro e W1 ⟨rfl, hb1⟩
  have HE1 := Lib.hid hb1
  clear hb1
  go_wp2_with fail
  refine (HSP.out _ HE1.out).mono ?_
  rintro e W2 ⟨va, rfl, xs, hown, hb2, hxs⟩
  obtain ⟨g0, c0, hva, _, _⟩ := hown.form (by
    have := hxs.out.1
    omega)
  subst hva
  have HE2 := Lib.hid (ext_call HE1.out hb2)
  have HSR := Lib.hid (show SpotRow W2 W1.heap.size g0 c0 xs from hown)
  have HXS := Lib.hid hxs.out
  clear hown hb2 hxs
  have hmk := mk24 W2
  go_wp2_with fail
  obtain ⟨X, hX⟩ : ∃ X, X = W2.alloc (.cells (loadC []) 3) := ⟨_, rfl⟩
  rw [← hX]
  have HBX := Lib.hid (show Blk X W2.heap.size 3 (loadC []) by rw [hX]; exact Blk.new _ _ _)
  have HEX := Lib.hid (show Below w.heap.size w X by rw [hX]; exact ext_alloc HE2.out _)
  have HSX := Lib.hid (show SpotRow X W1.heap.size g0 c0 xs by rw [hX]; exact HSR.out.alloc _)
  have HGL := Lib.hid (show w.heap.size ≤ W2.heap.size from HE2.out.size)
  have HG0 := Lib.hid (show g0 < W2.heap.size from (HSR.out.lt g0 rfl).2)
  clear hX hmk HSR HE2 HRV HSP HE1
  generalize W2.heap.size = gl at *
  go_loopw [6, 7, 8, 9, 10, 11] (fun o s _ _ _ _ W => ∃ k : Nat, k ≤ 64 ∧ s = .int .i64 k ∧ ∃ os, AssI X gl ns os k o W) (fun _ s _ _ _ _ _ => 64 - (intOf s).toNat)
  case atStart => exact ⟨0, by omega, rfl, [], Ext2.of_ext (ext_refl X), HBX.out, World.ownsRow_nil _ _ _ _, ⟨rfl, (fun o h => by cases h), (fun n => by have := limF_le ns.length hsome hfew; simp; omega)⟩⟩
  case round =>
    obtain ⟨k, hk, rfl, os, hA⟩ := hrel
    have HA := Lib.hid hA
    clear hA
    by_cases hk64 : k < 64
    · have d1 : decide ((k : Int) < 64) = true := by simp; omega
      go_wp2_with fail
      refine (digits_any k (by omega) _).mono ?_
      rintro e W3 ⟨⟨s1, rfl, hz1⟩, hb3⟩
      have hf1 := sf1 s1 hz1
      have hsz : ((⟨#[115, 108, 111, 116, 32]⟩ : ByteArray) ++ s1).size ≤ 100000 := by
        have e1 : (⟨#[115, 108, 111, 116, 32]⟩ : ByteArray).size = 5 := rfl
        rw [ByteArray.size_append]
        omega
      have HA3 := Lib.hid (show AssI X gl ns os k u6 W3 from ⟨HA.out.1.ext hb3, HA.out.2.1.ext hb3, own_below HA.out.2.2.1 hb3, HA.out.2.2.2⟩)
      clear hb3
      go_wp2_with fail
      refine (point12_any _ _ hsz).mono ?_
      rintro e W4 ⟨⟨z, rfl⟩, rfl⟩
      clear hsz hf1 hz1
      have hcell : ∀ (q : Nat) (x : Int × Nat), xs[q]? = some x → ∀ W, Ext2 gl gl X W → W.cell? ⟨g0, q * 2, none⟩ = some (.int .i64 x.1) ∧ W.cell? ⟨g0, q * 2 + 1, none⟩ = some (.int .i64 (x.2 : Int)) := fun q x hx W k =>
        ⟨cell_ext2 (HSX.out.cell hx).1 k (show g0 ≠ gl by have := HG0.out; omega) (show g0 ≠ gl by have := HG0.out; omega), cell_ext2 (HSX.out.cell hx).2 k (show g0 ≠ gl by have := HG0.out; omega) (show g0 ≠ gl by have := HG0.out; omega)⟩
      have HC := Lib.hid hcell
      have hxl : xs.length ≤ 100 := by have := HXS.out.1; omega
      have hx0 : 0 < xs.length := by have := HXS.out.1; omega
      have HXL := Lib.hid hxl
      have HX0 := Lib.hid hx0
      clear hcell
      go_upto_block 2 with (fail)
      go_cut [9] from 26 to 40 (fun f W => (∃ q : Nat, q ≤ xs.length ∧ f = .int .i64 q) ∧ W = W3)
      case first =>
        go_wp2_with fail
        go_loop [9] (fun f => ∃ q : Nat, q ≤ xs.length ∧ f = .int .i64 q) (fun f => xs.length - (intOf f).toNat)
        case atStart => exact ⟨0, Nat.zero_le _, rfl⟩
        case round =>
          obtain ⟨q, hq, rfl⟩ := hrel
          by_cases hlt : q < xs.length
          · obtain ⟨y, hy⟩ : ∃ y, xs[q]? = some y := ⟨_, List.getElem?_eq_getElem hlt⟩
            have y0 := (HC.out q y hy _ HA3.out.1).1
            obtain ⟨y1, hy1⟩ : ∃ y1, y1 = y.1 := ⟨_, rfl⟩
            rw [← hy1] at y0
            have d2 : decide ((q : Int) < (xs.length : Int)) = true := by simp; omega
            have e2 : IntKind.i64.wrap ((q : Int) + 1) = (q : Int) + 1 := by rw [IntWalk.i64_in _ (by have := HXL.out; omega)]
            have q0 : (0 : Int) ≤ (q : Int) := by omega
            have q1 : (q : Int) < (xs.length : Int) := by omega
            clear hy hy1
            by_cases hp : y1 < z
            · have d3 : decide (y1 < z) = true := by simp [hp]
              go_wp2
              go_round
              case rel => exact ⟨q + 1, by omega, by go_num⟩
              case measure => simp [intOf]; omega
            · have d3 : decide (y1 < z) = false := by simp; omega
              go_wp2_with fail
              go_meet
              case rel => exact ⟨⟨q, by omega, rfl⟩, rfl⟩
          · have d2 : decide ((q : Int) < (xs.length : Int)) = false := by simp; omega
            go_wp2_with fail
            go_meet
            case rel => exact ⟨⟨q, by omega, rfl⟩, rfl⟩
      case rest =>
        obtain ⟨⟨f, hf, rfl⟩, hw⟩ := hcut
        subst hw
        have hxl := HXL.out
        have hx0 := HX0.out
        go_wp2_with fail
        go_loopw [6, 10, 11] (fun o i _ W => ∃ j : Nat, j ≤ xs.length ∧ i = .int .i64 j ∧ AssI X gl ns os k o W ∧ Hid (∀ t, t < j → ∀ x, xs[(f + t) % xs.length]? = some x → limF ns.length ≤ os.count x.2)) (fun _ i _ _ => xs.length - (intOf i).toNat)
        case atStart => exact ⟨0, Nat.zero_le _, rfl, HA3.out, fun t h => absurd h (by omega)⟩
        case round =>
          obtain ⟨j, hj, rfl, hA, hall⟩ := hrel
          have HAj := Lib.hid hA
          clear hA
          have hxl := HXL.out
          have hx0 := HX0.out
          by_cases hlt : j < xs.length
          · obtain ⟨r, hr⟩ : ∃ r, r = (f + j) % xs.length := ⟨_, rfl⟩
            have hrl : r < xs.length := by rw [hr]; exact Nat.mod_lt _ hx0
            obtain ⟨y, hy⟩ : ∃ y, xs[r]? = some y := ⟨_, List.getElem?_eq_getElem hrl⟩
            have y0 := (HC.out r y hy _ HAj.out.1).2
            have hyn : y.2 ∈ ns := HXS.out.2.1 y (List.mem_of_getElem? hy)
            have hy24 := HN.out.below y.2 hyn
            have HY := Lib.hid (show xs[(f + j) % xs.length]? = some y from by rw [← hr]; exact hy)
            have HYN := Lib.hid hyn
            have e3 : IntKind.i64.wrap ((f : Int) + (j : Int)) = (f : Int) + (j : Int) := by rw [IntWalk.i64_in _ (by omega)]
            have e4 : ((f : Int) + (j : Int)) % (xs.length : Int) = (r : Int) := by rw [hr, Int.natCast_emod, Int.natCast_add]
            have e4' : ((f : Int) + (j : Int)).tmod (xs.length : Int) = (r : Int) := by rw [Int.tmod_eq_emod_of_nonneg (by omega)]; exact e4
            have e5 : IntKind.i64.wrap (r : Int) = (r : Int) := IntWalk.i64_in _ (by omega)
            have e6 : IntKind.i64.wrap ((j : Int) + 1) = (j : Int) + 1 := by rw [IntWalk.i64_in _ (by omega)]
            have d2 : decide ((j : Int) < (xs.length : Int)) = true := by simp; omega
            have q0 : (0 : Int) ≤ (r : Int) := by omega
            have q1 : (r : Int) < (xs.length : Int) := by omega
            generalize hyo : y.2 = o at *
            have HYO := Lib.hid hyo
            clear hr hy hyn hyo
            obtain ⟨cn, hcn⟩ : ∃ cn, cn = os.count o := ⟨_, rfl⟩
            have hlc : wr.cell? ⟨gl, o, none⟩ = some (.int .i64 (cn : Int)) := (HAj.out.2.1.cell o).trans (by rw [loadC_get os o hy24, hcn])
            have HCN := Lib.hid hcn
            have HLC := Lib.hid (show wr.cell? ⟨gl, o, none⟩ = some (.int .i64 (cn : Int)) ∧ Below wr.heap.size wr wr from ⟨hlc, ext_refl wr⟩)
            have HWr := Lib.hid (Ext2.below HEX.out HGL.out HGL.out HAj.out.1)
            have q2 : (o : Int) < 24 := by omega
            have q3 : (0 : Int) ≤ (o : Int) := by omega
            clear hcn
            by_cases hcl : (cn : Int) < limF ns.length
            · have d4 : decide ((cn : Int) < limF ns.length) = true := by simp [hcl]
              go_upto_region 17 with (fail)
              go_region_held3 (fun w' => w'.cell? ⟨gl, o, none⟩ = some (.int .i64 (cn : Int)) ∧ Below wr.heap.size wr w')
                (first | with_reducible assumption | exact keepN HLC.out (ext_refl wr).drew | exact keepN (by assumption) (by assumption))
                (first | (go_at_call 157; (with_reducible refine (limit12 ns o _ _ ?_ HN.out HYN.out).mono ?_); (exact HV.out.ext (ext_call HWr.out (keepNB (by assumption)))); rintro e W5 ⟨rfl, hb5⟩))
              have hb6 := undrew hb5
              have HA5 := Lib.hid (HAj.out.ext hb6)
              clear hb5 hb6
              obtain ⟨A6, c6, h6⟩ := own_shape HA5.out.2.2.1
              subst h6
              have hgl := HBX.out.lt
              have hf0 := HA5.out.2.1.frozen o
              have hcn2 := (limF_le ns.length hsome hfew).2
              have e7 : IntKind.i64.wrap ((cn : Int) + 1) = (cn : Int) + 1 := by rw [IntWalk.i64_in _ (by omega)]
              have hol : os.length ≤ 64 := by have := HA5.out.2.2.2.out.1; omega
              have hxs5 : X.heap.size ≤ W5.heap.size := HA5.out.1.size
              obtain ⟨ii, hii, hzi0, hzi1, hzi2⟩ := info_parts int_info
              have HOw := Lib.hid (HA5.out.ownSet (i := o) (u := .int .i64 ((cn : Int) + 1)) hgl)
              have HNW := Lib.hid (show ∀ (j : Nat) (u : Value), [Value.int .i64 (o : Int)][j]? = some u → ((W5.setCell ⟨gl, o, none⟩ (.int .i64 ((cn : Int) + 1))).alloc (.cells #[.int .i64 (o : Int)] 3)).cell? ((⟨W5.heap.size, 0, none⟩ : Addr).add j) = some u by
                have h := cell_one_new (W5.setCell ⟨gl, o, none⟩ (.int .i64 ((cn : Int) + 1))) (.int .i64 (o : Int)) 3
                rw [show (W5.setCell ⟨gl, o, none⟩ (.int .i64 ((cn : Int) + 1))).heap.size = W5.heap.size by simp [World.setCell]] at h
                exact h)
              go_wp2_with (at_builtin; refine wpList_append_own _ rfl (.tmp 71) (.tmp 73) 28 rfl X.heap.size 3 ii (.int .i64 0) 1 8 Tryz.underlying28 hii hzi0 hzi1 hzi2 rfl (by decide) (.slice A6 os.length c6) os.length _ rfl (HOw.out.alloc _) ⟨W5.heap.size, 0, none⟩ 1 1 [.int .i64 (o : Int)] rfl rfl HNW.out ?_ ?_ ?_ ?_ ?_; (simp [Value.oneCell']); (unfold maxLen; omega); omega; (rw [World.size_alloc]; simp [World.setCell]; omega); intro v7 W7 ho7 hg7 _)
              have HA7 := Lib.hid (HA5.out.step hgl HYN.out hy24 HCN.out hcl _ ho7 hg7)
              clear ho7 hg7 HOw HNW
              have e9 : IntKind.i64.wrap ((k : Int) + 1) = (k : Int) + 1 := by rw [IntWalk.i64_in _ (by omega)]
              go_wp2
              go_roundw
              case rel => exact ⟨k + 1, by omega, by go_num, os ++ [o], HA7.out⟩
              case measure => simp [intOf]; omega
            · have d4 : decide ((cn : Int) < limF ns.length) = false := by simp; omega
              go_upto_region 17 with (fail)
              go_region_held3 (fun w' => w'.cell? ⟨gl, o, none⟩ = some (.int .i64 (cn : Int)) ∧ Below wr.heap.size wr w')
                (first | with_reducible assumption | exact keepN HLC.out (ext_refl wr).drew | exact keepN (by assumption) (by assumption))
                (first | (go_at_call 157; (with_reducible refine (limit12 ns o _ _ ?_ HN.out HYN.out).mono ?_); (exact HV.out.ext (ext_call HWr.out (keepNB (by assumption)))); rintro e W5 ⟨rfl, hb5⟩))
              have hb6 := undrew hb5
              have HA5 := Lib.hid (HAj.out.ext hb6)
              have HAL := Lib.hid (show ∀ t, t < j + 1 → ∀ x, xs[(f + t) % xs.length]? = some x → limF ns.length ≤ os.count x.2 from fun t ht x hx => by
                by_cases htj : t = j
                · subst htj
                  rw [HY.out] at hx
                  injection hx with hx
                  rw [← hx, HYO.out, ← HCN.out]
                  omega
                · exact hall.out t (by omega) x hx)
              clear hb5 hb6
              go_wp2
              go_roundw
              case rel => exact ⟨j + 1, by omega, by go_num, HA5.out, HAL.out⟩
              case measure => simp [intOf]; omega
          · exfalso
            obtain rfl : j = xs.length := by omega
            have hcov : ∀ n ∈ ns, (limF ns.length).toNat ≤ os.count n := fun n hn => by
              obtain ⟨x, hx, rfl⟩ := HXS.out.2.2.1 n (by simpa using hn)
              obtain ⟨t, ht, htx⟩ := List.mem_iff_getElem.1 hx
              have hm : (f + (t + xs.length - f % xs.length) % xs.length) % xs.length = t := cyc f t xs.length ht
              have := hall.out ((t + xs.length - f % xs.length) % xs.length) (Nat.mod_lt _ hx0) x (by rw [hm, List.getElem?_eq_getElem ht, htx])
              omega
            have h1 := room_left ns HN.out.nodup os HAj.out.2.2.2.out.2.1 (limF ns.length).toNat hcov
            have h2 := limF_all ns.length hsome hfew
            have h3 := HAj.out.2.2.2.out.1
            omega
    · have d1 : decide ((k : Int) < 64) = false := by simp; omega
      obtain rfl : k = 64 := by omega
      obtain ⟨A6, c6, h6⟩ := own_shape HA.out.2.2.1
      subst h6
      go_wp2
      go_ret2
      obtain ⟨h1, h2, h3⟩ := HA.out.2.2.2.out
      refine ⟨_, os, rfl, ⟨A6, c6, rfl, ?_, fun h0 => ?_⟩, h1, h2, h3, Ext2.below HEX.out HGL.out HGL.out HA.out.1⟩
      · rcases HA.out.2.2.1.2 with ⟨he, h0⟩ | ⟨g, cap, cur, he, _, _, hle, _⟩
        · omega
        · injection he with _ _ hc
          omega
      · obtain ⟨g6, c6', hv6, _, _⟩ := HA.out.2.2.1.form h0
        injection hv6 with hv6 _ hc6
        subst hv6; subst hc6
        refine ⟨g6, 0, rfl, fun j n hn => ?_⟩
        have := ownsRow_cells' HA.out.2.2.1 j (.int .i64 (n : Int)) (by rw [List.getElem?_map, hn]; rfl)
        rwa [Nat.zero_add]

end Go.Proofs.YtbgfmbmcabekeaaGreatDoor
