/-
  package cachetierlaw27: few.
-/
import Derived.Test.YtbgfmbmcabekeaaGreatDoorJ35
import Derived.Test.YtbgfmbmcabekeaaGreatDoorJ9
set_option linter.unusedSimpArgs false
set_option linter.unusedVariables false

namespace Go.Proofs.YtbgfmbmcabekeaaGreatDoor
open Go.RowKit Go.Shelf
attribute [local go_sem ↓] Go.wp_at_zero Go.wp_at_succ

theorem ChgsAt.take {w : World} {b off c : Nat} {l : List ChgT} (h : ChgsAt w (.slice (some ⟨b, off, none⟩) l.length c) l) (k : Nat) : ChgsAt w (.slice (some ⟨b, off, none⟩) (l.take k).length c) (l.take k) := by
  obtain ⟨A, c', hA, hc, h2⟩ := h
  injection hA with hA _ hc'
  subst hA hc'
  have hle : (l.take k).length ≤ l.length := List.length_take_le' k l
  refine ⟨_, _, rfl, by omega, fun h0 => ?_⟩
  obtain ⟨b', off', hb, h3⟩ := h2 (by omega)
  refine ⟨b', off', hb, fun j x hj => h3 j x ?_⟩
  rw [List.getElem?_take] at hj
  split at hj
  · exact hj
  · cases hj

/-- a slice at a block that is not older -/
def FreshV (B : Nat) (u : Value) : Prop := ∃ A n c, u = .slice A n c ∧ ∀ b off, A = some ⟨b, off, none⟩ → B ≤ b
theorem ChgsAt.extF {w W : World} {u : Value} {l : List ChgT} {S : Nat → Prop} {B : Nat} (h : ChgsAt w u l) (hf : FreshV B u) (hS : ∀ k, B ≤ k → ¬ S k) (k : ExtS S w W) : ChgsAt W u l := by
  obtain ⟨A, c, rfl, hc, h2⟩ := h
  obtain ⟨A', n', c', hA, hfr⟩ := hf
  injection hA with hA _ _
  subst hA
  refine ⟨_, _, rfl, hc, fun h0 => ?_⟩
  obtain ⟨b, off, rfl, h3⟩ := h2 h0
  refine ⟨b, off, rfl, fun j x hj i hi => ?_⟩
  have h4 := h3 j x hj i hi
  have hlt : b < w.heap.size := by
    have h5 : ∃ v, w.cell? ⟨b, off + j * 10 + i, none⟩ = some v := by rw [h4]; exact ⟨_, Array.getElem?_eq_getElem (by rw [ChgT.arr_size]; exact hi)⟩
    obtain ⟨v, hv⟩ := h5
    exact lt_of_cell hv
  exact (World.cell?_of_block (k.block b hlt (hS b (hfr b off rfl)))).trans h4

set_option maxRecDepth 100000 in
set_option maxHeartbeats 1000000 in
theorem few_any (l : List ChgT) (v : Value) (w : World) (hv : ChgsAt w v l) : Calls Tryz.prog 23 #[v] w fun e w' =>
    ∃ u, e = .returned u ∧ ChgsAt w' u (l.take 10) ∧ FreshV w.heap.size u ∧ Below w.heap.size w w' := by
  obtain ⟨is, his, hzs0, hzs1, hzs2⟩ := info_parts chg_info
  have HV := Lib.hid hv
  obtain ⟨A, c, rfl, hc, hcell⟩ := hv
  obtain ⟨m, hm⟩ : ∃ m, m = (l.take 10).length := ⟨_, rfl⟩
  have hm2 : m = min 10 l.length := by rw [hm, List.length_take]
  have hmn : min (l.length : Int) 10 = (m : Int) := by omega
  have q0 : (0 : Int) ≤ (m : Int) := by omega
  have q1 : (m : Int) ≤ (c : Int) := by omega
  have hm10 : m ≤ 10 := by omega
  have HM := Lib.hid hm
  have HOE := Lib.hid (show (w.alloc (.cells #[] 75)).ownsRow w.heap.size 75 10 (.slice (some ⟨w.heap.size, 0, none⟩) 0 0) 0 [] from
    ⟨rfl, .inr ⟨w.heap.size, 0, #[], rfl, Nat.le_refl _, World.alloc_heap_new w _, Nat.le_refl _, Nat.zero_le _, rfl, rfl⟩⟩)
  have hgr : ∀ W6, (w.alloc (.cells #[] 75)).grownBy W6 (Value.slice (some ⟨w.heap.size, 0, none⟩) 0 0).ownBlock → Below w.heap.size w W6 := fun W6 hg => (ext_new w (.cells #[] 75)).grown hg (ext_new w (.cells #[] 75)).size (fun k e => by have e2 : w.heap.size = k := Option.some.inj e; omega)
  have HGR := Lib.hid hgr
  clear hgr
  cases A with
  | none =>
    have hl0 : l.length = 0 := by
      rcases Nat.eq_zero_or_pos l.length with h | h
      · exact h
      · obtain ⟨b, off, hb, _⟩ := hcell h
        cases hb
    have hm0 : m = 0 := by omega
    have hle : l = [] := List.length_eq_zero_iff.1 hl0
    subst hle
    subst hm0
    have hap : ∀ W, (Builtin.append_ #[36, 36] 36 #[.slice (some ⟨w.heap.size, 0, none⟩) 0 0, .slice none 0 c]).run Tryz.prog W = .ok (.slice (some ⟨w.heap.size, 0, none⟩) 0 0) W := fun W =>
      run_append_nothing W 36 36 36 75 is Tryz.underlying36 his _ 0 0 (Nat.le_refl _) (.slice none 0 c) ⟨.inl ⟨_, Tryz.underlying36⟩, fun _ => rfl, rfl, rfl, by simp, by simp⟩
    clear hcell hm hm2
    go_enter Tryz.func23, Tryz.ntmps23
    go_wp2
    go_ret
    exact ⟨_, rfl, ⟨_, _, rfl, Nat.le_refl _, fun h => absurd h (by simp)⟩, ⟨_, _, _, rfl, fun b off e => by injection e with e; injection e with e _; omega⟩, ext_new _ _⟩
  | some a =>
    obtain ⟨xs, hxs⟩ : ∃ xs, xs = cc (l.take 10) := ⟨_, rfl⟩
    have hml : xs.length = m * 10 := by rw [hxs, cc_length, ← hm]
    have HNW := Lib.hid (show ∀ (i : Nat) (u : Value), xs[i]? = some u → (w.alloc (.cells #[] 75)).cell? (a.add i) = some u from fun i u hu => by
      have h0 : 0 < l.length := by
        have h1 := (List.getElem?_eq_some_iff.1 hu).1
        omega
      obtain ⟨b, off, hb, _⟩ := hcell h0
      injection hb with hb
      subst hb
      rw [hxs] at hu
      rw [Addr.add_mid]
      exact ((HV.out.take 10).ext (ext_new w _)).cells i u hu)
    have HOC := Lib.hid (show ∀ u ∈ xs, u.oneCell' = true by rw [hxs]; exact cc_one _)
    have HXS := Lib.hid hxs
    clear hcell hm hm2 hxs
    go_enter Tryz.func23, Tryz.ntmps23
    go_wp2_with (at_builtin; refine wpList_append_own _ rfl (.tmp 3) (.tmp 8) 36 rfl w.heap.size 75 is (.agg #[.int .i64 0, .int .i64 0, .bool false, .int .i64 0, .int .i64 0, .int .i64 0, .bool false, .int .i64 0, .int .i64 0, .int .i64 0]) 10 80 Tryz.underlying36 his hzs0 hzs1 hzs2 rfl (by decide) (.slice (some ⟨w.heap.size, 0, none⟩) 0 0) 0 [] rfl HOE.out a m c xs rfl hml HNW.out HOC.out ?_ ?_ ?_ ?_; (unfold maxLen; omega); omega; (rw [World.size_alloc]; omega); intro v6 W6 ho6 hg6 _; obtain ⟨A7, c7, h7⟩ := own_shape ho6; subst h7; have HO6 := Lib.hid ho6; have HG6 := Lib.hid hg6; clear hg6 ho6)
    go_ret
    have ho := HO6.out
    rw [Nat.zero_add, List.nil_append] at ho
    have HBW := HGR.out _ HG6.out
    have hfr : FreshV w.heap.size (.slice A7 m c7) := by
      rcases ho.2 with ⟨h3, _⟩ | ⟨g, cap, cur, h3, h4, _⟩
      · injection h3 with h3 _ _; subst h3; exact ⟨_, _, _, rfl, fun b off e => by cases e⟩
      · injection h3 with h3 _ _; subst h3; exact ⟨_, _, _, rfl, fun b off e => by injection e with e; injection e with e _; omega⟩
    refine ⟨_, rfl, ?_, by simpa using hfr, HBW⟩
    obtain ⟨_, h2⟩ := ho
    rcases h2 with ⟨h3, h3b⟩ | ⟨g, cap, cur, h3, h4, h5, h6, _, h8, h9⟩
    · have hm0 : m = 0 := by omega
      have hl0 : l.take 10 = [] := List.length_eq_zero_iff.1 (by rw [← HM.out]; exact hm0)
      rw [hl0, hm0]
      exact ⟨_, _, rfl, by simp, fun h => absurd h (by simp)⟩
    injection h3 with h3 _ h10
    subst h3 h10
    have hb : ChgB W6 g (l.take 10) := ⟨cur, h5, fun j x hj i hi => by
      have h11 := cc_at (l.take 10) j x hj i hi
      rw [← HXS.out] at h11
      rw [← h11, ← h9, List.getElem?_take, if_pos (by have := (List.getElem?_eq_some_iff.1 hj).1; rw [← HM.out] at this; omega)]
      simp⟩
    have h12 := hb.at_ (c := c7) (by rw [← HM.out]; exact h6)
    rw [← HM.out] at h12
    simpa using h12

end Go.Proofs.YtbgfmbmcabekeaaGreatDoor
