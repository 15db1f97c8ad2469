/-
  Part 8 of 17: the contracts that the proof of the last part uses; each stands under its own head.
-/
import Derived.Test.YtbgfmbmcabekeaaGreatDoorJ7
import Derived.Test.YtbgfmbmcabekeaaGreatDoorJ5
import Derived.Test.YtbgfmbmcabekeaaGreatDoorJ6
set_option linter.unusedSimpArgs false
set_option linter.unusedVariables false

/-
  package cachetierref12: New at valid members of weight 1.
-/
namespace Go.Proofs.YtbgfmbmcabekeaaGreatDoor
open Go.RowKit Go.Shelf

/-- the cells of members -/
def mc (ns : List Nat) : List Value := ns.flatMap fun n : Nat => [Value.int .i64 (n : Int), .int .i64 0, .int .i64 1]
theorem mc_length (ns : List Nat) : (mc ns).length = ns.length * 3 := by
  induction ns with
  | nil => rfl
  | cons a r ih => simp [mc] at ih ⊢; omega
theorem mc_append (xs ys : List Nat) : mc (xs ++ ys) = mc xs ++ mc ys := by simp [mc]
theorem mc_one (ns : List Nat) : ∀ u ∈ mc ns, u.oneCell' = true := by
  intro u hu
  unfold mc at hu
  obtain ⟨x, _, hx⟩ := List.mem_flatMap.1 hu
  simp at hx
  rcases hx with rfl | rfl | rfl <;> rfl
theorem mc_get (ns : List Nat) : ∀ (j n : Nat), ns[j]? = some n → (mc ns)[j * 3]? = some (.int .i64 (n : Int)) ∧ (mc ns)[j * 3 + 1]? = some (.int .i64 0) ∧ (mc ns)[j * 3 + 2]? = some (.int .i64 1) := by
  induction ns with
  | nil => intro j n h; simp at h
  | cons a r ih =>
    intro j n h
    cases j with
    | zero => simp at h; subst h; exact ⟨rfl, rfl, rfl⟩
    | succ j =>
      have h' := ih j n (by simpa using h)
      have e1 : (j + 1) * 3 = j * 3 + 3 := by omega
      rw [e1]
      exact h'
/-- an own row of members, as a list of members -/
theorem mems_of_own {w : World} {B n : Nat} {v : Value} {ns : List Nat} (h : w.ownsRow B 83 3 v n (mc ns)) (hn : n = ns.length) : MemsAt w v ns := by
  subst hn
  obtain ⟨A, c, rfl⟩ := own_shape h
  refine ⟨A, c, rfl, ?_, fun h0 => ?_⟩
  · rcases h.2 with ⟨he, h0⟩ | ⟨g, cap, cur, he, _, _, hle, _⟩
    · omega
    · injection he with _ _ hc
      omega
  · obtain ⟨g, c', hv, _, _⟩ := h.form h0
    injection hv with hv _ hc
    subst hv; subst hc
    refine ⟨g, 0, rfl, fun j n hn => ?_⟩
    obtain ⟨h1, h2, h3⟩ := mc_get ns j n hn
    have hc := ownsRow_cells' h
    simp only [Nat.zero_add]
    exact ⟨hc _ _ h1, hc _ _ h2, hc _ _ h3⟩
/-- the cells that a list of members lies in -/
theorem MemsAt.cells {w : World} {b off c : Nat} {ns : List Nat} (h : MemsAt w (.slice (some ⟨b, off, none⟩) ns.length c) ns) : ∀ (i : Nat) (u : Value), (mc ns)[i]? = some u → w.cell? ⟨b, off + i, none⟩ = some u := by
  intro i u hu
  have hi : i < ns.length * 3 := by rw [← mc_length]; exact (List.getElem?_eq_some_iff.1 hu).1
  have hj : i / 3 < ns.length := by omega
  have hn : ns[i / 3]? = some ns[i / 3] := List.getElem?_eq_getElem hj
  obtain ⟨b', off', c', hv, _, h1, h2, h3⟩ := h.at_ hn
  injection hv with hv _ _
  injection hv with hv
  injection hv with hb ho _
  subst hb; subst ho
  obtain ⟨m1, m2, m3⟩ := mc_get ns (i / 3) _ hn
  have h0 : i % 3 = 0 ∨ i % 3 = 1 ∨ i % 3 = 2 := by omega
  rcases h0 with hr | hr | hr
  · have e : i = i / 3 * 3 := by omega
    rw [e] at hu ⊢
    rw [m1] at hu
    cases hu
    exact h1
  · have e : i = i / 3 * 3 + 1 := by omega
    rw [e] at hu ⊢
    rw [m2] at hu
    cases hu
    exact h2
  · have e : i = i / 3 * 3 + 2 := by omega
    rw [e] at hu ⊢
    rw [m3] at hu
    cases hu
    exact h3

theorem mem_info : (Tryz.prog.info? 83).map (fun i => (i.zero, i.size, i.bytes)) = some (some (.agg #[.int .i64 0, .int .i64 0, .int .i64 0]), 3, 24) := by kernel_rfl

theorem NumsAt.far {W : World} {v : Value} {os : List Nat} (h : NumsAt W v os) (hl : 4 ≤ os.length) {g : Nat} {t : TypeId} {cs : Array Value} (hb : Blk W g t cs) (hs : cs.size = 3) (i : Nat) (u : Value) : NumsAt (W.setCell ⟨g, i, none⟩ u) v os := by
  obtain ⟨A, c, rfl, hc, h⟩ := h
  refine ⟨A, c, rfl, hc, fun h0 => ?_⟩
  obtain ⟨b, off, hA, hcell⟩ := h h0
  have hne : b ≠ g := by
    rintro rfl
    have h3 := hcell 3 os[3] (List.getElem?_eq_getElem (by omega))
    rw [hb.cell, Array.getElem?_eq_none (by omega)] at h3
    cases h3
  exact ⟨b, off, hA, fun j n hn => (World.cell?_of_block (a := ⟨b, off + j, none⟩) ((grown_set W g i u).block b (lt_of_cell (p := ⟨b, off + j, none⟩) (hcell j n hn)) (fun e => hne (by injection e)))).trans (hcell j n hn)⟩
theorem own_far {W : World} {B e sz n g : Nat} {v : Value} {ys : List Value} (h : W.ownsRow B e sz v n ys) (hg : g < B) (i : Nat) (u : Value) : (W.setCell ⟨g, i, none⟩ u).ownsRow B e sz v n ys := by
  refine h.kept (grown_set W g i u) ?_
  cases hv : v.ownBlock with
  | none => exact .inl rfl
  | some b =>
    refine .inr fun e => ?_
    have := (h.lt b hv).1
    injection e with e
    omega

/-- a ring whose owners keep within the limits -/
def RingAt (w : World) (ns : List Nat) (ep : Int) (v : Value) : Prop := ∃ vm vo os, v = .agg #[.int .i64 ep, vm, vo] ∧ MemsAt w vm ns ∧ NumsAt w vo os ∧ os.length = 64 ∧ (∀ o ∈ os, o ∈ ns) ∧ ∀ n, (os.count n : Int) ≤ limF ns.length

set_option maxRecDepth 100000 in
set_option maxHeartbeats 2000000 in
theorem new12_any (ns : List Nat) (ep : Int) (v : Value) (w : World) (hv : MemsAt w v ns) (hn : NodesOK ns) (h1 : 1 ≤ ep) (h2 : ep ≤ 1000000) : Calls Tryz.prog 64 #[.int .i64 ep, v] w fun e w' =>
    ∃ r, e = .returned (.tuple #[r, .int .i64 0]) ∧ RingAt w' ns ep r ∧ Below w.heap.size w w' := by
  obtain ⟨X, hX⟩ : ∃ X, X = w.alloc (.cells #[.int .i64 0, .slice none 0 0, .slice none 0 0] 30) := ⟨_, rfl⟩
  have HE0 := Lib.hid (show Below w.heap.size w X by rw [hX]; exact ext_new _ _)
  have HB0 := Lib.hid (show Blk X w.heap.size 30 #[.int .i64 0, .slice none 0 0, .slice none 0 0] by rw [hX]; exact Blk.new _ _ _)
  have HX := Lib.hid hX
  have HV := Lib.hid hv
  have hsome := hn.some_
  have hfew := hn.few
  have HAs := Lib.hid (assign_any ns v X (hv.ext HE0.out) hn)
  obtain ⟨n0, hn0⟩ : ∃ n0, ns[0]? = some n0 := ⟨_, List.getElem?_eq_getElem hsome⟩
  obtain ⟨b, off, c, hA, hc, _⟩ := hv.at_ hn0
  subst hA
  clear hX hn hv hn0
  obtain ⟨is, his, hzs0, hzs1, hzs2⟩ := info_parts mem_info
  go_enter Tryz.func64, Tryz.ntmps64
  go_wp2_with fail
  rw [← HX.out]
  refine HAs.out.mono ?_
  rintro e W1 ⟨vo, os, rfl, hno, hl, hos, hlim, hb1⟩
  obtain ⟨Ao, co, rfl, _⟩ := id hno
  have HE1 := Lib.hid (ext_call HE0.out hb1)
  have HO := Lib.hid (show NumsAt W1 (.slice Ao os.length co) os ∧ os.length = 64 ∧ (∀ o ∈ os, o ∈ ns) ∧ ∀ n, (os.count n : Int) ≤ limF ns.length from ⟨hno, hl, hos, hlim⟩)
  have HB1 := Lib.hid (HB0.out.ext hb1)
  have HM1 := Lib.hid (HV.out.ext HE1.out)
  clear hno hl hos hlim hb1 HAs HX
  obtain ⟨r0, r1, r2⟩ := bcells3 HB1.out
  have f0 := HB1.out.frozen 0
  have f1 := HB1.out.frozen 1
  have f2 := HB1.out.frozen 2
  have hw1 := HE1.out.size
  go_wp2_with fail
  refine (w12_yes _ _ _ h1 h2 _).mono ?_
  rintro e w' ⟨rfl, rfl⟩
  have HOE := Lib.hid (show (W1.alloc (.cells #[] 83)).ownsRow W1.heap.size 83 3 (.slice (some ⟨W1.heap.size, 0, none⟩) 0 0) 0 [] from
    ⟨rfl, .inr ⟨W1.heap.size, 0, #[], rfl, Nat.le_refl _, World.alloc_heap_new W1 _, Nat.le_refl _, Nat.zero_le _, rfl, rfl⟩⟩)
  have HNW := Lib.hid (show ∀ (i : Nat) (u : Value), (mc ns)[i]? = some u → (W1.alloc (.cells #[] 83)).cell? ((⟨b, off, none⟩ : Addr).add i) = some u from fun i u hu => by
    rw [Addr.add_mid]
    exact (HM1.out.ext (ext_new W1 _)).cells i u hu)
  have hml := mc_length ns
  go_wp2_with (at_builtin; go_must (refine wpList_append_own _ rfl (.tmp 22) (.tmp 23) 27 rfl W1.heap.size 83 is (.agg #[.int .i64 0, .int .i64 0, .int .i64 0]) 3 24 Tryz.underlying27 his hzs0 hzs1 hzs2 rfl (by decide) (.slice (some ⟨W1.heap.size, 0, none⟩) 0 0) 0 [] rfl HOE.out ⟨b, off, none⟩ ns.length c (mc ns) rfl hml HNW.out (mc_one ns) ?_ ?_ ?_ ?_; (unfold maxLen; omega); omega; (rw [World.size_alloc]; omega); intro v6 W6 ho6 hg6 _; obtain ⟨A7, c7, h7⟩ := own_shape ho6; subst h7; have HO6 := Lib.hid ho6; have hb6 : Blk W6 w.heap.size 30 #[.int .i64 0, .slice none 0 0, .slice none 0 0] := (hg6.block w.heap.size (by rw [World.size_alloc]; have := HB1.out.lt; omega) (by intro e; have e2 : w.heap.size = W1.heap.size := Option.some.inj e; have := HB1.out.lt; omega)).trans (HB1.out.alloc _); have x0 := hb6.cell 0; have x1 := hb6.cell 1; have x2 := hb6.cell 2; have g0 := hb6.frozen 0; have g1 := hb6.frozen 1; have g2 := hb6.frozen 2; have HG6 := Lib.hid hg6; clear hg6 ho6))
  have hlt := HB1.out.lt
  have HBW := Lib.hid (show Below W1.heap.size W1 W6 from (ext_new W1 (.cells #[] 83)).grown HG6.out (ext_new W1 (.cells #[] 83)).size (fun k e => by have e2 : W1.heap.size = k := Option.some.inj e; omega))
  have HB8 := Lib.hid (((hb6.set_ 0 (.int .i64 ep)).set_ 1 (.slice A7 ns.length c7)).set_ 2 (.slice Ao os.length co))
  have ho := HO6.out
  rw [Nat.zero_add, List.nil_append] at ho
  have HO8 := Lib.hid (own_far (own_far (own_far ho hlt 0 (.int .i64 ep)) hlt 1 (.slice A7 ns.length c7)) hlt 2 (.slice Ao os.length co))
  have hn6 := HO.out.1.ext HBW.out
  have HN8 := Lib.hid (((hn6.far (by have := HO.out.2.1; omega) hb6 rfl 0 (.int .i64 ep)).far (by have := HO.out.2.1; omega) (hb6.set_ 0 (.int .i64 ep)) (by simp) 1 (.slice A7 ns.length c7)).far (by have := HO.out.2.1; omega) ((hb6.set_ 0 (.int .i64 ep)).set_ 1 (.slice A7 ns.length c7)) (by simp) 2 (.slice Ao os.length co))
  have HE8 := Lib.hid (ext_set (ext_set (ext_set (ext_call HE1.out HBW.out) (p := ⟨w.heap.size, 0, none⟩) (Nat.le_refl _) (.int .i64 ep)) (p := ⟨w.heap.size, 1, none⟩) (Nat.le_refl _) (.slice A7 ns.length c7)) (p := ⟨w.heap.size, 2, none⟩) (Nat.le_refl _) (.slice Ao os.length co))
  generalize ((W6.setCell ⟨w.heap.size, 0, none⟩ (.int .i64 ep)).setCell ⟨w.heap.size, 1, none⟩ (.slice A7 ns.length c7)).setCell ⟨w.heap.size, 2, none⟩ (.slice Ao os.length co) = W8 at *
  obtain ⟨y0, y1, y2⟩ := bcells3 (show Blk W8 w.heap.size 30 #[.int .i64 ep, .slice A7 ns.length c7, .slice Ao os.length co] from HB8.out)
  refine bodyPost_ret (v := .tuple #[.agg #[.int .i64 ep, .slice A7 ns.length c7, .slice Ao os.length co], .int .i64 0]) (by simp [results, Tryz.results64, go_sem, y0, y1, y2]) rfl ⟨_, rfl, ⟨_, _, os, rfl, mems_of_own HO8.out rfl, HN8.out, HO.out.2⟩, HE8.out⟩

end Go.Proofs.YtbgfmbmcabekeaaGreatDoor

/-
  package cachetierlaw27: members, pick, ringOf.
-/
namespace Go.Proofs.YtbgfmbmcabekeaaGreatDoor
open Go.RowKit Go.Shelf

theorem cells_three_new (w : World) (u v x : Value) (t : TypeId) : ∀ (j : Nat) (y : Value), [u, v, x][j]? = some y → (w.alloc (.cells #[u, v, x] t)).cell? ((⟨w.heap.size, 0, none⟩ : Addr).add j) = some y := by
  intro j y h
  rw [add_lit0]
  have hb := Blk.new w t #[u, v, x]
  match j, h with
  | 0, h => simp at h; subst h; exact hb.cell 0
  | 1, h => simp at h; subst h; exact hb.cell 1
  | 2, h => simp at h; subst h; exact hb.cell 2
  | (j + 3), h => simp at h

theorem MemsAt.ext2 {W W' : World} {g : Nat} {v : Value} {ns : List Nat} (h : MemsAt W v ns) (k : Ext2 g g W W') (hb : Blk W g 30 #[.int .i64 0, .slice none 0 0, .slice none 0 0]) : MemsAt W' v ns := by
  obtain ⟨A, c, rfl, hc, h⟩ := h
  refine ⟨A, c, rfl, hc, fun h0 => ?_⟩
  obtain ⟨b, off, hA, hcell⟩ := h h0
  have hne : b ≠ g := by
    rintro rfl
    have h3 := (hcell 0 ns[0] (List.getElem?_eq_getElem h0)).2.1
    rw [hb.cell] at h3
    match off, h3 with
    | 0, h3 => simp at h3
    | 1, h3 => simp at h3
    | (q + 2), h3 => simp at h3
  exact ⟨b, off, hA, fun j n hn => ⟨cell_ext2 (hcell j n hn).1 k hne hne, cell_ext2 (hcell j n hn).2.1 k hne hne, cell_ext2 (hcell j n hn).2.2 k hne hne⟩⟩
theorem NumsAt.ext2 {W W' : World} {g : Nat} {v : Value} {os : List Nat} (h : NumsAt W v os) (hl : 4 ≤ os.length) (k : Ext2 g g W W') (hb : Blk W g 30 #[.int .i64 0, .slice none 0 0, .slice none 0 0]) : NumsAt W' v os := by
  obtain ⟨A, c, rfl, hc, h⟩ := h
  refine ⟨A, c, rfl, hc, fun h0 => ?_⟩
  obtain ⟨b, off, hA, hcell⟩ := h h0
  have hne : b ≠ g := by
    rintro rfl
    have h3 := hcell 3 os[3] (List.getElem?_eq_getElem (by omega))
    rw [hb.cell, Array.getElem?_eq_none (by simp)] at h3
    cases h3
  exact ⟨b, off, hA, fun j n hn => cell_ext2 (hcell j n hn) k hne hne⟩

set_option maxRecDepth 100000 in
set_option maxHeartbeats 2000000 in
theorem members_any (ns : List Nat) (ep : Int) (v : Value) (w : World) (hv : NumsAt w v ns) (hn : NodesOK ns) (h1 : 1 ≤ ep) (h2 : ep ≤ 1000000) : Calls Tryz.prog 34 #[.int .i64 ep, v] w fun e w' =>
    ∃ r, e = .returned r ∧ RingAt w' ns ep r ∧ Below w.heap.size w w' := by
  obtain ⟨X, hX⟩ : ∃ X, X = w.alloc (.cells #[.int .i64 0, .slice none 0 0, .slice none 0 0] 30) := ⟨_, rfl⟩
  have HE0 := Lib.hid (show Below w.heap.size w X by rw [hX]; exact ext_new _ _)
  have HB0 := Lib.hid (show Blk X w.heap.size 30 #[.int .i64 0, .slice none 0 0, .slice none 0 0] by rw [hX]; exact Blk.new _ _ _)
  have HX := Lib.hid hX
  have HV := Lib.hid (hv.ext HE0.out)
  have HN := Lib.hid hn
  have hfew := hn.few
  obtain ⟨A, c, rfl, hc, _⟩ := hv
  clear hX hn
  obtain ⟨is, his, hzs0, hzs1, hzs2⟩ := info_parts mem_info
  go_enter Tryz.func34, Tryz.ntmps34
  go_wp2_with fail
  rw [← HX.out]
  go_loopw [5, 6] (fun o i W => ∃ k : Nat, k ≤ ns.length ∧ i = .int .i64 k ∧ W.ownsRow X.heap.size 83 3 o k (mc (ns.take k)) ∧ Below X.heap.size X W) (fun _ i _ => ns.length - (intOf i).toNat)
  case atStart => exact ⟨0, Nat.zero_le _, rfl, World.ownsRow_nil _ _ _ _, ext_refl X⟩
  case round =>
    obtain ⟨k, hk, rfl, ho, hE⟩ := hrel
    have HO := Lib.hid ho
    have HE := Lib.hid hE
    have hxw := hE.size
    by_cases hlt : k < ns.length
    · obtain ⟨n, hn⟩ : ∃ n, ns[k]? = some n := ⟨_, List.getElem?_eq_getElem hlt⟩
      obtain ⟨b, off, c', hA, _, c0⟩ := (HV.out.ext HE.out).at_ hn
      injection hA with hA hn' hc'
      subst hA; subst hc'
      clear hn'
      obtain ⟨A3, c3, h3⟩ := own_shape ho
      subst h3
      have HMC := Lib.hid (show mc (ns.take (k + 1)) = mc (ns.take k) ++ [.int .i64 (n : Int), .int .i64 0, .int .i64 1] by rw [List.take_add_one, hn, mc_append]; rfl)
      have e2 : IntKind.i64.wrap ((k : Int) + 1) = (k : Int) + 1 := by rw [IntWalk.i64_in _ (by omega)]
      have d1 : decide ((k : Int) < (ns.length : Int)) = true := by simp; omega
      have q0 : (0 : Int) ≤ (k : Int) := by omega
      have q1 : (k : Int) < (ns.length : Int) := by omega
      clear hn ho hE
      go_wp2_with (at_builtin; refine wpList_append_own _ rfl (.tmp 15) (.tmp 21) 27 rfl X.heap.size 83 is (.agg #[.int .i64 0, .int .i64 0, .int .i64 0]) 3 24 Tryz.underlying27 his hzs0 hzs1 hzs2 rfl (by decide) (.slice A3 k c3) k _ rfl (HO.out.alloc _) ⟨wr.heap.size, 0, none⟩ 1 1 [.int .i64 (n : Int), .int .i64 0, .int .i64 1] rfl rfl (cells_three_new _ _ _ _ _) ?_ ?_ ?_ ?_ ?_; (simp [Value.oneCell']); (unfold maxLen; omega); omega; (rw [World.size_alloc]; omega); intro v6 W6 ho6 hg6 _)
      rw [← HMC.out] at ho6
      have HO6 := Lib.hid ho6
      have HE6 := Lib.hid ((ext_alloc HE.out (.cells #[.int .i64 (n : Int), .int .i64 0, .int .i64 1] 83)).grown hg6 (ext_alloc HE.out (.cells #[.int .i64 (n : Int), .int .i64 0, .int .i64 1] 83)).size (fun q e => ((HO.out.alloc (.cells #[.int .i64 (n : Int), .int .i64 0, .int .i64 1] 83)).lt q e).1))
      clear ho6 hg6
      go_wp2
      go_roundw
      case rel => exact ⟨k + 1, by omega, by go_num, HO6.out, HE6.out⟩
      case measure => simp [intOf]; omega
    · have d1 : decide ((k : Int) < (ns.length : Int)) = false := by simp; omega
      obtain rfl : k = ns.length := by omega
      rw [List.take_length] at ho
      have HM := Lib.hid (mems_of_own ho rfl)
      clear ho hE
      go_wp2_with fail
      refine (new12_any ns ep u5 wr HM.out HN.out h1 h2).mono ?_
      rintro e W2 ⟨r, rfl, ⟨vm, vo, os, rfl, hmm, hno, hrr⟩, hb2⟩
      obtain ⟨Am, cm, rfl, _⟩ := id hmm
      obtain ⟨Ao, co, rfl, _⟩ := id hno
      have hE2 : Below w.heap.size w W2 := ext_call (ext_call HE0.out HE.out) hb2
      have hB2 : Blk W2 w.heap.size 30 #[.int .i64 0, .slice none 0 0, .slice none 0 0] := (HB0.out.ext HE.out).ext hb2
      obtain ⟨Z, hZ⟩ : ∃ Z, Z = W2.alloc (.cells #[.int .i64 ep, .slice Am ns.length cm, .slice Ao os.length co] 30) := ⟨_, rfl⟩
      have hZe : Below W2.heap.size W2 Z := by rw [hZ]; exact ext_new _ _
      have hb6 : Blk Z w.heap.size 30 #[.int .i64 0, .slice none 0 0, .slice none 0 0] := hB2.ext hZe
      have hbz : Blk Z W2.heap.size 30 #[.int .i64 ep, .slice Am ns.length cm, .slice Ao os.length co] := by rw [hZ]; exact Blk.new _ _ _
      obtain ⟨x0, x1, x2⟩ := bcells3 hb6
      obtain ⟨z0, z1, z2⟩ := bcells3 hbz
      have g0 := hb6.frozen 0
      have g1 := hb6.frozen 1
      have g2 := hb6.frozen 2
      have HB6 := Lib.hid hb6
      have HR6 := Lib.hid (show (MemsAt Z (.slice Am ns.length cm) ns ∧ NumsAt Z (.slice Ao os.length co) os) ∧ os.length = 64 ∧ (∀ o ∈ os, o ∈ ns) ∧ ∀ n, (os.count n : Int) ≤ limF ns.length from ⟨⟨hmm.ext hZe, hno.ext hZe⟩, hrr⟩)
      have HE6 := Lib.hid (ext_call hE2 hZe)
      have hlw : w.heap.size < W2.heap.size := hB2.lt
      have HZ := Lib.hid hZ
      clear hb6 hbz hE2 hB2 hmm hno hrr hb2 hZe hZ HM HE HB0 HX
      go_upto_region 7 with (fail)
      rw [← HZ.out]
      go_wp2
      have hk2 : Ext2 w.heap.size w.heap.size Z (((Z.setCell ⟨w.heap.size, 0, none⟩ (.int .i64 ep)).setCell ⟨w.heap.size, 1, none⟩ (.slice Am ns.length cm)).setCell ⟨w.heap.size, 2, none⟩ (.slice Ao os.length co)) :=
        (((Ext2.of_ext (ext_refl Z)).setA 0 _).setA 1 _).setA 2 _
      have HB8 := Lib.hid (((HB6.out.set_ 0 (.int .i64 ep)).set_ 1 (.slice Am ns.length cm)).set_ 2 (.slice Ao os.length co))
      have HM8 := Lib.hid (HR6.out.1.1.ext2 hk2 HB6.out)
      have HN8 := Lib.hid (HR6.out.1.2.ext2 (by have := HR6.out.2.1; omega) hk2 HB6.out)
      have HE8 := Lib.hid (Ext2.below HE6.out (Nat.le_refl _) (Nat.le_refl _) hk2)
      generalize ((Z.setCell ⟨w.heap.size, 0, none⟩ (.int .i64 ep)).setCell ⟨w.heap.size, 1, none⟩ (.slice Am ns.length cm)).setCell ⟨w.heap.size, 2, none⟩ (.slice Ao os.length co) = W8 at *
      obtain ⟨y0, y1, y2⟩ := bcells3 (show Blk W8 w.heap.size 30 #[.int .i64 ep, .slice Am ns.length cm, .slice Ao os.length co] from HB8.out)
      refine bodyPost_ret (v := .agg #[.int .i64 ep, .slice Am ns.length cm, .slice Ao os.length co]) (by simp [results, Tryz.results34, go_sem, y0, y1, y2]) rfl ⟨_, rfl, ⟨_, _, os, rfl, HM8.out, HN8.out, HR6.out.2⟩, HE8.out⟩

/-- an index that any integer gives -/
def pickF (c n : Int) : Int := if c < 0 then (-(c + 1)) % n else c % n
set_option maxHeartbeats 400000 in
theorem pick_any (c n : Int) (hn : 0 < n) (hn2 : n ≤ 1000) (hc : -9223372036854775808 ≤ c) (hc2 : c ≤ 9223372036854775807) (w : World) : Calls Tryz.prog 19 #[.int .i64 c, .int .i64 n] w fun e w' => e = .returned (.int .i64 (pickF c n)) ∧ w = w' := by
  by_cases h0 : c < 0
  · have e1 : IntKind.i64.wrap (c + 1) = c + 1 := IntWalk.i64_in _ (by omega)
    have e2 : IntKind.i64.wrap (-(c + 1)) = -(c + 1) := IntWalk.i64_in _ (by omega)
    have hm : 0 ≤ (-(c + 1)) % n ∧ (-(c + 1)) % n < n := ⟨Int.emod_nonneg _ (by omega), Int.emod_lt_of_pos _ hn⟩
    have HP := Lib.hid (show pickF c n = (-(c + 1)) % n by unfold pickF; rw [if_pos h0])
    have hp0 : (0 : Int) ≤ -(c + 1) := by omega
    go_enter Tryz.func19, Tryz.ntmps19
    go_wp2
    go_ret
    exact ⟨by rw [HP.out]; show Ending.returned (Value.int .i64 (-(c + 1).tmod n)) = _; rw [← Int.neg_tmod, Int.tmod_eq_emod_of_nonneg hp0], rfl⟩
  · have HP := Lib.hid (show pickF c n = c % n by unfold pickF; rw [if_neg h0])
    have hm : 0 ≤ c % n ∧ c % n < n := ⟨Int.emod_nonneg _ (by omega), Int.emod_lt_of_pos _ hn⟩
    go_enter Tryz.func19, Tryz.ntmps19
    go_wp2
    go_ret
    exact ⟨by rw [HP.out]; rfl, rfl⟩

end Go.Proofs.YtbgfmbmcabekeaaGreatDoor

/-
  package origin: New.
-/
namespace Go.Proofs.YtbgfmbmcabekeaaGreatDoor
open Go.RowKit Go.Shelf

/-- a server without records -/
structure Srv0 (W : World) (B gs gl gst gm gp gn : Nat) : Prop where
  cells : Blk W gs 101 #[.pointer (some ⟨gl, 0, none⟩), .pointer (some ⟨gst, 0, none⟩), .slice (some ⟨gp, 0, none⟩) 1 1, .int .i64 0, .int .i64 0, .slice none 0 0, .slice none 0 0, .map (some gn), .int .i64 0]
  state : StateIs W false gst gm 0
  log : Log0 W gl zeros32 (stateF false)
  past : Blk W gp 3 #[.int .i64 0]
  nodes : MapI W gn []
  new : B ≤ gs ∧ B ≤ gl ∧ B ≤ gst ∧ B ≤ gm ∧ B ≤ gp ∧ B ≤ gn
theorem Srv0.ext {W W' : World} {B gs gl gst gm gp gn : Nat} (h : Srv0 W B gs gl gst gm gp gn) (k : Below W.heap.size W W') : Srv0 W' B gs gl gst gm gp gn :=
  ⟨h.cells.ext k, h.state.ext k, h.log.ext k, h.past.ext k, h.nodes.ext k, h.new⟩

end Go.Proofs.YtbgfmbmcabekeaaGreatDoor

/-
  package origin: the calls at a nil server; package logtree: the calls at a nil log.
-/
namespace Go.Proofs.YtbgfmbmcabekeaaGreatDoor
open Go.RowKit Go.Shelf

end Go.Proofs.YtbgfmbmcabekeaaGreatDoor

/-
  package slices: Clone of members and of numbers.
-/
namespace Go.Proofs.YtbgfmbmcabekeaaGreatDoor
open Go.RowKit Go.Shelf

set_option maxRecDepth 100000 in
set_option maxHeartbeats 1000000 in
theorem cloneMems (ns : List Nat) (v : Value) (w : World) (hv : MemsAt w v ns) (h0 : 0 < ns.length) (h1 : ns.length ≤ 24) : Calls Tryz.prog 70 #[v] w fun e w' =>
    ∃ A n c, e = .returned (.slice A n c) ∧ MemsAt w' (.slice A n c) ns ∧ Below w.heap.size w w' := by
  obtain ⟨n0, hn0⟩ : ∃ n0, ns[0]? = some n0 := ⟨_, List.getElem?_eq_getElem h0⟩
  obtain ⟨b, off, c, hA, hc, _⟩ := hv.at_ hn0
  subst hA
  have HV := Lib.hid hv
  obtain ⟨is, his, hzs0, hzs1, hzs2⟩ := info_parts mem_info
  have hsn := fun W : World => Lib.run_eql_slice_nil (P := Tryz.prog) W 27 83 (some ⟨b, off, none⟩) ns.length c 0 0 Tryz.underlying27
  have HOE := Lib.hid (show (w.alloc (.cells #[] 83)).ownsRow w.heap.size 83 3 (.slice (some ⟨w.heap.size, 0, none⟩) 0 0) 0 [] from
    ⟨rfl, .inr ⟨w.heap.size, 0, #[], rfl, Nat.le_refl _, World.alloc_heap_new w _, Nat.le_refl _, Nat.zero_le _, rfl, rfl⟩⟩)
  have HNW := Lib.hid (show ∀ (i : Nat) (u : Value), (mc ns)[i]? = some u → (w.alloc (.cells #[] 83)).cell? ((⟨b, off, none⟩ : Addr).add i) = some u from fun i u hu => by
    rw [Addr.add_mid]
    exact (HV.out.ext (ext_new w _)).cells i u hu)
  have hml := mc_length ns
  clear hv hn0
  go_enter Tryz.func70, Tryz.ntmps70
  go_wp2_with (at_builtin; refine wpList_append_own _ rfl (.tmp 5) (.tmp 6) 27 rfl w.heap.size 83 is (.agg #[.int .i64 0, .int .i64 0, .int .i64 0]) 3 24 Tryz.underlying27 his hzs0 hzs1 hzs2 rfl (by decide) (.slice (some ⟨w.heap.size, 0, none⟩) 0 0) 0 [] rfl HOE.out ⟨b, off, none⟩ ns.length c (mc ns) rfl hml HNW.out (mc_one ns) ?_ ?_ ?_ ?_; (unfold maxLen; omega); omega; (rw [World.size_alloc]; omega); intro v6 W6 ho6 hg6 _; obtain ⟨A7, c7, h7⟩ := own_shape ho6; subst h7; have HO6 := Lib.hid ho6; have HG6 := Lib.hid hg6; clear hg6 ho6)
  go_ret
  have ho := HO6.out
  rw [Nat.zero_add, List.nil_append] at ho
  have HBW : Below w.heap.size w W6 := (ext_new w (.cells #[] 83)).grown HG6.out (ext_new w (.cells #[] 83)).size (fun k e => by have e2 : w.heap.size = k := Option.some.inj e; omega)
  exact ⟨A7, ns.length, c7, by simp, mems_of_own ho rfl, HBW⟩

/-- the cells that a list of numbers lies in -/
theorem NumsAt.cells {w : World} {b off c : Nat} {os : List Nat} (h : NumsAt w (.slice (some ⟨b, off, none⟩) os.length c) os) : ∀ (i : Nat) (u : Value), (os.map fun n : Nat => Value.int .i64 (n : Int))[i]? = some u → w.cell? ⟨b, off + i, none⟩ = some u := by
  intro i u hu
  rw [List.getElem?_map, Option.map_eq_some_iff] at hu
  obtain ⟨n, hn, rfl⟩ := hu
  obtain ⟨b', off', c', hv, _, h1⟩ := h.at_ hn
  injection hv with hv _ _
  injection hv with hv
  injection hv with hb ho _
  subst hb; subst ho
  exact h1
theorem nums_of_own {w : World} {B n : Nat} {v : Value} {os : List Nat} (h : w.ownsRow B 3 1 v n (os.map fun n : Nat => Value.int .i64 (n : Int))) (hn : n = os.length) : NumsAt w v os := by
  subst hn
  obtain ⟨A, c, rfl⟩ := own_shape h
  refine ⟨A, c, rfl, ?_, fun h0 => ?_⟩
  · rcases h.2 with ⟨he, h0⟩ | ⟨g, cap, cur, he, _, _, hle, _⟩
    · omega
    · injection he with _ _ hc
      omega
  · obtain ⟨g, c', hv, _, _⟩ := h.form h0
    injection hv with hv _ hc
    subst hv; subst hc
    refine ⟨g, 0, rfl, fun j n hn => ?_⟩
    have := ownsRow_cells' h j (.int .i64 (n : Int)) (by rw [List.getElem?_map, hn]; rfl)
    rwa [Nat.zero_add]

set_option maxRecDepth 100000 in
set_option maxHeartbeats 1000000 in
theorem cloneNums (os : List Nat) (v : Value) (w : World) (hv : NumsAt w v os) (h0 : 0 < os.length) (h1 : os.length ≤ 1000) : Calls Tryz.prog 71 #[v] w fun e w' =>
    ∃ A n c, e = .returned (.slice A n c) ∧ NumsAt w' (.slice A n c) os ∧ Below w.heap.size w w' := by
  obtain ⟨n0, hn0⟩ : ∃ n0, os[0]? = some n0 := ⟨_, List.getElem?_eq_getElem h0⟩
  obtain ⟨b, off, c, hA, hc, _⟩ := hv.at_ hn0
  subst hA
  have HV := Lib.hid hv
  obtain ⟨is, his, hzs0, hzs1, hzs2⟩ := info_parts int_info
  have hsn := fun W : World => Lib.run_eql_slice_nil (P := Tryz.prog) W 28 3 (some ⟨b, off, none⟩) os.length c 0 0 Tryz.underlying28
  have HOE := Lib.hid (show (w.alloc (.cells #[] 3)).ownsRow w.heap.size 3 1 (.slice (some ⟨w.heap.size, 0, none⟩) 0 0) 0 [] from
    ⟨rfl, .inr ⟨w.heap.size, 0, #[], rfl, Nat.le_refl _, World.alloc_heap_new w _, Nat.le_refl _, Nat.zero_le _, rfl, rfl⟩⟩)
  have HNW := Lib.hid (show ∀ (i : Nat) (u : Value), (os.map fun n : Nat => Value.int .i64 (n : Int))[i]? = some u → (w.alloc (.cells #[] 3)).cell? ((⟨b, off, none⟩ : Addr).add i) = some u from fun i u hu => by
    rw [Addr.add_mid]
    exact (HV.out.ext (ext_new w _)).cells i u hu)
  have hone : ∀ u ∈ (os.map fun n : Nat => Value.int .i64 (n : Int)), u.oneCell' = true := fun u hu => by
    obtain ⟨n, _, rfl⟩ := List.mem_map.1 hu
    rfl
  have HON := Lib.hid hone
  have hml : (os.map fun n : Nat => Value.int .i64 (n : Int)).length = os.length * 1 := by simp
  have HML := Lib.hid hml
  clear hv hn0 hone hml
  go_enter Tryz.func71, Tryz.ntmps71
  go_wp2_with (at_builtin; refine wpList_append_own _ rfl (.tmp 5) (.tmp 6) 28 rfl w.heap.size 3 is (.int .i64 0) 1 8 Tryz.underlying28 his hzs0 hzs1 hzs2 rfl (by decide) (.slice (some ⟨w.heap.size, 0, none⟩) 0 0) 0 [] rfl HOE.out ⟨b, off, none⟩ os.length c (os.map fun n : Nat => Value.int .i64 (n : Int)) rfl HML.out HNW.out HON.out ?_ ?_ ?_ ?_; (unfold maxLen; omega); omega; (rw [World.size_alloc]; omega); intro v6 W6 ho6 hg6 _; obtain ⟨A7, c7, h7⟩ := own_shape ho6; subst h7; have HO6 := Lib.hid ho6; have HG6 := Lib.hid hg6; clear hg6 ho6)
  go_ret
  have ho := HO6.out
  rw [Nat.zero_add, List.nil_append] at ho
  have HBW : Below w.heap.size w W6 := (ext_new w (.cells #[] 3)).grown HG6.out (ext_new w (.cells #[] 3)).size (fun k e => by have e2 : w.heap.size = k := Option.some.inj e; omega)
  exact ⟨A7, os.length, c7, by simp, nums_of_own ho rfl, HBW⟩

end Go.Proofs.YtbgfmbmcabekeaaGreatDoor

/-
  package origin: ownRing.
-/
namespace Go.Proofs.YtbgfmbmcabekeaaGreatDoor
open Go.RowKit Go.Shelf

set_option maxRecDepth 100000 in
set_option maxHeartbeats 2000000 in
theorem ownRing_any (ns os : List Nat) (ep : Int) (vm vo : Value) (w : World) (hm : MemsAt w vm ns) (hn : NodesOK ns) (ho : NumsAt w vo os) (hl : os.length = 64) :
    Calls Tryz.prog 38 #[.agg #[.int .i64 ep, vm, vo]] w fun e w' => ∃ A n c B m d, e = .returned (.agg #[.int .i64 ep, .slice A n c, .slice B m d]) ∧ MemsAt w' (.slice A n c) ns ∧ NumsAt w' (.slice B m d) os ∧ Below w.heap.size w w' := by
  obtain ⟨X, hX⟩ : ∃ X, X = (w.alloc (.cells #[.int .i64 ep, vm, vo] 30)).alloc (.cells #[.int .i64 0, .slice none 0 0, .slice none 0 0] 30) := ⟨_, rfl⟩
  have HX := Lib.hid hX
  have HEX := Lib.hid (show Below w.heap.size w X by rw [hX]; exact ext_alloc (ext_new _ _) _)
  have HB := Lib.hid (show Blk X w.heap.size 30 #[.int .i64 ep, vm, vo] by rw [hX]; exact (Blk.new _ _ _).alloc _)
  have HR := Lib.hid (show Blk X (w.heap.size + 1) 30 #[.int .i64 0, .slice none 0 0, .slice none 0 0] by rw [hX]; exact Blk.new' _ _ _ (by simp))
  have HC1 := Lib.hid (fun W (k : Below X.heap.size X W) => cloneMems ns vm W ((hm.ext HEX.out).ext k) hn.some_ hn.few)
  have HC2 := Lib.hid (fun W (k : Below X.heap.size X W) => cloneNums os vo W ((ho.ext HEX.out).ext k) (by omega) (by omega))
  have HL := Lib.hid hl
  obtain ⟨Am, cm, rfl, _⟩ := id hm
  obtain ⟨Ao, co, rfl, _⟩ := id ho
  clear hX hm ho hn hl
  obtain ⟨c0, c1, c2⟩ := bcells3 HB.out
  go_enter Tryz.func38, Tryz.ntmps38
  go_upto_region 1 with (fail)
  rw [← HX.out]
  refine wp_region_noPanic ?_
  go_region_law (first
    | (go_simp; go_at_call 70; (refine (HC1.out _ (by first | exact ext_refl X | exact (ext_refl X).drew)).mono ?_); rintro e W1 ⟨A1, n1, k1, rfl, hm1, hb1⟩; have hE1 : Below X.heap.size X W1 := ext_call (by first | exact ext_refl X | exact (ext_refl X).drew) hb1; obtain ⟨d0, d1, d2⟩ := bcells3 (HB.out.ext hE1))
    | (go_simp; go_at_call 71; (refine (HC2.out _ hE1).mono ?_); rintro e W2 ⟨A2, n2, k2, rfl, hm2, hb2⟩; have hE2 : Below X.heap.size X W2 := ext_call hE1 hb2; obtain ⟨e0, e1, e2⟩ := bcells3 (HB.out.ext hE2); obtain ⟨x0, x1, x2⟩ := bcells3 (HR.out.ext hE2); have g0 := (HR.out.ext hE2).frozen 0; have g1 := (HR.out.ext hE2).frozen 1; have g2 := (HR.out.ext hE2).frozen 2))
  all_goals
    refine NoPanic.normal ?_
    have hr2 := HR.out.ext hE2
    have hk2 : Ext2 (w.heap.size + 1) (w.heap.size + 1) W2 (((W2.setCell ⟨w.heap.size + 1, 0, none⟩ (.int .i64 ep)).setCell ⟨w.heap.size + 1, 1, none⟩ (.slice A1 n1 k1)).setCell ⟨w.heap.size + 1, 2, none⟩ (.slice A2 n2 k2)) :=
      (((Ext2.of_ext (ext_refl W2)).setA 0 _).setA 1 _).setA 2 _
    have HM8 := Lib.hid ((hm1.ext hb2).ext2 hk2 hr2)
    have HN8 := Lib.hid (hm2.ext2 (by have := HL.out; omega) hk2 hr2)
    have HE8 := Lib.hid (Ext2.below (ext_call HEX.out hE2) (by omega) (by omega) hk2)
    have HB8 := Lib.hid (((hr2.set_ 0 (.int .i64 ep)).set_ 1 (.slice A1 n1 k1)).set_ 2 (.slice A2 n2 k2))
    clear hk2 hr2
    go_wp2
    generalize ((W2.setCell ⟨w.heap.size + 1, 0, none⟩ (.int .i64 ep)).setCell ⟨w.heap.size + 1, 1, none⟩ (.slice A1 n1 k1)).setCell ⟨w.heap.size + 1, 2, none⟩ (.slice A2 n2 k2) = W8 at *
    obtain ⟨y0, y1, y2⟩ := bcells3 (show Blk W8 (w.heap.size + 1) 30 #[.int .i64 ep, .slice A1 n1 k1, .slice A2 n2 k2] from HB8.out)
    exact bodyPost_ret (v := .agg #[.int .i64 ep, .slice A1 n1 k1, .slice A2 n2 k2]) (by simp [results, Tryz.results38, go_sem, y0, y1, y2]) rfl ⟨_, _, _, _, _, _, rfl, HM8.out, HN8.out, HE8.out⟩

end Go.Proofs.YtbgfmbmcabekeaaGreatDoor

/-
  A change that changes nothing is refused: row.ValidChange, ValidRecord; store.fits, Apply; package origin: Commit.
-/
namespace Go.Proofs.YtbgfmbmcabekeaaGreatDoor
open Go.RowKit Go.Shelf
attribute [local go_sem ↓] Go.wp_at_zero Go.wp_at_succ

set_option maxRecDepth 100000 in
set_option maxHeartbeats 400000 in
theorem validChangeNo (w : World) : Calls Tryz.prog 78 #[.agg #[.int .i64 0, .int .i64 5, .bool true, .int .i64 1, .int .i64 2, .int .i64 3, .bool true, .int .i64 1, .int .i64 2, .int .i64 3]] w fun e w' => e = .returned (.bool false) ∧ Below w.heap.size w w' := by
  have heq : ∀ W : World, (Op.equalIn 10000 73 (.agg #[.int .i64 1, .int .i64 2, .int .i64 3]) (.agg #[.int .i64 1, .int .i64 2, .int .i64 3])).run Tryz.prog W = .ok true W := fun _ => by kernel_rfl
  go_enter Tryz.func78, Tryz.ntmps78
  go_wp2
  go_ret
  exact ⟨rfl, ext_new _ _⟩

set_option maxRecDepth 100000 in
set_option maxHeartbeats 1000000 in
theorem validRecordNo (w : World) (b c : Nat) (hB : HeadB w b #[.int .i64 0, .int .i64 5, .bool true, .int .i64 1, .int .i64 2, .int .i64 3, .bool true, .int .i64 1, .int .i64 2, .int .i64 3]) : Calls Tryz.prog 47 #[.agg #[.int .i64 2, .slice (some ⟨b, 0, none⟩) 1 c]] w fun e w' => e = .returned (.bool false) ∧ Below w.heap.size w w' := by
  have I1 := Lib.hid (show inF 1 10000 [2] = true by simp [inF])
  have I2 := Lib.hid (show inF 1 8 [1] = true by simp [inF])
  have HB0 := Lib.hid (Blk.new w 46 #[.int .i64 2, .slice (some ⟨b, 0, none⟩) 1 c])
  have HC0 := Lib.hid hB
  clear hB
  go_enter Tryz.func47, Tryz.ntmps47
  go_wp2_with fail
  refine (within_yes (w.heap.size + 1) 0 1 [2] 1 10000 _ (.of_blk (Blk.new' _ _ _ (by simp)) 0 [2] rfl) (by simp) (by simp) I1.out).mono ?_
  rintro e W1 ⟨rfl, hb1⟩
  have hB1 := (HB0.out.alloc _).ext hb1
  have c1 := hB1.cell 1
  have HB1 := Lib.hid hB1
  have HC1 := Lib.hid (((HC0.out.alloc _).alloc _).ext hb1)
  have HL1 := Lib.hid (ext_call (ext_alloc (ext_new w _) _) hb1)
  clear hb1 hB1
  go_wp2_with fail
  refine (within_yes W1.heap.size 0 1 [1] 1 8 _ (.of_blk (Blk.new _ _ _) 0 [1] rfl) (by simp) (by simp) I2.out).mono ?_
  rintro e W2 ⟨rfl, hb2⟩
  have hB2 := (HB1.out.alloc _).ext hb2
  have c1 := hB2.cell 1
  have l1 := hB2.lt
  have hC2 := (HC1.out.alloc _).ext hb2
  have e0 := hC2.cell 0; have e1 := hC2.cell 1; have e2 := hC2.cell 2; have e3 := hC2.cell 3; have e4 := hC2.cell 4; have e5 := hC2.cell 5; have e6 := hC2.cell 6; have e7 := hC2.cell 7; have e8 := hC2.cell 8; have e9 := hC2.cell 9
  have l2 := hC2.lt
  have HL2 := Lib.hid (ext_call (ext_alloc HL1.out _) hb2)
  clear hb2 hB2 hC2
  go_wp2
  refine wp_loop_rounds 2 ?_
  rw [rounds_succ]
  go_wp2_with fail
  refine (validChangeNo _).mono ?_
  rintro e W3 ⟨rfl, hb3⟩
  have HL3 := Lib.hid (ext_call (ext_alloc (ext_alloc HL2.out _) _) hb3)
  clear hb3 e0 e1 e2 e3 e4 e5 e6 e7 e8 e9 c1
  go_wp2
  go_ret
  exact ⟨rfl, HL3.out⟩

theorem keep2B {X W : World} {p q : Addr} {x y : Value} (h : X.cell? p = some x ∧ X.cell? q = some y) (k : Below X.heap.size X W) : W.cell? p = some x ∧ W.cell? q = some y ∧ Below X.heap.size X W := ⟨cell_ext h.1 k, cell_ext h.2 k, k⟩
set_option maxRecDepth 100000 in
set_option maxHeartbeats 1000000 in
theorem fitsNo (w : World) (b c gs : Nat) (hB : HeadB w b #[.int .i64 0, .int .i64 5, .bool true, .int .i64 1, .int .i64 2, .int .i64 3, .bool true, .int .i64 1, .int .i64 2, .int .i64 3]) : Calls Tryz.prog 73 #[.pointer (some ⟨gs, 0, none⟩), .agg #[.int .i64 2, .slice (some ⟨b, 0, none⟩) 1 c]] w fun e w' => e = .returned (.bool false) ∧ Below w.heap.size w w' := by
  obtain ⟨X, hX⟩ : ∃ X, X = w.alloc (.cells #[.int .i64 2, .slice (some ⟨b, 0, none⟩) 1 c] 46) := ⟨_, rfl⟩
  have HX := Lib.hid hX
  have HE := Lib.hid (show Below w.heap.size w X by rw [hX]; exact ext_new _ _)
  have HR := Lib.hid (show Blk X w.heap.size 46 #[.int .i64 2, .slice (some ⟨b, 0, none⟩) 1 c] by rw [hX]; exact Blk.new _ _ _)
  have HV := Lib.hid (fun (W : World) (k : Below w.heap.size w W) => validRecordNo W b c (hB.ext k))
  clear hX hB
  have a0 := HR.out.cell 0
  have a1 := HR.out.cell 1
  have HK := Lib.hid (And.intro a0 a1)
  go_enter Tryz.func73, Tryz.ntmps73
  go_upto_region 1 with (fail)
  rw [← HX.out]
  refine wp_region_held_drew (S := fun w' => w'.cell? ⟨w.heap.size, 0, none⟩ = some (.int .i64 2) ∧ w'.cell? ⟨w.heap.size, 1, none⟩ = some (.slice (some ⟨b, 0, none⟩) 1 c) ∧ Below X.heap.size X w') (by kernel_rfl) (keep2B HK.out (ext_refl X).drew) (fun hHeld => ?_)
  refine wpAnyH_take (i := 0) (v := ?_) rfl (by kernel_rfl) (by kernel_rfl) (by kernel_rfl) (fun _ _ _ h => h) (Or.inl ⟨by rfl, ?_⟩) (by assumption) ?_
  rotate_left 1
  · (rintro w' ⟨f0, f1, _⟩; go_simp; try with_reducible rfl)
  try simp only [Act.put, List.getElem_toArray, List.getElem_cons_succ, List.getElem_cons_zero, List.setIfInBounds_toArray, List.set_cons_zero, List.set_cons_succ]
  refine wpAnyH_ready (rs := [1]) (by kernel_rfl) (by simp) ?_
  refine AllReadyH.cons rfl (fun K hK => ?_) AllReadyH.nil
  go_simp
  with_reducible refine (HV.out _ ?_).mono ?_
  · exact HE.out.drew
  rintro e W1 ⟨rfl, hb'⟩
  have hE1 : Below X.heap.size X W1 := ext_call (ext_refl X).drew hb'
  refine hK.out _ _ (keep2B HK.out hE1) (fun hHeld => ?_)
  clear hK K
  try simp only [Act.put, List.getElem_toArray, List.getElem_cons_succ, List.getElem_cons_zero, List.setIfInBounds_toArray, List.set_cons_zero, List.set_cons_succ]
  refine wpAnyH_take (i := 2) (v := ?_) rfl (by kernel_rfl) (by kernel_rfl) (by kernel_rfl) (fun _ _ _ h => h) (Or.inl ⟨by rfl, ?_⟩) (by assumption) ?_
  rotate_left 1
  · (rintro w' ⟨f0, f1, _⟩; go_simp; try with_reducible rfl)
  try simp only [Act.put, List.getElem_toArray, List.getElem_cons_succ, List.getElem_cons_zero, List.setIfInBounds_toArray, List.set_cons_zero, List.set_cons_succ]
  refine wpAnyH_take (i := 3) (v := ?_) rfl (by kernel_rfl) (by kernel_rfl) (by kernel_rfl) (fun _ _ _ h => h) (Or.inl ⟨by rfl, ?_⟩) (by assumption) ?_
  rotate_left 1
  · (rintro w' ⟨f0, f1, _⟩; go_simp; try with_reducible rfl)
  try simp only [Act.put, List.getElem_toArray, List.getElem_cons_succ, List.getElem_cons_zero, List.setIfInBounds_toArray, List.set_cons_zero, List.set_cons_succ]
  refine wpAnyH_take (i := 4) (v := undef) rfl (by kernel_rfl) (by kernel_rfl) (by kernel_rfl) (fun _ _ _ h => h) (Or.inr ⟨by rfl, rfl⟩) (by assumption) ?_
  try simp only [Act.put, List.getElem_toArray, List.getElem_cons_succ, List.getElem_cons_zero, List.setIfInBounds_toArray, List.set_cons_zero, List.set_cons_succ]
  refine wpAnyH_take (i := 5) (v := undef) rfl (by kernel_rfl) (by kernel_rfl) (by kernel_rfl) (fun _ _ _ h => h) (Or.inr ⟨by rfl, rfl⟩) (by assumption) ?_
  try simp only [Act.put, List.getElem_toArray, List.getElem_cons_succ, List.getElem_cons_zero, List.setIfInBounds_toArray, List.set_cons_zero, List.set_cons_succ]
  refine wpAnyH_take (i := 6) (v := undef) rfl (by kernel_rfl) (by kernel_rfl) (by kernel_rfl) (fun _ _ _ h => h) (Or.inr ⟨by rfl, rfl⟩) (by assumption) ?_
  try simp only [Act.put, List.getElem_toArray, List.getElem_cons_succ, List.getElem_cons_zero, List.setIfInBounds_toArray, List.set_cons_zero, List.set_cons_succ]
  refine wpAnyH_take (i := 7) (v := undef) rfl (by kernel_rfl) (by kernel_rfl) (by kernel_rfl) (fun _ _ _ h => h) (Or.inr ⟨by rfl, rfl⟩) (by assumption) ?_
  try simp only [Act.put, List.getElem_toArray, List.getElem_cons_succ, List.getElem_cons_zero, List.setIfInBounds_toArray, List.set_cons_zero, List.set_cons_succ]
  refine wpAnyH_take (i := 8) (v := undef) rfl (by kernel_rfl) (by kernel_rfl) (by kernel_rfl) (fun _ _ _ h => h) (Or.inr ⟨by rfl, rfl⟩) (by assumption) ?_
  try simp only [Act.put, List.getElem_toArray, List.getElem_cons_succ, List.getElem_cons_zero, List.setIfInBounds_toArray, List.set_cons_zero, List.set_cons_succ]
  refine wpAnyH_take (i := 9) (v := undef) rfl (by kernel_rfl) (by kernel_rfl) (by kernel_rfl) (fun _ _ _ h => h) (Or.inr ⟨by rfl, rfl⟩) (by assumption) ?_
  try simp only [Act.put, List.getElem_toArray, List.getElem_cons_succ, List.getElem_cons_zero, List.setIfInBounds_toArray, List.set_cons_zero, List.set_cons_succ]
  refine wpAnyH_take (i := 10) (v := undef) rfl (by kernel_rfl) (by kernel_rfl) (by kernel_rfl) (fun _ _ _ h => h) (Or.inr ⟨by rfl, rfl⟩) (by assumption) ?_
  try simp only [Act.put, List.getElem_toArray, List.getElem_cons_succ, List.getElem_cons_zero, List.setIfInBounds_toArray, List.set_cons_zero, List.set_cons_succ]
  refine wpAnyH_take (i := 11) (v := undef) rfl (by kernel_rfl) (by kernel_rfl) (by kernel_rfl) (fun _ _ _ h => h) (Or.inr ⟨by rfl, rfl⟩) (by assumption) ?_
  try simp only [Act.put, List.getElem_toArray, List.getElem_cons_succ, List.getElem_cons_zero, List.setIfInBounds_toArray, List.set_cons_zero, List.set_cons_succ]
  refine wpAnyH_take (i := 12) (v := undef) rfl (by kernel_rfl) (by kernel_rfl) (by kernel_rfl) (fun _ _ _ h => h) (Or.inr ⟨by rfl, rfl⟩) (by assumption) ?_
  try simp only [Act.put, List.getElem_toArray, List.getElem_cons_succ, List.getElem_cons_zero, List.setIfInBounds_toArray, List.set_cons_zero, List.set_cons_succ]
  refine wpAnyH_take (i := 13) (v := ?_) rfl (by kernel_rfl) (by kernel_rfl) (by kernel_rfl) (fun _ _ _ h => h) (Or.inl ⟨by rfl, ?_⟩) (by assumption) ?_
  rotate_left 1
  · (rintro w' ⟨f0, f1, _⟩; go_simp; try with_reducible rfl)
  try simp only [Act.put, List.getElem_toArray, List.getElem_cons_succ, List.getElem_cons_zero, List.setIfInBounds_toArray, List.set_cons_zero, List.set_cons_succ]
  refine wpAnyH_done (by kernel_rfl) ?_ _
  go_wp2
  go_ret
  exact ⟨rfl, ext_call HE.out hE1⟩

set_option maxRecDepth 100000 in
set_option maxHeartbeats 1000000 in
theorem applyNo (w : World) (b c gs : Nat) (hB : HeadB w b #[.int .i64 0, .int .i64 5, .bool true, .int .i64 1, .int .i64 2, .int .i64 3, .bool true, .int .i64 1, .int .i64 2, .int .i64 3]) : Calls Tryz.prog 40 #[.pointer (some ⟨gs, 0, none⟩), .agg #[.int .i64 2, .slice (some ⟨b, 0, none⟩) 1 c]] w fun e w' => e = .returned (.int .i64 40) ∧ Below w.heap.size w w' := by
  have HE := Lib.hid (ext_new w (.cells #[.int .i64 2, .slice (some ⟨b, 0, none⟩) 1 c] 46))
  have HF := Lib.hid (fitsNo _ b c gs (hB.ext HE.out))
  clear hB
  go_enter Tryz.func40, Tryz.ntmps40
  go_wp2_with fail
  refine HF.out.mono ?_
  rintro e W1 ⟨rfl, hb1⟩
  have HE1 := Lib.hid (ext_call HE.out hb1)
  clear hb1
  go_wp2
  go_ret
  exact ⟨rfl, HE1.out⟩

end Go.Proofs.YtbgfmbmcabekeaaGreatDoor

/-
  package origin: Commit, of the law's transaction and of the same once more.
-/
namespace Go.Proofs.YtbgfmbmcabekeaaGreatDoor
open Go.RowKit Go.Shelf

/-- all blocks but those of a set stand -/
structure ExtS (S : Nat → Prop) (w w' : World) : Prop where
  os : w'.os = w.os
  tape : w'.tape = w.tape
  output : w'.output = w.output
  size : w.heap.size ≤ w'.heap.size
  block : ∀ k, k < w.heap.size → ¬ S k → w'.heap[k]? = w.heap[k]?
section
variable {S T : Nat → Prop} {w w' w'' : World}
theorem ExtS.of_ext (h : Below w.heap.size w w') : ExtS S w w' := ⟨h.os, h.tape, h.output, h.size, fun k hk _ => h.block k hk⟩
theorem ExtS.of_ext2 {a b : Nat} (h : Ext2 a b w w') (ha : S a) (hb : S b) : ExtS S w w' := ⟨h.os, h.tape, h.output, h.size, fun k hk hn => h.block k hk (fun e => hn (e ▸ ha)) (fun e => hn (e ▸ hb))⟩
theorem ExtS.trans (h : ExtS S w w') (k : ExtS S w' w'') : ExtS S w w'' := ⟨k.os.trans h.os, k.tape.trans h.tape, k.output.trans h.output, Nat.le_trans h.size k.size, fun i hi hn => (k.block i (Nat.lt_of_lt_of_le hi h.size) hn).trans (h.block i hi hn)⟩
theorem ExtS.mono (h : ExtS S w w') (hS : ∀ k, S k → T k) : ExtS T w w' := ⟨h.os, h.tape, h.output, h.size, fun k hk hn => h.block k hk (fun e => hn (hS k e))⟩
theorem ExtS.blk {g : Nat} {t : TypeId} {cs : Array Value} (h : Blk w g t cs) (k : ExtS S w w') (hn : ¬ S g) : Blk w' g t cs := (k.block g h.lt hn).trans h
theorem ExtS.cell {p : Addr} {v : Value} (h : w.cell? p = some v) (k : ExtS S w w') (hn : ¬ S p.block) : w'.cell? p = some v := (World.cell?_of_block (k.block p.block (lt_of_cell h) hn)).trans h
theorem ExtS.headB {g : Nat} {cs : Array Value} (h : HeadB w g cs) (k : ExtS S w w') (hn : ¬ S g) : HeadB w' g cs := ⟨Nat.lt_of_lt_of_le h.lt k.size, fun i hi => (World.cell?_of_block (k.block g h.lt hn)).trans (h.cells i hi)⟩
theorem ExtS.below {w0 : World} (h : Below w0.heap.size w0 w) (hS : ∀ k, S k → w0.heap.size ≤ k) (k : ExtS S w w') : Below w0.heap.size w0 w' :=
  ⟨k.os.trans h.os, k.tape.trans h.tape, k.output.trans h.output, Nat.le_trans h.size k.size, fun i hi => (k.block i (Nat.lt_of_lt_of_le hi h.size) (fun e => absurd (hS i e) (by omega))).trans (h.block i hi)⟩
end

theorem blkNe {W : World} {a b : Nat} {t u : TypeId} {xs ys : Array Value} (h : Blk W a t xs) (k : Blk W b u ys) (hne : t ≠ u) : a ≠ b := by
  rintro rfl
  unfold Blk at h k
  rw [h] at k
  injection k with k
  injection k with _ k
  exact hne k
theorem blkNeMap {W : World} {a g c : Nat} {t : TypeId} {xs : Array Value} {es : Array MapEntry} (h : Blk W a t xs) (k : MapAt W g es c) : a ≠ g := by
  rintro rfl
  unfold Blk at h
  unfold MapAt at k
  rw [h] at k
  cases k
theorem cellNeMap {W : World} {p : Addr} {v : Value} {g c : Nat} {es : Array MapEntry} (h : W.cell? p = some v) (k : MapAt W g es c) : p.block ≠ g := by
  intro e
  obtain ⟨o, ho, hc⟩ := cells_of_cell h
  rw [e] at ho
  unfold MapAt at k
  rw [k] at ho
  cases ho
  cases hc

theorem filled0 (gs gl gst gm b c cl : Nat) (A : Option Addr) (v : Value) (w : World) (h0 : w.cell? ⟨gs, 0, none⟩ = some (.pointer (some ⟨gl, 0, none⟩))) (h1 : w.cell? ⟨gs, 1, none⟩ = some (.pointer (some ⟨gst, 0, none⟩)))
    (hl : Blk w gl 144 #[.slice A 0 cl, v]) (hB : HeadB w b #[.int .i64 0, .int .i64 5, .bool false, .int .i64 0, .int .i64 0, .int .i64 0, .bool true, .int .i64 1, .int .i64 2, .int .i64 3]) (hS : StateIs w false gst gm 0) :
    Calls Tryz.prog 39 #[.pointer (some ⟨gs, 0, none⟩), .slice (some ⟨b, 0, none⟩) 1 c] w fun e w' => ∃ g d, e = .returned (.agg #[.int .i64 1, .slice (some ⟨g, 0, none⟩) 1 d]) ∧ HeadB w' g #[.int .i64 0, .int .i64 5, .bool false, .int .i64 0, .int .i64 0, .int .i64 0, .bool true, .int .i64 1, .int .i64 2, .int .i64 3] ∧ Below w.heap.size w w' :=
  (filled_any false 0 0 0 0 0 gs gl gst b c 0 cl A v (by omega) w h0 h1 hl hB (fun W k => getNone gst gm 0 W (hS.ext k))).mono fun _ _ ⟨g, d, zs, h1, h2, h3⟩ => ⟨g, d, h1, .of2 h2, h3⟩
theorem filled1 (gs gl gst gm b c cl : Nat) (A : Option Addr) (v : Value) (w : World) (h0 : w.cell? ⟨gs, 0, none⟩ = some (.pointer (some ⟨gl, 0, none⟩))) (h1 : w.cell? ⟨gs, 1, none⟩ = some (.pointer (some ⟨gst, 0, none⟩)))
    (hl : Blk w gl 144 #[.slice A 1 cl, v]) (hB : HeadB w b #[.int .i64 0, .int .i64 5, .bool false, .int .i64 0, .int .i64 0, .int .i64 0, .bool true, .int .i64 1, .int .i64 2, .int .i64 3]) (hS : StateIs w true gst gm 1) :
    Calls Tryz.prog 39 #[.pointer (some ⟨gs, 0, none⟩), .slice (some ⟨b, 0, none⟩) 1 c] w fun e w' => ∃ g d, e = .returned (.agg #[.int .i64 2, .slice (some ⟨g, 0, none⟩) 1 d]) ∧ HeadB w' g #[.int .i64 0, .int .i64 5, .bool true, .int .i64 1, .int .i64 2, .int .i64 3, .bool true, .int .i64 1, .int .i64 2, .int .i64 3] ∧ Below w.heap.size w w' :=
  (filled_any true 0 5 1 2 3 gs gl gst b c 1 cl A v (by omega) w h0 h1 hl hB (fun W k => getOne gst gm 1 W (hS.ext k))).mono fun _ _ ⟨g, d, zs, h1, h2, h3⟩ => ⟨g, d, h1, .of2 h2, h3⟩

set_option maxRecDepth 100000 in
set_option maxHeartbeats 1000000 in
theorem commit2 (gs gl gst gm b c cl : Nat) (A : Option Addr) (v : Value) (w : World) (h0 : w.cell? ⟨gs, 0, none⟩ = some (.pointer (some ⟨gl, 0, none⟩))) (h1 : w.cell? ⟨gs, 1, none⟩ = some (.pointer (some ⟨gst, 0, none⟩)))
    (hl : Blk w gl 144 #[.slice A 1 cl, v]) (hB : HeadB w b #[.int .i64 0, .int .i64 5, .bool false, .int .i64 0, .int .i64 0, .int .i64 0, .bool true, .int .i64 1, .int .i64 2, .int .i64 3]) (hS : StateIs w true gst gm 1) :
    Calls Tryz.prog 11 #[.pointer (some ⟨gs, 0, none⟩), .slice (some ⟨b, 0, none⟩) 1 c] w fun e w' => e = .returned (.tuple #[.int .i64 0, .int .i64 270]) ∧ Below w.heap.size w w' := by
  have HF := Lib.hid (filled1 gs gl gst gm b c cl A v w h0 h1 hl hB hS)
  have H1 := Lib.hid h1
  clear h0 h1 hl hB hS
  go_enter Tryz.func11, Tryz.ntmps11
  go_wp2_with fail
  refine HF.out.mono ?_
  rintro e W1 ⟨g, d, rfl, hg, hb1⟩
  go_wp2
  obtain ⟨X, hX⟩ : ∃ X, X = W1.alloc (.cells #[.int .i64 2, .slice (some ⟨g, 0, none⟩) 1 d] 46) := ⟨_, rfl⟩
  rw [← hX]
  have HE := Lib.hid (show Below w.heap.size w X by rw [hX]; exact ext_alloc hb1 _)
  have HR := Lib.hid (show Blk X W1.heap.size 46 #[.int .i64 2, .slice (some ⟨g, 0, none⟩) 1 d] by rw [hX]; exact Blk.new _ _ _)
  have HA := Lib.hid (fun (W : World) (k : Below X.heap.size X W) => applyNo W g d gst ((show HeadB X g #[.int .i64 0, .int .i64 5, .bool true, .int .i64 1, .int .i64 2, .int .i64 3, .bool true, .int .i64 1, .int .i64 2, .int .i64 3] by rw [hX]; exact hg.alloc _).ext k))
  clear hX hg hb1
  have a0 := HR.out.cell 0
  have a1 := HR.out.cell 1
  have s1 := cell_ext H1.out HE.out
  have HK := Lib.hid (show X.cell? ⟨gs, 1, none⟩ = some (.pointer (some ⟨gst, 0, none⟩)) ∧ X.cell? ⟨W1.heap.size, 0, none⟩ = some (.int .i64 2) ∧ X.cell? ⟨W1.heap.size, 1, none⟩ = some (.slice (some ⟨g, 0, none⟩) 1 d) from ⟨s1, a0, a1⟩)
  go_region_held3 (fun w' => w'.cell? ⟨gs, 1, none⟩ = some (.pointer (some ⟨gst, 0, none⟩)) ∧ w'.cell? ⟨W1.heap.size, 0, none⟩ = some (.int .i64 2) ∧ w'.cell? ⟨W1.heap.size, 1, none⟩ = some (.slice (some ⟨g, 0, none⟩) 1 d) ∧ Below X.heap.size X w')
    (first | with_reducible assumption | exact keep3B HK.out (by repeat (first | with_reducible refine Below.drew ?_ | with_reducible assumption | with_reducible exact ext_refl _)))
    (first | (go_at_call 40; (with_reducible refine (HA.out _ ?_).mono ?_); (exact keep3E (by assumption)); rintro e W2 ⟨rfl, hb'⟩; have hE2 := ext_call (keep3E (by assumption)) hb'))
  all_goals
    have HE2 := Lib.hid (ext_call HE.out hE2)
    clear hb' hE2 a0 a1 s1
    go_wp2
    go_ret2
    exact ⟨rfl, HE2.out⟩

/-- what the first commit changes -/
def ComS (gl gst gm : Nat) (k : Nat) : Prop := k = gl ∨ k = gst ∨ k = gm

theorem oneRec_of {W : World} {gl : Nat} {z s c1 t : ByteArray} (h : Log1 W gl z s c1 t) (k : RecsAt W gl) : OneRec W gl := by
  obtain ⟨gh, A, n, c, cap, zs, h1, _, _⟩ := h
  obtain ⟨gr, c', g, d, k1, k2, k3, k4⟩ := k
  have h0 := h1.cell 0
  rw [k1] at h0
  injection h0 with h0
  injection h0 with hA hn hc
  subst hA hn hc
  exact ⟨gr, c', g, d, _, h1, k2, k3, k4⟩

theorem keepS4 {X W : World} {S : Nat → Prop} {p q r s : Addr} {x y z u : Value} (h : X.cell? p = some x ∧ X.cell? q = some y ∧ X.cell? r = some z ∧ X.cell? s = some u ∧ ¬ S p.block ∧ ¬ S q.block ∧ ¬ S r.block ∧ ¬ S s.block) (k : ExtS S X W) :
    W.cell? p = some x ∧ W.cell? q = some y ∧ W.cell? r = some z ∧ W.cell? s = some u ∧ ExtS S X W :=
  ⟨ExtS.cell h.1 k h.2.2.2.2.1, ExtS.cell h.2.1 k h.2.2.2.2.2.1, ExtS.cell h.2.2.1 k h.2.2.2.2.2.2.1, ExtS.cell h.2.2.2.1 k h.2.2.2.2.2.2.2, k⟩
set_option maxRecDepth 100000 in
set_option maxHeartbeats 2000000 in
theorem commit1 (w0 : World) (hR : RoundOK w0) (gs gl gst gm b c : Nat) (z : ByteArray) (hz : z.size = 32) (w : World) (hE0 : Below w0.heap.size w0 w) (hge : w0.heap.size ≤ gl ∧ w0.heap.size ≤ gst ∧ w0.heap.size ≤ gm)
    (h0 : w.cell? ⟨gs, 0, none⟩ = some (.pointer (some ⟨gl, 0, none⟩))) (h1 : w.cell? ⟨gs, 1, none⟩ = some (.pointer (some ⟨gst, 0, none⟩))) (hns : ¬ ComS gl gst gm gs)
    (hl : Log0 w gl z (stateF false)) (hB : HeadB w b #[.int .i64 0, .int .i64 5, .bool false, .int .i64 0, .int .i64 0, .int .i64 0, .bool true, .int .i64 1, .int .i64 2, .int .i64 3]) (hS : StateIs w false gst gm 0) :
    Calls Tryz.prog 11 #[.pointer (some ⟨gs, 0, none⟩), .slice (some ⟨b, 0, none⟩) 1 c] w
      fun e w' => e = .returned (.tuple #[.int .i64 1, .int .i64 0]) ∧ OneRec w' gl ∧ StateIs w' true gst gm 1 ∧ ExtS (ComS gl gst gm) w w' := by
  obtain ⟨gh, hlog, hhead⟩ := hl
  have HF := Lib.hid (filled0 gs gl gst gm b c 0 none _ w h0 h1 hlog hB hS)
  have HE0 := Lib.hid hE0
  have HR := Lib.hid hR
  have H0 := Lib.hid h0
  have H1 := Lib.hid h1
  have HS := Lib.hid hS
  have HLG := Lib.hid hlog
  have HHD := Lib.hid hhead
  have lgl := hlog.lt
  have lgst := hS.1.lt
  have lgm := hS.2.lt
  have HNS := Lib.hid hns
  have HGE := Lib.hid hge
  have ngst : gl ≠ gst := blkNe hlog hS.1 (by decide)
  have ngm : gl ≠ gm := blkNeMap hlog hS.2
  have nhst : gh ≠ gst := blkNe hhead hS.1 (by decide)
  have nhm : gh ≠ gm := blkNeMap hhead hS.2
  clear hE0 hR h0 h1 hS hlog hhead hB hns hge
  go_enter Tryz.func11, Tryz.ntmps11
  go_wp2_with fail
  refine HF.out.mono ?_
  rintro e W1 ⟨g, d, rfl, hg, hb1⟩
  go_wp2
  obtain ⟨X, hX⟩ : ∃ X, X = W1.alloc (.cells #[.int .i64 1, .slice (some ⟨g, 0, none⟩) 1 d] 46) := ⟨_, rfl⟩
  rw [← hX]
  have HE := Lib.hid (show Below w.heap.size w X by rw [hX]; exact ext_alloc hb1 _)
  have HRX := Lib.hid (show Blk X W1.heap.size 46 #[.int .i64 1, .slice (some ⟨g, 0, none⟩) 1 d] by rw [hX]; exact Blk.new _ _ _)
  have HGX := Lib.hid (show HeadB X g #[.int .i64 0, .int .i64 5, .bool false, .int .i64 0, .int .i64 0, .int .i64 0, .bool true, .int .i64 1, .int .i64 2, .int .i64 3] by rw [hX]; exact hg.alloc _)
  have HSX := Lib.hid (HS.out.ext HE.out)
  have hw1 := hb1.size
  have hgst : g ≠ gst := by
    rintro rfl
    have h2 := (HGX.out.cell 0).symm.trans (HSX.out.1.cell 0)
    cases h2
  have hgm : g ≠ gm := cellNeMap (p := ⟨g, 0, none⟩) (HGX.out.cell 0) HSX.out.2
  clear hX hg hb1
  have HA := Lib.hid (fun (W : World) (k : Below X.heap.size X W) => apply_one W g d gst gm (HGX.out.ext k) (HSX.out.ext k))
  have a0 := HRX.out.cell 0
  have a1 := HRX.out.cell 1
  have s0 := cell_ext H0.out HE.out
  have s1 := cell_ext H1.out HE.out
  have hnr : ¬ ComS gl gst gm W1.heap.size := by rintro (h | h | h) <;> omega
  have HK := Lib.hid (show X.cell? ⟨gs, 0, none⟩ = some (.pointer (some ⟨gl, 0, none⟩)) ∧ X.cell? ⟨gs, 1, none⟩ = some (.pointer (some ⟨gst, 0, none⟩)) ∧ X.cell? ⟨W1.heap.size, 0, none⟩ = some (.int .i64 1) ∧ X.cell? ⟨W1.heap.size, 1, none⟩ = some (.slice (some ⟨g, 0, none⟩) 1 d) ∧
    ¬ ComS gl gst gm gs ∧ ¬ ComS gl gst gm gs ∧ ¬ ComS gl gst gm W1.heap.size ∧ ¬ ComS gl gst gm W1.heap.size from ⟨s0, s1, a0, a1, HNS.out, HNS.out, hnr, hnr⟩)
  clear hnr
  go_region_held3 (fun w' => w'.cell? ⟨gs, 0, none⟩ = some (.pointer (some ⟨gl, 0, none⟩)) ∧ w'.cell? ⟨gs, 1, none⟩ = some (.pointer (some ⟨gst, 0, none⟩)) ∧ w'.cell? ⟨W1.heap.size, 0, none⟩ = some (.int .i64 1) ∧ w'.cell? ⟨W1.heap.size, 1, none⟩ = some (.slice (some ⟨g, 0, none⟩) 1 d) ∧ ExtS (ComS gl gst gm) X w')
    (first | with_reducible assumption | exact keepS4 HK.out (by first | with_reducible assumption | exact ExtS.of_ext (ext_refl X).drew))
    (first | (go_at_call 40; (with_reducible refine (HA.out _ ?_).mono ?_); (exact (ext_refl X).drew); rintro e W2 ⟨rfl, hs2, he2⟩; have hx2 : ExtS (ComS gl gst gm) X W2 := (ExtS.of_ext (ext_refl X).drew).trans (ExtS.of_ext2 he2 (.inr (.inl rfl)) (.inr (.inr rfl)))))
  have HS2 := Lib.hid (show StateIs W2 true gst gm 1 from hs2)
  have hXd : Below X.heap.size X X.drew := (ext_refl X).drew
  have HL2 := Lib.hid (show Log0 W2 gl z (stateF false) from ⟨gh, ((HLG.out.ext HE.out).ext hXd).ext2 he2 ngst ngm, ((HHD.out.ext HE.out).ext hXd).ext2 he2 nhst nhm⟩)
  have HG2 := Lib.hid (show HeadB W2 g #[.int .i64 0, .int .i64 5, .bool false, .int .i64 0, .int .i64 0, .int .i64 0, .bool true, .int .i64 1, .int .i64 2, .int .i64 3] from (HGX.out.ext hXd).ext2 he2 hgst hgm)
  have HX2 := Lib.hid ((ExtS.of_ext HE.out).trans hx2)
  have HE2 := Lib.hid (show Below w0.heap.size w0 W2 from ExtS.below HE0.out (by rintro k (rfl | rfl | rfl); exact HGE.out.1; exact HGE.out.2.1; exact HGE.out.2.2) HX2.out)
  have HK2 := Lib.hid (keepS4 HK.out hx2)
  clear hs2 he2 hx2 a0 a1 s0 s1 hXd HK
  have s0 := HK2.out.1
  have s1 := HK2.out.2.1
  have a0 := HK2.out.2.2.1
  have a1 := HK2.out.2.2.2.1
  have hnr : ¬ ComS gl gst gm W1.heap.size := by rintro (h | h | h) <;> omega
  have HK := Lib.hid (show W2.cell? ⟨gs, 0, none⟩ = some (.pointer (some ⟨gl, 0, none⟩)) ∧ W2.cell? ⟨gs, 1, none⟩ = some (.pointer (some ⟨gst, 0, none⟩)) ∧ W2.cell? ⟨W1.heap.size, 0, none⟩ = some (.int .i64 1) ∧ W2.cell? ⟨W1.heap.size, 1, none⟩ = some (.slice (some ⟨g, 0, none⟩) 1 d) ∧
    ¬ ComS gl gst gm gs ∧ ¬ ComS gl gst gm gs ∧ ¬ ComS gl gst gm W1.heap.size ∧ ¬ ComS gl gst gm W1.heap.size from ⟨s0, s1, a0, a1, HNS.out, HNS.out, hnr, hnr⟩)
  have HRt := Lib.hid (fun (W : World) (k : Below W2.heap.size W2 W) => stateRoot true gst gm 1 W (HS2.out.ext k) (HR.out.below (ext_call HE2.out k)))
  have HAp := Lib.hid (fun (W : World) (k : Below W2.heap.size W2 W) => logAppendR gl g d z (stateF false) (stateF true) hz (stateF_size _) (stateF_size _) W (HL2.out.ext k) (HG2.out.ext k) (HR.out.below (ext_call HE2.out k)))
  clear hnr
  go_upto_region 6 with (fail)
  go_region_held3 (fun w' => w'.cell? ⟨gs, 0, none⟩ = some (.pointer (some ⟨gl, 0, none⟩)) ∧ w'.cell? ⟨gs, 1, none⟩ = some (.pointer (some ⟨gst, 0, none⟩)) ∧ w'.cell? ⟨W1.heap.size, 0, none⟩ = some (.int .i64 1) ∧ w'.cell? ⟨W1.heap.size, 1, none⟩ = some (.slice (some ⟨g, 0, none⟩) 1 d) ∧ ExtS (ComS gl gst gm) W2 w')
    (first | with_reducible assumption | exact keepS4 HK.out (by first | with_reducible assumption | exact ExtS.of_ext (ext_refl W2).drew | exact ExtS.of_ext (by assumption)))
    (first
      | (go_at_call 26; (with_reducible refine (HRt.out _ ?_).mono ?_); (exact (ext_refl W2).drew); rintro e W3 ⟨rfl, hb3⟩; have hE3 : Below W2.heap.size W2 W3 := ext_call (ext_refl W2).drew hb3)
      | (go_at_call 41; (with_reducible refine (HAp.out _ ?_).mono ?_); (assumption); rintro e W4 ⟨rfl, hlr, he4⟩; have hx4 : ExtS (ComS gl gst gm) W2 W4 := (ExtS.of_ext (by assumption)).trans (ExtS.of_ext2 he4 (.inl rfl) (.inl rfl))))
  have HO4 := Lib.hid (oneRec_of hlr.1 hlr.2)
  have HS4 := Lib.hid (show StateIs W4 true gst gm 1 from ⟨(HS2.out.1.ext hE3).ext2 he4 ngst.symm ngst.symm, (HS2.out.2.ext hE3).ext2 he4 ngm.symm ngm.symm⟩)
  have HX4 := Lib.hid (HX2.out.trans hx4)
  have r0 := (keepS4 HK.out hx4).2.2.1
  clear hlr he4 hx4 hE3 hb3 s0 s1 a0 a1
  go_wp2
  go_ret2
  exact ⟨rfl, HO4.out, HS4.out, HX4.out⟩

end Go.Proofs.YtbgfmbmcabekeaaGreatDoor

/-
  package origin: SetRing.
-/
namespace Go.Proofs.YtbgfmbmcabekeaaGreatDoor
open Go.RowKit Go.Shelf
attribute [local go_sem ↓] Go.wp_at_zero Go.wp_at_succ

/-- a server in memory -/
def SrvAt (W : World) (gs gl gst gn gp np cp : Nat) (lag ep sent : Int) (Am : Option Addr) (nm cm : Nat) (Ao : Option Addr) (no co : Nat) : Prop :=
  Blk W gs 101 #[.pointer (some ⟨gl, 0, none⟩), .pointer (some ⟨gst, 0, none⟩), .slice (some ⟨gp, 0, none⟩) np cp, .int .i64 lag, .int .i64 ep, .slice Am nm cm, .slice Ao no co, .map (some gn), .int .i64 sent]
section
variable {W W' : World} {gs gl gst gn gp np cp nm cm no co : Nat} {lag ep sent : Int} {Am Ao : Option Addr}
theorem SrvAt.ext (h : SrvAt W gs gl gst gn gp np cp lag ep sent Am nm cm Ao no co) (k : Below W.heap.size W W') : SrvAt W' gs gl gst gn gp np cp lag ep sent Am nm cm Ao no co := Blk.ext h k
theorem SrvAt.extS {S : Nat → Prop} (h : SrvAt W gs gl gst gn gp np cp lag ep sent Am nm cm Ao no co) (k : ExtS S W W') (hn : ¬ S gs) : SrvAt W' gs gl gst gn gp np cp lag ep sent Am nm cm Ao no co := ExtS.blk h k hn
theorem SrvAt.ne3 {b off : Nat} {x y z : Int} (h : SrvAt W gs gl gst gn gp np cp lag ep sent Am nm cm Ao no co) (h0 : W.cell? ⟨b, off, none⟩ = some (.int .i64 x)) (h1 : W.cell? ⟨b, off + 1, none⟩ = some (.int .i64 y)) (h2 : W.cell? ⟨b, off + 2, none⟩ = some (.int .i64 z)) : b ≠ gs := by
  rintro rfl
  unfold SrvAt at h
  rw [h.cell] at h0 h1 h2
  match off, h0, h1, h2 with
  | 0, h0, _, _ => simp at h0
  | 1, h0, _, _ => simp at h0
  | 2, h0, _, _ => simp at h0
  | 3, _, _, h2 => simp at h2
  | 4, _, h1, _ => simp at h1
  | 5, h0, _, _ => simp at h0
  | 6, h0, _, _ => simp at h0
  | 7, h0, _, _ => simp at h0
  | 8, _, h1, _ => simp at h1
  | (q + 9), h0, _, _ => simp at h0
end
theorem MapI.ne {W : World} {gn : Nat} {kv : List (Int × Value)} {p : Addr} {v : Value} (h : MapI W gn kv) (hc : W.cell? p = some v) : p.block ≠ gn := by
  obtain ⟨es, c, h, _⟩ := h
  exact cellNeMap hc h
theorem MapI.neBlk {W : World} {gn g : Nat} {kv : List (Int × Value)} {t : TypeId} {cs : Array Value} (h : MapI W gn kv) (hc : Blk W g t cs) : g ≠ gn := by
  obtain ⟨es, c, h, _⟩ := h
  exact blkNeMap hc h
theorem MapI.extS {W W' : World} {gn : Nat} {kv : List (Int × Value)} {S : Nat → Prop} (h : MapI W gn kv) (k : ExtS S W W') (hn : ¬ S gn) : MapI W' gn kv := by
  have hlt := h.lt
  obtain ⟨es, c, h, e⟩ := h
  exact ⟨es, c, (k.block gn hlt hn).trans h, e⟩
/-- lists of members and of numbers keep where their blocks are not touched -/
theorem MemsAt.extS {W W' : World} {v : Value} {ns : List Nat} {S : Nat → Prop} (h : MemsAt W v ns) (k : ExtS S W W') (hn : ∀ (b off : Nat) (x y z : Int), W.cell? ⟨b, off, none⟩ = some (.int .i64 x) → W.cell? ⟨b, off + 1, none⟩ = some (.int .i64 y) → W.cell? ⟨b, off + 2, none⟩ = some (.int .i64 z) → ¬ S b) : MemsAt W' v ns := by
  obtain ⟨A, c, rfl, hc, h⟩ := h
  refine ⟨A, c, rfl, hc, fun h0 => ?_⟩
  obtain ⟨b, off, hA, hcell⟩ := h h0
  have h3 := hcell 0 ns[0] (List.getElem?_eq_getElem h0)
  have hne : ¬ S b := hn b _ _ _ _ h3.1 h3.2.1 h3.2.2
  exact ⟨b, off, hA, fun j n hj => ⟨ExtS.cell (hcell j n hj).1 k hne, ExtS.cell (hcell j n hj).2.1 k hne, ExtS.cell (hcell j n hj).2.2 k hne⟩⟩
theorem NumsAt.extS {W W' : World} {v : Value} {os : List Nat} {S : Nat → Prop} (h : NumsAt W v os) (hl : 3 ≤ os.length) (k : ExtS S W W') (hn : ∀ (b off : Nat) (x y z : Int), W.cell? ⟨b, off, none⟩ = some (.int .i64 x) → W.cell? ⟨b, off + 1, none⟩ = some (.int .i64 y) → W.cell? ⟨b, off + 2, none⟩ = some (.int .i64 z) → ¬ S b) : NumsAt W' v os := by
  obtain ⟨A, c, rfl, hc, h⟩ := h
  refine ⟨A, c, rfl, hc, fun h0 => ?_⟩
  obtain ⟨b, off, hA, hcell⟩ := h h0
  have hne : ¬ S b := hn b off _ _ _ (hcell 0 os[0] (List.getElem?_eq_getElem (by omega))) (hcell 1 os[1] (List.getElem?_eq_getElem (by omega))) (hcell 2 os[2] (List.getElem?_eq_getElem (by omega)))
  exact ⟨b, off, hA, fun j n hj => ExtS.cell (hcell j n hj) k hne⟩

/-- the nodes that are known behind a ring -/
def knownI (kv : List (Int × Value)) (ns : List Nat) : List (Int × Value) := ns.foldl (fun (kv : List (Int × Value)) (n : Nat) => setI kv (n : Int) (.bool true)) kv
theorem knownI_succ (kv : List (Int × Value)) (ns : List Nat) (k n : Nat) (h : ns[k]? = some n) : knownI kv (ns.take (k + 1)) = setI (knownI kv (ns.take k)) (n : Int) (.bool true) := by
  unfold knownI
  rw [List.take_add_one, h]
  simp

theorem keepR {X W : World} {gs b : Nat} {ep ep0 : Int} {vm vo : Value} (h : X.cell? ⟨b, 0, none⟩ = some (.int .i64 ep) ∧ X.cell? ⟨b, 1, none⟩ = some vm ∧ X.cell? ⟨b, 2, none⟩ = some vo ∧ X.cell? ⟨gs, 4, none⟩ = some (.int .i64 ep0)) (k : Below X.heap.size X W) :
    W.cell? ⟨b, 0, none⟩ = some (.int .i64 ep) ∧ W.cell? ⟨b, 1, none⟩ = some vm ∧ W.cell? ⟨b, 2, none⟩ = some vo ∧ W.cell? ⟨gs, 4, none⟩ = some (.int .i64 ep0) ∧ Below X.heap.size X W :=
  ⟨cell_ext h.1 k, cell_ext h.2.1 k, cell_ext h.2.2.1 k, cell_ext h.2.2.2 k, k⟩

set_option maxRecDepth 100000 in
set_option maxHeartbeats 2000000 in
theorem setRingYes (gs gl gst gn gp np cp : Nat) (lag sent ep0 : Int) (Am0 : Option Addr) (nm0 cm0 : Nat) (Ao0 : Option Addr) (no0 co0 : Nat) (kv : List (Int × Value)) (ns os : List Nat) (ep : Int) (vm vo : Value) (w : World) (hs : SrvAt w gs gl gst gn gp np cp lag ep0 sent Am0 nm0 cm0 Ao0 no0 co0) (hmap : MapI w gn kv) (hm : MemsAt w vm ns) (hn : NodesOK ns) (ho : NumsAt w vo os) (hl : os.length = 64) (hos : ∀ o ∈ os, o ∈ ns) (hlim : ∀ n, (os.count n : Int) ≤ limF ns.length) (h1 : 1 ≤ ep) (h2 : ep ≤ 1000000) (hlt : ep0 < ep) :
    Calls Tryz.prog 10 #[.pointer (some ⟨gs, 0, none⟩), .agg #[.int .i64 ep, vm, vo]] w fun e w' => e = .returned (.int .i64 0) ∧ (∃ Am nm cm Ao no co, SrvAt w' gs gl gst gn gp np cp lag ep sent Am nm cm Ao no co ∧ MemsAt w' (.slice Am nm cm) ns ∧ NumsAt w' (.slice Ao no co) os) ∧ MapI w' gn (knownI kv ns) ∧ ExtS (fun k => k = gs ∨ k = gn) w w' := by
  have h4 : w.cell? ⟨gs, 4, none⟩ = some (.int .i64 ep0) := Blk.cell hs 4
  have hle : ¬ ep ≤ ep0 := by omega
  obtain ⟨X, hX⟩ : ∃ X, X = w.alloc (.cells #[.int .i64 ep, vm, vo] 30) := ⟨_, rfl⟩
  have HX := Lib.hid hX
  have HE := Lib.hid (show Below w.heap.size w X by rw [hX]; exact ext_new _ _)
  have HB := Lib.hid (show Blk X w.heap.size 30 #[.int .i64 ep, vm, vo] by rw [hX]; exact Blk.new _ _ _)
  have HV := Lib.hid (fun (W : World) (k : Below X.heap.size X W) => validRing_yes ns os ep vm vo W ((hm.ext HE.out).ext k) hn ((ho.ext HE.out).ext k) hl hos hlim h1 h2)
  have HOw := Lib.hid (fun (W : World) (k : Below X.heap.size X W) => ownRing_any ns os ep vm vo W ((hm.ext HE.out).ext k) hn ((ho.ext HE.out).ext k) hl)
  have HM := Lib.hid hm
  have HN := Lib.hid hn
  have HL := Lib.hid hl
  have HS := Lib.hid hs
  have HMP := Lib.hid hmap
  have s4 := cell_ext h4 HE.out
  obtain ⟨Am, cm, rfl, _⟩ := id hm
  obtain ⟨Ao, co, rfl, _⟩ := id ho
  clear hX hm hn ho hl hos hlim h1 h2 h4 hs hmap hlt
  obtain ⟨b0, b1, b2⟩ := bcells3 HB.out
  have HK := Lib.hid (And.intro b0 (And.intro b1 (And.intro b2 s4)))
  go_enter Tryz.func10, Tryz.ntmps10
  go_upto_region 3 with (fail)
  rw [← HX.out]
  go_region_held3 (fun w' => w'.cell? ⟨w.heap.size, 0, none⟩ = some (.int .i64 ep) ∧ w'.cell? ⟨w.heap.size, 1, none⟩ = some (.slice Am ns.length cm) ∧ w'.cell? ⟨w.heap.size, 2, none⟩ = some (.slice Ao os.length co) ∧ w'.cell? ⟨gs, 4, none⟩ = some (.int .i64 ep0) ∧ Below X.heap.size X w')
    (first | with_reducible assumption | exact keepR HK.out (by first | with_reducible assumption | exact (ext_refl X).drew))
    (first | (go_at_call 37; (with_reducible refine (HV.out _ ?_).mono ?_); (first | exact (ext_refl X).drew | assumption); rintro e W1 ⟨rfl, hb'⟩; have hE1 : Below X.heap.size X W1 := ext_call (by first | exact (ext_refl X).drew | assumption) hb'))
  have HE1 := Lib.hid hE1
  clear hb' b0 b1 b2 s4
  obtain ⟨b0, b1, b2⟩ := bcells3 (HB.out.ext HE1.out)
  clear hE1
  go_wp2_with fail
  refine (HOw.out W1 HE1.out).mono ?_
  rintro e W2 ⟨A1, n1, k1, A2, n2, k2, rfl, hm2, hn2, hb2⟩
  have HE2 := Lib.hid (ext_call HE1.out hb2)
  have HM2 := Lib.hid hm2
  have HN2 := Lib.hid hn2
  clear hm2 hn2 hb2 b0 b1 b2
  have HS2 := Lib.hid ((HS.out.ext HE.out).ext HE2.out)
  have HMP2 := Lib.hid ((HMP.out.ext HE.out).ext HE2.out)
  have HMm2 := Lib.hid ((HM.out.ext HE.out).ext HE2.out)
  obtain ⟨b0, b1, b2⟩ := bcells3 (HB.out.ext HE2.out)
  have q4 := Blk.cell HS2.out 4
  have q5 := Blk.cell HS2.out 5
  have q6 := Blk.cell HS2.out 6
  have f4 := Blk.frozen HS2.out 4
  have f5 := Blk.frozen HS2.out 5
  have f6 := Blk.frozen HS2.out 6
  have hgw : w.heap.size ≠ gs := by have := Blk.lt HS.out; omega
  go_wp2_with fail
  obtain ⟨V, hV⟩ : ∃ V, V = (((W2.setCell ⟨gs, 4, none⟩ (.int .i64 ep)).setCell ⟨gs, 5, none⟩ (.slice A1 n1 k1)).setCell ⟨gs, 6, none⟩ (.slice A2 n2 k2)) := ⟨_, rfl⟩
  rw [← hV]
  have hx : Ext2 gs gs W2 V := by rw [hV]; exact (((Ext2.refl gs gs W2).setA 4 _).setA 5 _).setA 6 _
  have hxs' : ExtS (fun k => k = gs) W2 V := ExtS.of_ext2 hx rfl rfl
  have hxs : ExtS (fun k => k = gs ∨ k = gn) W2 V := ExtS.of_ext2 hx (.inl rfl) (.inl rfl)
  have HSV := Lib.hid (show SrvAt V gs gl gst gn gp np cp lag ep sent A1 n1 k1 A2 n2 k2 by rw [hV]; exact ((Blk.set_ HS2.out 4 (.int .i64 ep)).set_ 5 (.slice A1 n1 k1)).set_ 6 (.slice A2 n2 k2))
  have hgn : gs ≠ gn := MapI.neBlk HMP2.out HS2.out
  have hn3 : ∀ (b off : Nat) (x y z : Int), W2.cell? ⟨b, off, none⟩ = some (.int .i64 x) → W2.cell? ⟨b, off + 1, none⟩ = some (.int .i64 y) → W2.cell? ⟨b, off + 2, none⟩ = some (.int .i64 z) → ¬ (b = gs ∨ b = gn) := by
    rintro b off x y z h0 h1 h2 (h | h)
    · exact HS2.out.ne3 h0 h1 h2 h
    · exact (MapI.ne HMP2.out h0) h
  have HMV := Lib.hid (HMm2.out.extS hxs hn3)
  have HM2V := Lib.hid (HM2.out.extS hxs hn3)
  have HN2V := Lib.hid (HN2.out.extS (by have := HL.out; omega) hxs hn3)
  have HMPV := Lib.hid (HMP2.out.extS hxs' hgn.symm)
  have HXV := Lib.hid ((ExtS.of_ext (S := fun k => k = gs ∨ k = gn) (ext_call HE.out HE2.out)).trans hxs)
  have HBV := Lib.hid (show Blk V w.heap.size 30 #[.int .i64 ep, .slice Am ns.length cm, .slice Ao os.length co] from ((HB.out.ext HE2.out)).ext2 hx hgw hgw)
  have hsome := HN.out.some_
  have hfew := HN.out.few
  clear hV hx hxs hxs' hn3 b0 b1 b2 q4 q5 q6 f4 f5 f6
  go_loopw [6, 32] (fun _ i W => ∃ k : Nat, k ≤ ns.length ∧ i = .int .i64 k ∧ MapI W gn (knownI kv (ns.take k)) ∧ ExtS (fun j => j = gn) V W) (fun _ i _ => ns.length - (intOf i).toNat)
  case atStart => exact ⟨0, Nat.zero_le _, rfl, HMPV.out, ExtS.of_ext (ext_refl V)⟩
  case round =>
    obtain ⟨k, hk, rfl, hM, hX⟩ := hrel
    have HMk := Lib.hid hM
    have HXk := Lib.hid hX
    clear hM hX
    have hSr := HSV.out.extS HXk.out hgn
    have s7 := Blk.cell hSr 7
    have sl := Blk.lt hSr
    clear hSr
    by_cases hlt : k < ns.length
    · obtain ⟨n, hn⟩ : ∃ n, ns[k]? = some n := ⟨_, List.getElem?_eq_getElem hlt⟩
      have hMw := HMV.out.extS HXk.out (fun b off x y z h0 _ _ => MapI.ne HMPV.out h0)
      obtain ⟨b, off, c', hA, _, c0, c1, c2⟩ := hMw.at_ hn
      injection hA with hA hn' hc'
      subst hA; subst hc'
      clear hn' hMw
      have e2 : IntKind.i64.wrap ((k : Int) + 1) = (k : Int) + 1 := by rw [IntWalk.i64_in _ (by omega)]
      have d1 : decide ((k : Int) < (ns.length : Int)) = true := by simp; omega
      have q0 : (0 : Int) ≤ (k : Int) := by omega
      have q1 : (k : Int) < (ns.length : Int) := by omega
      have HNX := Lib.hid (knownI_succ kv ns k n hn)
      obtain ⟨o, hup, hMu⟩ := update_I (P := Tryz.prog) (w := (wr.alloc (.cells #[.int .i64 n, .int .i64 0, .int .i64 1] 83)).drew) Tryz.underlying99 Tryz.underlying3 (MapI.drew (HMk.out.ext (ext_new wr _))) (n : Int) (.bool true)
      have HMu := Lib.hid hMu
      clear hMu hn
      go_upto_region 9 with (fail)
      go_region
      go_wp2
      go_roundw
      case rel =>
        refine ⟨k + 1, by omega, by go_num, ?_, ?_⟩
        · rw [HNX.out]; exact HMu.out
        · exact HXk.out.trans (ExtS.of_ext2 (a := gn) (b := gn) ((Ext2.of_ext (ext_new wr _).drew).put o) rfl rfl)
      case measure => simp [intOf]; omega
    · obtain rfl : k = ns.length := by omega
      have d1 : decide ((ns.length : Int) < (ns.length : Int)) = false := by simp
      go_wp2
      go_ret
      refine ⟨rfl, ⟨A1, n1, k1, A2, n2, k2, HSV.out.extS HXk.out hgn, HM2V.out.extS HXk.out (fun b off x y z h0 _ _ => MapI.ne HMPV.out h0), HN2V.out.extS (by have := HL.out; omega) HXk.out (fun b off x y z h0 _ _ => MapI.ne HMPV.out h0)⟩, ?_, ?_⟩
      · have := HMk.out; rwa [List.take_length] at this
      · exact HXV.out.trans (HXk.out.mono (fun j e => .inr e))

end Go.Proofs.YtbgfmbmcabekeaaGreatDoor
