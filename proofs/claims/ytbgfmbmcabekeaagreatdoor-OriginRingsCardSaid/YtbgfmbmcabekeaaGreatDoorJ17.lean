/-
  Part 17 of 18: the contracts that the proof of the last part uses; each stands under its own head.
-/
import Derived.Test.YtbgfmbmcabekeaaGreatDoorJ11
import Derived.Test.YtbgfmbmcabekeaaGreatDoorJ7
import Derived.Test.YtbgfmbmcabekeaaGreatDoorJ16
set_option linter.unusedSimpArgs false
set_option linter.unusedVariables false

/-
  package cachetierlaw27: ringOf.
-/
namespace Go.Proofs.YtbgfmbmcabekeaaGreatDoor
open Go.RowKit Go.Shelf

theorem pickF_lt (c n : Int) (hn : 0 < n) : 0 ≤ pickF c n ∧ pickF c n < n := by
  unfold pickF
  split
  · exact ⟨Int.emod_nonneg _ (by omega), Int.emod_lt_of_pos _ hn⟩
  · exact ⟨Int.emod_nonneg _ (by omega), Int.emod_lt_of_pos _ hn⟩
theorem tdiv_in (c n : Int) (hn : 0 < n) (hc : -9223372036854775808 ≤ c) (hc2 : c ≤ 9223372036854775807) : -9223372036854775808 ≤ c.tdiv n ∧ c.tdiv n ≤ 9223372036854775807 := by
  rcases Int.le_total 0 c with h | h
  · rw [Int.tdiv_eq_ediv_of_nonneg h]
    have h1 := Int.ediv_nonneg h (Int.le_of_lt hn)
    have h2 := Int.ediv_le_self n h
    omega
  · have h3 : c.tdiv n = -((-c) / n) := by rw [← Int.tdiv_eq_ediv_of_nonneg (by omega), Int.neg_tdiv, Int.neg_neg]
    have h1 := Int.ediv_nonneg (show 0 ≤ -c by omega) (Int.le_of_lt hn)
    have h2 := Int.ediv_le_self n (show 0 ≤ -c by omega)
    omega

theorem nums3 (W : World) (a b d k : Nat) (h1 : 1 ≤ k) (h3 : k ≤ 3) : NumsAt (W.alloc (.cells #[.int .i64 (a : Int), .int .i64 (b : Int), .int .i64 (d : Int)] 3)) (.slice (some ⟨W.heap.size, 0, none⟩) k 3) ([a, b, d].take k) := by
  have hb := Blk.new W 3 #[.int .i64 (a : Int), .int .i64 (b : Int), .int .i64 (d : Int)]
  have hl : ([a, b, d].take k).length = k := by simp; omega
  refine ⟨some ⟨W.heap.size, 0, none⟩, 3, by rw [hl], by rw [hl]; exact h3, fun _ => ⟨W.heap.size, 0, rfl, fun j n hj => ?_⟩⟩
  have hj3 : [a, b, d][j]? = some n := by
    rw [List.getElem?_take] at hj
    split at hj
    · exact hj
    · cases hj
  rw [Nat.zero_add]
  match j, hj3 with
  | 0, hj => simp at hj; subst hj; exact hb.cell 0
  | 1, hj => simp at hj; subst hj; exact hb.cell 1
  | 2, hj => simp at hj; subst hj; exact hb.cell 2
  | (q + 3), hj => simp at hj
theorem nodes3 (a b d k : Nat) (h1 : 1 ≤ k) (h3 : k ≤ 3) (hab : a < b) (hbd : b < d) (hd : d < 24) : NodesOK ([a, b, d].take k) := by
  have hl : ([a, b, d].take k).length = k := by simp; omega
  refine ⟨by omega, by omega, fun n hn => ?_, fun j x y hx hy => ?_⟩
  · have := List.mem_of_mem_take hn
    simp at this
    omega
  · have g : ∀ (i n : Nat), ([a, b, d].take k)[i]? = some n → [a, b, d][i]? = some n := fun i n h => by
      rw [List.getElem?_take] at h
      split at h
      · exact h
      · cases h
    have hx := g _ _ hx
    have hy := g _ _ hy
    match j, hx, hy with
    | 0, hx, hy => simp at hx hy; omega
    | 1, hx, hy => simp at hx hy; omega
    | 2, hx, hy => simp at hy
    | (q + 3), hx, hy => simp at hx

set_option maxRecDepth 100000 in
set_option maxHeartbeats 2000000 in
theorem ringOf_any (c : Int) (hc : -9223372036854775808 ≤ c) (hc2 : c ≤ 9223372036854775807) (w : World) : Calls Tryz.prog 9 #[.int .i64 c] w fun e w' =>
    ∃ ns ep r, e = .returned r ∧ NodesOK ns ∧ 1 ≤ ep ∧ ep ≤ 9 ∧ RingAt w' ns ep r ∧ Below w.heap.size w w' := by
  obtain ⟨X, hX⟩ : ∃ X, X = w.alloc (.cells #[.int .i64 0, .slice none 0 0, .slice none 0 0] 30) := ⟨_, rfl⟩
  have HX := Lib.hid hX
  have HE := Lib.hid (show Below w.heap.size w X by rw [hX]; exact ext_new _ _)
  have HB := Lib.hid (show Blk X w.heap.size 30 #[.int .i64 0, .slice none 0 0, .slice none 0 0] by rw [hX]; exact Blk.new _ _ _)
  clear hX
  obtain ⟨p0, hp0⟩ : ∃ p, p = pickF c 3 := ⟨_, rfl⟩
  obtain ⟨p1, hp1⟩ : ∃ p, p = pickF (c.tdiv 3) 4 := ⟨_, rfl⟩
  obtain ⟨p2, hp2⟩ : ∃ p, p = pickF (c.tdiv 12) 16 := ⟨_, rfl⟩
  obtain ⟨p3, hp3⟩ : ∃ p, p = pickF c 9 := ⟨_, rfl⟩
  obtain ⟨p4, hp4⟩ : ∃ p, p = pickF (c.tdiv 5) 3 := ⟨_, rfl⟩
  have b0 := pickF_lt c 3 (by omega)
  have b1 := pickF_lt (c.tdiv 3) 4 (by omega)
  have b2 := pickF_lt (c.tdiv 12) 16 (by omega)
  have b3 := pickF_lt c 9 (by omega)
  have b4 := pickF_lt (c.tdiv 5) 3 (by omega)
  have t3 := tdiv_in c 3 (by omega) hc hc2
  have t12 := tdiv_in c 12 (by omega) hc hc2
  have t5 := tdiv_in c 5 (by omega) hc hc2
  have K0 := Lib.hid (fun W => pick_any c 3 (by omega) (by omega) hc hc2 W)
  have K1 := Lib.hid (fun W => pick_any (c.tdiv 3) 4 (by omega) (by omega) t3.1 t3.2 W)
  have K2 := Lib.hid (fun W => pick_any (c.tdiv 12) 16 (by omega) (by omega) t12.1 t12.2 W)
  have K3 := Lib.hid (fun W => pick_any c 9 (by omega) (by omega) hc hc2 W)
  have K4 := Lib.hid (fun W => pick_any (c.tdiv 5) 3 (by omega) (by omega) t5.1 t5.2 W)
  rw [← hp0] at b0 K0
  rw [← hp1] at b1 K1
  rw [← hp2] at b2 K2
  rw [← hp3] at b3 K3
  rw [← hp4] at b4 K4
  have w3 : IntKind.i64.wrap (c.tdiv 3) = c.tdiv 3 := IntWalk.i64_in _ (by omega)
  have w12 : IntKind.i64.wrap (c.tdiv 12) = c.tdiv 12 := IntWalk.i64_in _ (by omega)
  have w5 : IntKind.i64.wrap (c.tdiv 5) = c.tdiv 5 := IntWalk.i64_in _ (by omega)
  have v1 : IntKind.i64.wrap (3 + p1) = 3 + p1 := IntWalk.i64_in _ (by omega)
  have v2 : IntKind.i64.wrap (8 + p2) = 8 + p2 := IntWalk.i64_in _ (by omega)
  have v3 : IntKind.i64.wrap (1 + p3) = 1 + p3 := IntWalk.i64_in _ (by omega)
  have v4 : IntKind.i64.wrap (1 + p4) = 1 + p4 := IntWalk.i64_in _ (by omega)
  clear hp0 hp1 hp2 hp3 hp4 t3 t12 t5
  go_enter Tryz.func9, Tryz.ntmps9
  go_upto_region 1 with (fail)
  rw [← HX.out]
  go_wp2_with (first
    | (go_at_call 19; with_reducible refine (K0.out _).mono ?_; rintro e w' ⟨rfl, hw'⟩; subst w')
    | (go_at_call 19; with_reducible refine (K1.out _).mono ?_; rintro e w' ⟨rfl, hw'⟩; subst w')
    | (go_at_call 19; with_reducible refine (K2.out _).mono ?_; rintro e w' ⟨rfl, hw'⟩; subst w')
    | (go_at_call 19; with_reducible refine (K3.out _).mono ?_; rintro e w' ⟨rfl, hw'⟩; subst w')
    | (go_at_call 19; with_reducible refine (K4.out _).mono ?_; rintro e w' ⟨rfl, hw'⟩; subst w'))
  obtain ⟨a, ha⟩ : ∃ a : Nat, p0 = (a : Int) := ⟨p0.toNat, by omega⟩
  obtain ⟨b, hb⟩ : ∃ b : Nat, 3 + p1 = (b : Int) := ⟨(3 + p1).toNat, by omega⟩
  obtain ⟨d, hd⟩ : ∃ d : Nat, 8 + p2 = (d : Int) := ⟨(8 + p2).toNat, by omega⟩
  obtain ⟨k, hk⟩ : ∃ k : Nat, (1 + p4).toNat = k := ⟨_, rfl⟩
  have hN := nodes3 a b d k (by omega) (by omega) (by omega) (by omega) (by omega)
  have hV := nums3 X a b d k (by omega) (by omega)
  obtain ⟨ns, hns⟩ : ∃ ns : List Nat, [a, b, d].take k = ns := ⟨_, rfl⟩
  rw [hns] at hN hV
  clear hns
  rw [ha, hb, hd, hk]
  refine (members_any _ (1 + p3) _ _ hV hN (by omega) (by omega)).mono ?_
  rintro e W1 ⟨r, rfl, hr, hb1⟩
  have HE1 := Lib.hid (ext_call HE.out (ext_call (ext_new X _) hb1))
  have HB1 := Lib.hid ((HB.out.alloc (.cells #[.int .i64 (a : Int), .int .i64 (b : Int), .int .i64 (d : Int)] 3)).ext hb1)
  have HN := Lib.hid hN
  obtain ⟨vm, vo, os, rfl, hm1, hn1, hl1, ho1, hc1⟩ := hr
  have hx : Ext2 w.heap.size w.heap.size W1 (((W1.setCell ⟨w.heap.size, 0, none⟩ (.int .i64 (1 + p3))).setCell ⟨w.heap.size, 1, none⟩ vm).setCell ⟨w.heap.size, 2, none⟩ vo) := (((Ext2.refl _ _ W1).setA 0 _).setA 1 _).setA 2 _
  have HM2 := Lib.hid (hm1.ext2 hx HB1.out)
  have HO2 := Lib.hid (hn1.ext2 (by omega) hx HB1.out)
  have HR2 := Lib.hid (And.intro hl1 (And.intro ho1 hc1))
  have HE2 := Lib.hid (Ext2.below HE1.out (Nat.le_refl _) (Nat.le_refl _) hx)
  have HB2 := Lib.hid (((HB1.out.set_ 0 (.int .i64 (1 + p3))).set_ 1 vm).set_ 2 vo)
  obtain ⟨Am, cm, rfl, _⟩ := hm1
  obtain ⟨Ao, co, rfl, _⟩ := hn1
  obtain ⟨x0, x1, x2⟩ := bcells3 HB1.out
  have g0 := HB1.out.frozen 0
  have g1 := HB1.out.frozen 1
  have g2 := HB1.out.frozen 2
  have hep : 1 ≤ 1 + p3 ∧ 1 + p3 ≤ 9 := by omega
  clear hx hl1 ho1 hc1 hb1 hN hV K0 K1 K2 K3 K4 w3 w12 w5 v1 v2 v3 v4 ha hb hd hk
  go_wp2
  obtain ⟨y0, y1, y2⟩ := bcells3 (show Blk _ w.heap.size 30 #[.int .i64 (1 + p3), .slice Am _ cm, .slice Ao _ co] from HB2.out)
  exact bodyPost_ret (v := .agg #[.int .i64 (1 + p3), .slice Am _ cm, .slice Ao _ co]) (by simp [results, Tryz.results9, go_sem, y0, y1, y2]) rfl ⟨_, 1 + p3, _, rfl, HN.out, hep.1, hep.2, ⟨_, _, _, rfl, HM2.out, HO2.out, HR2.out⟩, HE2.out⟩

end Go.Proofs.YtbgfmbmcabekeaaGreatDoor

/-
  package slices, origin: Clone, ownRing, Ring with rows that are fresh; Head and Receive of a nil server.
-/
namespace Go.Proofs.YtbgfmbmcabekeaaGreatDoor
open Go.RowKit Go.Shelf

/-- the cells of a list of numbers -/
abbrev nc (os : List Nat) : List Value := os.map fun n : Nat => Value.int .i64 (n : Int)
theorem own_base {W : World} {b b' n sz : Nat} {e : TypeId} {v : Value} {xs : List Value} (h : W.ownsRow b e sz v n xs) (hb : b' ≤ b) : W.ownsRow b' e sz v n xs := by
  refine ⟨h.1, ?_⟩
  rcases h.2 with h1 | ⟨g, cap, cur, h1, h2, h3⟩
  · exact .inl h1
  · exact .inr ⟨g, cap, cur, h1, Nat.le_trans hb h2, h3⟩
theorem own_ext2 {W W' : World} {g b n sz : Nat} {e t : TypeId} {v : Value} {xs : List Value} {cs : Array Value} (h : W.ownsRow b e sz v n xs) (k : Ext2 g g W W') (hg : Blk W g t cs) (ht : t ≠ e) : W'.ownsRow b e sz v n xs :=
  own_extS h (S := fun j => j = g) (ExtS.of_ext2 k rfl rfl) (fun g' cs' h' e' => by subst e'; exact blkNe hg h' ht rfl)
/-- where an owned row lies -/
theorem own_blk {W : World} {b n sz : Nat} {e : TypeId} {v : Value} {xs : List Value} (h : W.ownsRow b e sz v n xs) (h0 : 0 < n) : ∃ g cap cur, v = .slice (some ⟨g, 0, none⟩) n cap ∧ b ≤ g ∧ Blk W g e cur := by
  rcases h.2 with ⟨_, h1⟩ | ⟨g, cap, cur, h1, h2, h3, _⟩
  · omega
  · exact ⟨g, cap, cur, h1, h2, h3⟩

set_option maxRecDepth 100000 in
set_option maxHeartbeats 1000000 in
theorem cloneMemsO (ns : List Nat) (v : Value) (w : World) (hv : MemsAt w v ns) (h0 : 0 < ns.length) (h1 : ns.length ≤ 24) : Calls Tryz.prog 70 #[v] w fun e w' =>
    ∃ A c, e = .returned (.slice A ns.length c) ∧ w'.ownsRow w.heap.size 83 3 (.slice A ns.length c) ns.length (mc ns) ∧ Below w.heap.size w w' := by
  obtain ⟨n0, hn0⟩ : ∃ n0, ns[0]? = some n0 := ⟨_, List.getElem?_eq_getElem h0⟩
  obtain ⟨b, off, c, hA, hc, _⟩ := hv.at_ hn0
  subst hA
  have HV := Lib.hid hv
  obtain ⟨is, his, hzs0, hzs1, hzs2⟩ := info_parts mem_info
  have hsn := fun W : World => Lib.run_eql_slice_nil (P := Tryz.prog) W 27 83 (some ⟨b, off, none⟩) ns.length c 0 0 Tryz.underlying27
  have HOE := Lib.hid (show (w.alloc (.cells #[] 83)).ownsRow w.heap.size 83 3 (.slice (some ⟨w.heap.size, 0, none⟩) 0 0) 0 [] from
    ⟨rfl, .inr ⟨w.heap.size, 0, #[], rfl, Nat.le_refl _, World.alloc_heap_new w _, Nat.le_refl _, Nat.zero_le _, rfl, rfl⟩⟩)
  have HNW := Lib.hid (show ∀ (i : Nat) (u : Value), (mc ns)[i]? = some u → (w.alloc (.cells #[] 83)).cell? ((⟨b, off, none⟩ : Addr).add i) = some u from fun i u hu => by
    rw [Addr.add_mid]
    exact (HV.out.ext (ext_new w _)).cells i u hu)
  have hml := mc_length ns
  clear hv hn0
  go_enter Tryz.func70, Tryz.ntmps70
  go_wp2_with (at_builtin; refine wpList_append_own _ rfl (.tmp 5) (.tmp 6) 27 rfl w.heap.size 83 is (.agg #[.int .i64 0, .int .i64 0, .int .i64 0]) 3 24 Tryz.underlying27 his hzs0 hzs1 hzs2 rfl (by decide) (.slice (some ⟨w.heap.size, 0, none⟩) 0 0) 0 [] rfl HOE.out ⟨b, off, none⟩ ns.length c (mc ns) rfl hml HNW.out (mc_one ns) ?_ ?_ ?_ ?_; (unfold maxLen; omega); omega; (rw [World.size_alloc]; omega); intro v6 W6 ho6 hg6 _; obtain ⟨A7, c7, h7⟩ := own_shape ho6; subst h7; have HO6 := Lib.hid ho6; have HG6 := Lib.hid hg6; clear hg6 ho6)
  go_ret
  have ho := HO6.out
  rw [Nat.zero_add, List.nil_append] at ho
  have HBW : Below w.heap.size w W6 := (ext_new w (.cells #[] 83)).grown HG6.out (ext_new w (.cells #[] 83)).size (fun k e => by have e2 : w.heap.size = k := Option.some.inj e; omega)
  exact ⟨A7, c7, by simp, ho, HBW⟩

set_option maxRecDepth 100000 in
set_option maxHeartbeats 1000000 in
theorem cloneNumsO (os : List Nat) (v : Value) (w : World) (hv : NumsAt w v os) (h0 : 0 < os.length) (h1 : os.length ≤ 1000) : Calls Tryz.prog 71 #[v] w fun e w' =>
    ∃ A c, e = .returned (.slice A os.length c) ∧ w'.ownsRow w.heap.size 3 1 (.slice A os.length c) os.length (nc os) ∧ Below w.heap.size w w' := by
  obtain ⟨n0, hn0⟩ : ∃ n0, os[0]? = some n0 := ⟨_, List.getElem?_eq_getElem h0⟩
  obtain ⟨b, off, c, hA, hc, _⟩ := hv.at_ hn0
  subst hA
  have HV := Lib.hid hv
  obtain ⟨is, his, hzs0, hzs1, hzs2⟩ := info_parts int_info
  have hsn := fun W : World => Lib.run_eql_slice_nil (P := Tryz.prog) W 28 3 (some ⟨b, off, none⟩) os.length c 0 0 Tryz.underlying28
  have HOE := Lib.hid (show (w.alloc (.cells #[] 3)).ownsRow w.heap.size 3 1 (.slice (some ⟨w.heap.size, 0, none⟩) 0 0) 0 [] from
    ⟨rfl, .inr ⟨w.heap.size, 0, #[], rfl, Nat.le_refl _, World.alloc_heap_new w _, Nat.le_refl _, Nat.zero_le _, rfl, rfl⟩⟩)
  have HNW := Lib.hid (show ∀ (i : Nat) (u : Value), (os.map fun n : Nat => Value.int .i64 (n : Int))[i]? = some u → (w.alloc (.cells #[] 3)).cell? ((⟨b, off, none⟩ : Addr).add i) = some u from fun i u hu => by
    rw [Addr.add_mid]
    exact (HV.out.ext (ext_new w _)).cells i u hu)
  have hone : ∀ u ∈ (os.map fun n : Nat => Value.int .i64 (n : Int)), u.oneCell' = true := fun u hu => by
    obtain ⟨n, _, rfl⟩ := List.mem_map.1 hu
    rfl
  have HON := Lib.hid hone
  have hml : (os.map fun n : Nat => Value.int .i64 (n : Int)).length = os.length * 1 := by simp
  have HML := Lib.hid hml
  clear hv hn0 hone hml
  go_enter Tryz.func71, Tryz.ntmps71
  go_wp2_with (at_builtin; refine wpList_append_own _ rfl (.tmp 5) (.tmp 6) 28 rfl w.heap.size 3 is (.int .i64 0) 1 8 Tryz.underlying28 his hzs0 hzs1 hzs2 rfl (by decide) (.slice (some ⟨w.heap.size, 0, none⟩) 0 0) 0 [] rfl HOE.out ⟨b, off, none⟩ os.length c (os.map fun n : Nat => Value.int .i64 (n : Int)) rfl HML.out HNW.out HON.out ?_ ?_ ?_ ?_; (unfold maxLen; omega); omega; (rw [World.size_alloc]; omega); intro v6 W6 ho6 hg6 _; obtain ⟨A7, c7, h7⟩ := own_shape ho6; subst h7; have HO6 := Lib.hid ho6; have HG6 := Lib.hid hg6; clear hg6 ho6)
  go_ret
  have ho := HO6.out
  rw [Nat.zero_add, List.nil_append] at ho
  have HBW : Below w.heap.size w W6 := (ext_new w (.cells #[] 3)).grown HG6.out (ext_new w (.cells #[] 3)).size (fun k e => by have e2 : w.heap.size = k := Option.some.inj e; omega)
  exact ⟨A7, c7, by simp, ho, HBW⟩

set_option maxRecDepth 100000 in
set_option maxHeartbeats 2000000 in
theorem ownRingO (ns os : List Nat) (ep : Int) (vm vo : Value) (w : World) (hm : MemsAt w vm ns) (hn : NodesOK ns) (ho : NumsAt w vo os) (hl : os.length = 64) :
    Calls Tryz.prog 38 #[.agg #[.int .i64 ep, vm, vo]] w fun e w' => ∃ A c B d, e = .returned (.agg #[.int .i64 ep, .slice A ns.length c, .slice B os.length d]) ∧ w'.ownsRow w.heap.size 83 3 (.slice A ns.length c) ns.length (mc ns) ∧ w'.ownsRow w.heap.size 3 1 (.slice B os.length d) os.length (nc os) ∧ Below w.heap.size w w' := by
  obtain ⟨X, hX⟩ : ∃ X, X = (w.alloc (.cells #[.int .i64 ep, vm, vo] 30)).alloc (.cells #[.int .i64 0, .slice none 0 0, .slice none 0 0] 30) := ⟨_, rfl⟩
  have HX := Lib.hid hX
  have HEX := Lib.hid (show Below w.heap.size w X by rw [hX]; exact ext_alloc (ext_new _ _) _)
  have HB := Lib.hid (show Blk X w.heap.size 30 #[.int .i64 ep, vm, vo] by rw [hX]; exact (Blk.new _ _ _).alloc _)
  have HR := Lib.hid (show Blk X (w.heap.size + 1) 30 #[.int .i64 0, .slice none 0 0, .slice none 0 0] by rw [hX]; exact Blk.new' _ _ _ (by simp))
  have HC1 := Lib.hid (fun W (k : Below X.heap.size X W) => (cloneMemsO ns vm W ((hm.ext HEX.out).ext k) hn.some_ hn.few).mono (fun e w' ⟨A, c, h1, h2, h3⟩ => (⟨A, c, h1, own_base h2 (Nat.le_trans HEX.out.size k.size), h3⟩ : ∃ A c, e = Ending.returned (.slice A ns.length c) ∧ w'.ownsRow w.heap.size 83 3 (.slice A ns.length c) ns.length (mc ns) ∧ Below W.heap.size W w')))
  have HC2 := Lib.hid (fun W (k : Below X.heap.size X W) => (cloneNumsO os vo W ((ho.ext HEX.out).ext k) (by omega) (by omega)).mono (fun e w' ⟨A, c, h1, h2, h3⟩ => (⟨A, c, h1, own_base h2 (Nat.le_trans HEX.out.size k.size), h3⟩ : ∃ A c, e = Ending.returned (.slice A os.length c) ∧ w'.ownsRow w.heap.size 3 1 (.slice A os.length c) os.length (nc os) ∧ Below W.heap.size W w')))
  have HL := Lib.hid hl
  obtain ⟨Am, cm, rfl, _⟩ := id hm
  obtain ⟨Ao, co, rfl, _⟩ := id ho
  clear hX hm ho hn hl
  obtain ⟨c0, c1, c2⟩ := bcells3 HB.out
  go_enter Tryz.func38, Tryz.ntmps38
  go_upto_region 1 with (fail)
  rw [← HX.out]
  refine wp_region_noPanic ?_
  go_region_law (first
    | (go_simp; go_at_call 70; (refine (HC1.out _ (by first | exact ext_refl X | exact (ext_refl X).drew)).mono ?_); rintro e W1 ⟨A1, k1, rfl, hm1, hb1⟩; have hE1 : Below X.heap.size X W1 := ext_call (by first | exact ext_refl X | exact (ext_refl X).drew) hb1; obtain ⟨d0, d1, d2⟩ := bcells3 (HB.out.ext hE1))
    | (go_simp; go_at_call 71; (refine (HC2.out _ hE1).mono ?_); rintro e W2 ⟨A2, k2, rfl, hm2, hb2⟩; have hE2 : Below X.heap.size X W2 := ext_call hE1 hb2; obtain ⟨e0, e1, e2⟩ := bcells3 (HB.out.ext hE2); obtain ⟨x0, x1, x2⟩ := bcells3 (HR.out.ext hE2); have g0 := (HR.out.ext hE2).frozen 0; have g1 := (HR.out.ext hE2).frozen 1; have g2 := (HR.out.ext hE2).frozen 2))
  all_goals
    refine NoPanic.normal ?_
    have hr2 := HR.out.ext hE2
    have hk2 : Ext2 (w.heap.size + 1) (w.heap.size + 1) W2 (((W2.setCell ⟨w.heap.size + 1, 0, none⟩ (.int .i64 ep)).setCell ⟨w.heap.size + 1, 1, none⟩ (.slice A1 ns.length k1)).setCell ⟨w.heap.size + 1, 2, none⟩ (.slice A2 os.length k2)) :=
      (((Ext2.of_ext (ext_refl W2)).setA 0 _).setA 1 _).setA 2 _
    have HM8 := Lib.hid (own_ext2 (own_below hm1 hb2) hk2 hr2 (by decide))
    have HN8 := Lib.hid (own_ext2 hm2 hk2 hr2 (by decide))
    have HE8 := Lib.hid (Ext2.below (ext_call HEX.out hE2) (by omega) (by omega) hk2)
    have HB8 := Lib.hid (((hr2.set_ 0 (.int .i64 ep)).set_ 1 (.slice A1 ns.length k1)).set_ 2 (.slice A2 os.length k2))
    clear hk2 hr2
    go_wp2
    generalize ((W2.setCell ⟨w.heap.size + 1, 0, none⟩ (.int .i64 ep)).setCell ⟨w.heap.size + 1, 1, none⟩ (.slice A1 ns.length k1)).setCell ⟨w.heap.size + 1, 2, none⟩ (.slice A2 os.length k2) = W8 at *
    obtain ⟨y0, y1, y2⟩ := bcells3 (show Blk W8 (w.heap.size + 1) 30 #[.int .i64 ep, .slice A1 ns.length k1, .slice A2 os.length k2] from HB8.out)
    exact bodyPost_ret (v := .agg #[.int .i64 ep, .slice A1 ns.length k1, .slice A2 os.length k2]) (by simp [results, Tryz.results38, go_sem, y0, y1, y2]) rfl ⟨_, _, _, _, rfl, HM8.out, HN8.out, HE8.out⟩

set_option maxRecDepth 100000 in
set_option maxHeartbeats 1000000 in
theorem srvRingO (gs gl gst gn gp np cp nm cm no co : Nat) (lag ep sent : Int) (Am Ao : Option Addr) (ns os : List Nat) (w : World) (hs : SrvAt w gs gl gst gn gp np cp lag ep sent Am nm cm Ao no co) (hm : MemsAt w (.slice Am nm cm) ns) (hn : NodesOK ns) (ho : NumsAt w (.slice Ao no co) os) (hl : os.length = 64) :
    Calls Tryz.prog 28 #[.pointer (some ⟨gs, 0, none⟩)] w fun e w' => ∃ A c B d, e = .returned (.agg #[.int .i64 ep, .slice A ns.length c, .slice B os.length d]) ∧ w'.ownsRow w.heap.size 83 3 (.slice A ns.length c) ns.length (mc ns) ∧ w'.ownsRow w.heap.size 3 1 (.slice B os.length d) os.length (nc os) ∧ Below w.heap.size w w' := by
  have h4 : w.cell? ⟨gs, 4, none⟩ = some (.int .i64 ep) := Blk.cell hs 4
  have h5 : w.cell? ⟨gs, 5, none⟩ = some (.slice Am nm cm) := Blk.cell hs 5
  have h6 : w.cell? ⟨gs, 6, none⟩ = some (.slice Ao no co) := Blk.cell hs 6
  have sl := Blk.lt hs
  have HO := Lib.hid (fun (W : World) (k : Below w.heap.size w W) => ownRingO ns os ep _ _ W (hm.ext k) hn (ho.ext k) hl)
  clear hs hm hn ho hl
  go_enter Tryz.func28, Tryz.ntmps28
  go_wp2_with fail
  refine (HO.out _ (ext_new w _)).mono ?_
  rintro e W1 ⟨A1, k1, A2, k2, rfl, hm1, hn1, hb1⟩
  have hr := (Blk.new w 30 #[.int .i64 0, .slice none 0 0, .slice none 0 0]).ext hb1
  have hk : Ext2 w.heap.size w.heap.size W1 (((W1.setCell ⟨w.heap.size, 0, none⟩ (.int .i64 ep)).setCell ⟨w.heap.size, 1, none⟩ (.slice A1 ns.length k1)).setCell ⟨w.heap.size, 2, none⟩ (.slice A2 os.length k2)) := (((Ext2.refl _ _ W1).setA 0 _).setA 1 _).setA 2 _
  have HM := Lib.hid (own_ext2 (own_base (b' := w.heap.size) hm1 (by simp)) hk hr (by decide))
  have HN := Lib.hid (own_ext2 (own_base (b' := w.heap.size) hn1 (by simp)) hk hr (by decide))
  have HE := Lib.hid (Ext2.below (ext_call (ext_new w _) hb1) (Nat.le_refl _) (Nat.le_refl _) hk)
  have HB := Lib.hid (((hr.set_ 0 (.int .i64 ep)).set_ 1 (.slice A1 ns.length k1)).set_ 2 (.slice A2 os.length k2))
  obtain ⟨x0, x1, x2⟩ := bcells3 hr
  have g0 := hr.frozen 0
  have g1 := hr.frozen 1
  have g2 := hr.frozen 2
  clear hm1 hn1 hb1 hr hk
  go_wp2
  obtain ⟨y0, y1, y2⟩ := bcells3 (show Blk _ w.heap.size 30 #[.int .i64 ep, .slice A1 ns.length k1, .slice A2 os.length k2] from HB.out)
  exact bodyPost_ret (v := .agg #[.int .i64 ep, .slice A1 ns.length k1, .slice A2 os.length k2]) (by simp [results, Tryz.results28, go_sem, y0, y1, y2]) rfl ⟨_, _, _, _, rfl, HM.out, HN.out, HE.out⟩

set_option maxRecDepth 100000 in
set_option maxHeartbeats 1000000 in
theorem nilLogHead (w : World) : Calls Tryz.prog 61 #[.pointer none, .int .i64 0] w fun e w' => e = .returned (.tuple #[.agg #[.int .i64 0, .string ⟨#[]⟩, .string ⟨#[]⟩], .bool false]) ∧ Below w.heap.size w w' := by
  have hE := ext_new w (.cells #[.int .i64 0, .string ⟨#[]⟩, .string ⟨#[]⟩] 86)
  have hb := Blk.new w 86 #[.int .i64 0, .string ⟨#[]⟩, .string ⟨#[]⟩]
  obtain ⟨X, hX⟩ : ∃ X, X = w.alloc (.cells #[.int .i64 0, .string ⟨#[]⟩, .string ⟨#[]⟩] 86) := ⟨_, rfl⟩
  rw [← hX] at hE hb
  obtain ⟨x0, x1, x2⟩ := bcells3 hb
  have f0 := hb.frozen 0
  have f1 := hb.frozen 1
  have f2 := hb.frozen 2
  have HX := Lib.hid hX
  have HE := Lib.hid hE
  have HB := Lib.hid (((hb.set_ 0 (.int .i64 0)).set_ 1 (.string ⟨#[]⟩)).set_ 2 (.string ⟨#[]⟩))
  clear hX hE hb
  go_enter Tryz.func61, Tryz.ntmps61
  go_upto_region 1 with (fail)
  rw [← HX.out]
  go_wp2
  obtain ⟨y0, y1, y2⟩ := bcells3 (show Blk _ w.heap.size 86 #[.int .i64 0, .string ⟨#[]⟩, .string ⟨#[]⟩] from HB.out)
  exact bodyPost_ret (v := .tuple #[.agg #[.int .i64 0, .string ⟨#[]⟩, .string ⟨#[]⟩], .bool false]) (by simp [results, Tryz.results61, go_sem, y0, y1, y2]) rfl ⟨rfl, ext_set (ext_set (ext_set HE.out (Nat.le_refl _) _) (Nat.le_refl _) _) (Nat.le_refl _) _⟩

set_option maxRecDepth 100000 in
set_option maxHeartbeats 1000000 in
theorem nilHead (w : World) : Calls Tryz.prog 30 #[.pointer none, .int .i64 0] w fun e w' => e = .returned (.tuple #[.agg #[.int .i64 0, .string ⟨#[]⟩, .string ⟨#[]⟩], .bool false]) ∧ Below w.heap.size w w' := by
  obtain ⟨X, hX⟩ : ∃ X, X = w.alloc (.cells #[.int .i64 0, .string ⟨#[]⟩, .string ⟨#[]⟩] 86) := ⟨_, rfl⟩
  have HX := Lib.hid hX
  have HE := Lib.hid (show Below w.heap.size w X by rw [hX]; exact ext_new _ _)
  have HB := Lib.hid (show Blk X w.heap.size 86 #[.int .i64 0, .string ⟨#[]⟩, .string ⟨#[]⟩] by rw [hX]; exact Blk.new _ _ _)
  clear hX
  go_enter Tryz.func30, Tryz.ntmps30
  go_upto_region 1 with (fail)
  rw [← HX.out]
  go_wp2_with (first
    | (go_at_call 43; refine (nilLog _).mono ?_; rintro e w' ⟨rfl, hw'⟩; subst w')
    | (go_at_call 61; refine (nilLogHead _).mono ?_; rintro e W1 ⟨rfl, hb1⟩; have hbx := HB.out.ext hb1; obtain ⟨x0, x1, x2⟩ := bcells3 hbx; have f0 := hbx.frozen 0; have f1 := hbx.frozen 1; have f2 := hbx.frozen 2; have HB1 := Lib.hid (((hbx.set_ 0 (.int .i64 0)).set_ 1 (.string ⟨#[]⟩)).set_ 2 (.string ⟨#[]⟩)); have HE1 := Lib.hid (ext_call HE.out hb1); clear hb1 hbx))
  obtain ⟨y0, y1, y2⟩ := bcells3 (show Blk _ w.heap.size 86 #[.int .i64 0, .string ⟨#[]⟩, .string ⟨#[]⟩] from HB1.out)
  exact bodyPost_ret (v := .tuple #[.agg #[.int .i64 0, .string ⟨#[]⟩, .string ⟨#[]⟩], .bool false]) (by simp [results, Tryz.results30, go_sem, y0, y1, y2]) rfl ⟨rfl, ext_set (ext_set (ext_set HE1.out (Nat.le_refl _) _) (Nat.le_refl _) _) (Nat.le_refl _) _⟩

set_option maxRecDepth 100000 in
set_option maxHeartbeats 1000000 in
theorem nilRecv (w : World) (va : Array Value) : Calls Tryz.prog 20 #[.pointer none, .agg va] w fun e w' => e = .returned (.slice none 0 0) ∧ Below w.heap.size w w' := by
  go_enter Tryz.func20, Tryz.ntmps20
  go_wp2
  go_ret
  exact ⟨rfl, ext_new _ _⟩

end Go.Proofs.YtbgfmbmcabekeaaGreatDoor
