/-
  Part 12 of 17: the contracts that the proof of the last part uses; each stands under its own head.
-/
import Derived.Test.YtimoapjhepmehaaGreatDoorJ9
import Derived.LoopN
import Derived.Test.YtimoapjhepmehaaGreatDoorJ11
import Derived.Laws.StructEq
set_option linter.unusedSimpArgs false
set_option linter.unusedVariables false

/-
  slices.Backward over sides, as an iterator.
-/
namespace Go.Proofs.YtimoapjhepmehaaGreatDoor
open Go.RowKit Go.Shelf
attribute [local go_sem] Oper.semAt_some

def sideV (x : ByteArray × Bool) : Value := .agg #[.string x.1, .bool x.2]
def SideAt (w : World) (b off : Nat) (x : ByteArray × Bool) : Prop := w.cell? ⟨b, off, none⟩ = some (.string x.1) ∧ w.cell? ⟨b, off + 1, none⟩ = some (.bool x.2)

set_option maxRecDepth 100000 in
set_option maxHeartbeats 1000000 in
theorem backS_in (n : Nat) (hn : 1 ≤ n) (l Bs n₀ gh : Nat) (A : Option Addr) (c : Nat) (xs : List (ByteArray × Bool)) (hN : xs.length ≤ 1000000) (hs0 : Bs < n₀) (hsg : Bs ≠ gh)
    (J Jx : List { k : Nat // k < xs.length } → World → Prop)
    (hY : ∀ pre x W, J pre W → pre.length < xs.length → YieldAt Fence.wide (n - 1) Tryz.prog l #[.int .i64 ((x : { k : Nat // k < xs.length }).1 : Int), sideV (xs[x.1]'x.2)] W fun e W' =>
      (e = .returned (.bool true) ∧ J (pre ++ [x]) W' ∧ KeptB n₀ gh W W') ∨ (e = .returned (.bool false) ∧ Jx (pre ++ [x]) W'))
    (W : World) (hBs : W.cell? ⟨Bs, 0, none⟩ = some (.slice A xs.length c)) (hc : 0 < xs.length → ∃ b off, A = some ⟨b, off, none⟩ ∧ b < n₀ ∧ b ≠ gh ∧ ∀ j x, xs[j]? = some x → SideAt W b (off + j * 2) x) (h0 : J [] W) :
    CallsIn Fence.wide n Tryz.prog 169 #[.func (.yield l) #[] #[], .pointer (some ⟨Bs, 0, none⟩)] W (BackPost J Jx) := by
  have HC := Lib.hid hc
  clear hc
  refine callsIn_of_wp Tryz.func169 rfl trivial ?_ rfl
  simp only [Tryz.ntmps169, List.size_toArray, List.length_cons, List.length_nil, Nat.reduceAdd, Nat.reduceSub, Array.replicate_succ, Array.replicate_zero, List.push_toArray, List.append_toArray, List.nil_append, List.cons_append]
  gi_wp2
  gi_loopw [3] (fun i wr => ∃ k : Nat, k ≤ xs.length ∧ i = .int .i64 ((xs.length : Int) - 1 - (k : Int)) ∧ J (downs xs.length k) wr ∧ KeptB n₀ gh W wr)
    (fun i _ => (intOf i + 1).toNat)
  case atStart => exact ⟨0, Nat.zero_le _, by simp, h0, KeptB.refl _ _ _⟩
  case round =>
    obtain ⟨k, hk, rfl, hJs, hnx⟩ := hrel
    have cs := (hnx.cell (p := ⟨Bs, 0, none⟩) hs0 hsg).trans hBs
    by_cases hlt : k < xs.length
    · obtain ⟨b, off, rfl, hb0, hbg, hcell⟩ := HC.out (by omega)
      obtain ⟨q, hq⟩ : ∃ q, q = xs.length - 1 - k := ⟨_, rfl⟩
      have hqi : (xs.length : Int) - 1 - (k : Int) = (q : Int) := by omega
      have hql : q < xs.length := by omega
      have hcx := hcell q _ (List.getElem?_eq_getElem hql)
      have cx := (hnx.cell (p := ⟨b, off + q * 2, none⟩) hb0 hbg).trans hcx.1
      have cx' := (hnx.cell (p := ⟨b, off + q * 2 + 1, none⟩) hb0 hbg).trans hcx.2
      obtain ⟨fn, tmps, assign, body, hy, hR⟩ := hY _ ⟨q, hql⟩ wr hJs (by rw [downs_length _ k hk]; exact hlt)
      dsimp only at hy
      have HQ := Lib.hid hq
      rw [hqi]
      have HQI := Lib.hid hqi
      obtain ⟨x, hx⟩ : ∃ x, x = xs[q] := ⟨_, rfl⟩
      rw [← hx] at cx cx' hy
      unfold sideV at hy
      clear hcx
      have HX := Lib.hid hx
      clear hq hqi hx
      have b0 : (0 : Int) ≤ (q : Int) := by omega
      have b1 : (q : Int) < (xs.length : Int) := by omega
      gi_wp2
      refine hR.mono ?_
      rintro e W3 (⟨rfl, hJ3, hk3⟩ | ⟨rfl, hJx3⟩)
      · gi_wp2
        go_roundw
        case rel =>
          refine ⟨k + 1, by omega, ?_, ?_, hnx.trans hk3⟩
          · have := HQI.out
            have e : (q : Int) - 1 = (xs.length : Int) - 1 - ((k + 1 : Nat) : Int) := by omega
            rw [← e]
          · rw [downs_succ _ k hlt]
            have e : (⟨q, hql⟩ : { k : Nat // k < xs.length }) = ⟨xs.length - 1 - k, by omega⟩ := Subtype.ext HQ.out
            rw [← e]
            exact hJ3
        case measure => simp [intOf]
      · gi_wp2
        refine bodyPost_ret (results_none rfl _ _ _) rfl ?_
        exact ⟨⟨_, rfl⟩, .inr ⟨_, hJx3⟩⟩
    · have HK := Lib.hid (show k = xs.length by omega)
      have hneg : ¬ (0 : Int) ≤ (xs.length : Int) - 1 - (k : Int) := by omega
      gi_wp2
      go_end0
      rw [HK.out] at hJs
      exact ⟨⟨_, rfl⟩, .inl hJs⟩

/-- slices.Backward of strings: all of them, from the last to the first, for every body that keeps the blocks below n₀ but gh -/
theorem backS_stops (n : Nat) (hn : 1 ≤ n) (Bs n₀ gh : Nat) (A : Option Addr) (c : Nat) (xs : List (ByteArray × Bool)) (hN : xs.length ≤ 1000000) (hs0 : Bs < n₀) (hsg : Bs ≠ gh) (w : World) (hw : n₀ ≤ w.heap.size)
    (hBs : w.cell? ⟨Bs, 0, none⟩ = some (.slice A xs.length c)) (hc : 0 < xs.length → ∃ b off, A = some ⟨b, off, none⟩ ∧ b < n₀ ∧ b ≠ gh ∧ ∀ j x, xs[j]? = some x → SideAt w b (off + j * 2) x) :
    SeqStopsK Fence.wide n Tryz.prog 169 #[.pointer (some ⟨Bs, 0, none⟩)] (fun x : { k : Nat // k < xs.length } => #[Value.int .i64 (x.1 : Int), sideV (xs[x.1]'x.2)])
      (KeptB n₀ gh) (fun ys => ys = downs xs.length xs.length) (fun _ => True) xs.length w := fun l J Jx W hW hJ _ hY h0 => by
  refine (backS_in n hn l Bs n₀ gh A c xs hN hs0 hsg J Jx hY W ((hW.cell (p := ⟨Bs, 0, none⟩) (by show Bs < w.heap.size; omega)).trans hBs) (fun h => ?_) h0).mono ?_
  · obtain ⟨b, off, rfl, hb, hg, hcell⟩ := hc h
    exact ⟨b, off, rfl, hb, hg, fun j x hx => ⟨(hW.cell (p := ⟨b, off + j * 2, none⟩) (by show b < w.heap.size; omega)).trans (hcell j x hx).1, (hW.cell (p := ⟨b, off + j * 2 + 1, none⟩) (by show b < w.heap.size; omega)).trans (hcell j x hx).2⟩⟩
  · rintro e W' ⟨he, hj | ⟨pre, hj⟩⟩
    · exact ⟨he, .inl ⟨_, rfl, hj⟩⟩
    · exact ⟨he, .inr ⟨_, trivial, hj⟩⟩

set_option maxHeartbeats 400000 in
theorem backS_any (n c : Nat) (A : Option Addr) (w : World) :
    Calls Tryz.prog 114 #[.slice A n c] w fun e w' =>
      e = .returned (.func (.func 169) #[] #[.pointer (some ⟨w.heap.size, 0, none⟩)]) ∧ w.alloc (.cells #[.slice A n c] 199) = w' := by
  have hmf : ∀ (fn : Fn) (first cap : Array Value) (w : World), (Instr.makeFunc fn first cap).run Tryz.prog w = .ok (.func fn first cap) w := fun _ _ _ _ => rfl
  go_enter Tryz.func114, Tryz.ntmps114
  go_wp2
  go_ret
  exact ⟨rfl, rfl⟩

end Go.Proofs.YtimoapjhepmehaaGreatDoor

/-
  digest.Verify at one entry and at two.
-/
namespace Go.Proofs.YtimoapjhepmehaaGreatDoor
open Go.RowKit Go.Shelf
attribute [local go_sem ↓] Go.wp_at_zero Go.wp_at_succ
attribute [local go_sem] Oper.semAt_some

/-- the value of the out box behind some of the rounds -/
def accS (ys : List (ByteArray × Bool)) (z : ByteArray) {N : Nat} (pre : List { k : Nat // k < N }) : ByteArray := pre.foldl (fun out k => joinF (ys.getD k.1 (⟨#[]⟩, false)).1 (ys.getD k.1 (⟨#[]⟩, false)).2 out) z
theorem accS_snoc (ys : List (ByteArray × Bool)) (z : ByteArray) {N : Nat} (pre : List { k : Nat // k < N }) (x : { k : Nat // k < N }) : accS ys z (pre ++ [x]) = joinF (ys.getD x.1 (⟨#[]⟩, false)).1 (ys.getD x.1 (⟨#[]⟩, false)).2 (accS ys z pre) := by simp [accS]
theorem accS_size (ys : List (ByteArray × Bool)) {N : Nat} (pre : List { k : Nat // k < N }) : ∀ z : ByteArray, z.size = 32 → (accS ys z pre).size = 32 := by
  induction pre with
  | nil => exact fun z h => h
  | cons x pre ih =>
    intro z _
    have h := ih (joinF (ys.getD x.1 (⟨#[]⟩, false)).1 (ys.getD x.1 (⟨#[]⟩, false)).2 z) (joinF_size _ _ _)
    simpa only [accS, List.foldl_cons] using h
def VerJ (w : World) (B0 g0 : Nat) (ys : List (ByteArray × Bool)) (z : ByteArray) {N : Nat} (pre : List { k : Nat // k < N }) (W : World) : Prop :=
  (Blk W g0 9 #[.string (accS ys z pre)] ∧ RoundOK W) ∧ Below w.heap.size w W ∧ B0 ≤ W.heap.size
theorem VerJ.own (w : World) (B0 g0 : Nat) (ys : List (ByteArray × Bool)) (z : ByteArray) (N B : Nat) (hB : w.heap.size ≤ B) : OwnFrom B (fun (pre : List { k : Nat // k < N }) W => VerJ w B0 g0 ys z pre W) :=
  OwnFrom.and (Own.from (fun _ A B row hs hg hr => ⟨(hg.block _ hs.1.lt (fun e => by
      obtain ⟨o, ho, hc⟩ := hr _ e.symm
      have h1 := hs.1
      unfold Blk at h1
      rw [h1] at ho
      cases ho
      cases hc)).trans hs.1, fun j v hv => cell_kept (hs.2 j v hv) hg hr⟩) _) (OwnFrom.and (ownFrom_below (Nat.le_refl _) hB) (fun _ _ _ _ hs hg _ => Nat.le_trans hs hg.size))

set_option maxHeartbeats 1000000 in
set_option maxRecDepth 100000 in
theorem verify1_any (S : Nat → Prop) (v : Value) (root s : ByteArray) (w : World) (hv : Strs S w v []) (hs : s.size ≤ 500000) (hR : RoundOK w) :
    Calls Tryz.prog 64 #[.string root, .int .i64 1, .int .i64 0, .string s, v] w fun e w' => e = .returned (.bool ((leafF s).toList == root.toList)) ∧ Below w.heap.size w w' := by
  have HAll := Lib.hid (all_any S v [] w hv (by simp))
  have hlf0 := leaf_any s w hR hs
  have hl32 : (leafF s).size = 32 := leafF_size s
  generalize leafF s = lf at *
  have HLf := Lib.hid hlf0
  clear hlf0
  have HR := Lib.hid hR
  have hr1 := hR.lt
  obtain ⟨A, c, rfl, hc, _⟩ := hv
  clear hR
  refine (callsIn_wide (n := 3)).1 (callsIn_of_wp_marks Tryz.func64 rfl trivial (wpIn_wide.2 ?_) rfl)
  simp only [Tryz.ntmps64, List.size_toArray, List.length_cons, List.length_nil, Nat.reduceAdd, Nat.reduceSub, Array.replicate_succ, Array.replicate_zero, List.push_toArray, List.append_toArray, List.nil_append, List.cons_append]
  go_wp2_with (go_at_call 112; refine HAll.out.mono ?_; rintro e W1 ⟨rfl, rfl⟩; have hall : allF [] = true := rfl; rw [hall])
  refine wp_loop_rounds 1 ?_
  rw [rounds_succ]
  go_wp2_with (first
    | (go_at_call 76; refine HLf.out.mono ?_; rintro e W1 ⟨rfl, hb1⟩; have HB1 := Lib.hid hb1; have hz1 := hb1.size; clear hb1)
    | (go_at_call 114; refine (backS_any _ _ _ _).mono ?_; rintro e W2 ⟨rfl, rfl⟩))
  have hI0 : VerJ w (W1.heap.size + 2) W1.heap.size [] (lf) ([] : List { k : Nat // k < ([] : List (ByteArray × Bool)).length }) ((W1.alloc (.cells #[.string (lf)] 9)).alloc (.cells #[.slice none 0 0] 199)) :=
    ⟨⟨(Blk.new _ _ _).alloc _, ((HR.out.below HB1.out).below ((Below.refl _ _).alloc (Nat.le_refl _) _)).below ((Below.refl _ _).alloc (Nat.le_refl _) _)⟩, ((HB1.out.alloc hz1 _)).alloc (by simp; omega) _, by simp⟩
  refine (wpIn_wide (n := 3)).1 ?_
  refine' wpIn_rangeFunc_ownF rfl (by omega) (gf := 169) (lb := #[.pointer (some ⟨W1.heap.size + 1, 0, none⟩)]) (by simp [Act.eval]) trivial (enters_of Tryz.func169 (by kernel_rfl) rfl)
    (backS_stops 2 (by omega) (W1.heap.size + 1) (W1.heap.size + 2) W1.heap.size none 0 [] (by simp) (by omega) (by omega) _ (by simp) (by have h := cell_new1 (W1.alloc (.cells #[.string (lf)] 9)) (.slice none 0 0) 199; rw [World.size_alloc] at h; exact h) (fun h => absurd h (by simp)))
    (fun h k => KeptB.trans h k) (fun W l o o' hl h _ _ b hb1 _ => World.putObj_heap_other (fun e => by subst e; simp at hl; omega)) (Below.refl _ _) (fun _ => rfl)
    (fun pre W => VerJ w (W1.heap.size + 2) W1.heap.size [] (lf) pre W) (fun _ _ _ => False) (VerJ.own w (W1.heap.size + 2) W1.heap.size [] (lf) _ _ (by simp; omega)) (fun _ _ _ _ _ hs _ _ => hs) hI0
    (fun x => absurd x.2 (by simp)) ?assign ?body ?done ?stop
  case assign =>
    intro l x W K hK
    exact absurd x.2 (by simp)
  case body =>
    intro l' pre x W _ _
    exact absurd x.2 (by simp)
  case done =>
    rintro D ys' W hD rfl ⟨⟨hB, hRo⟩, hb, hsz⟩ hK
    have c0 : W.cell? ⟨W1.heap.size, 0, none⟩ = some (.string (lf)) := hB.cell 0
    go_wp2
    refine ⟨by simp, .inl ⟨_, _, rfl, run_takeDeferred hK, ?_⟩⟩
    refine ⟨_, results_tmp rfl _ _ _, ?_, ?_⟩
    · rfl
    · exact hb.grown (grownBy_putObj' W D _) hb.size (fun k e => by injection e with e; simp at hD; omega)
  case stop =>
    rintro D c pre W _ _ h _
    exact h.elim

end Go.Proofs.YtimoapjhepmehaaGreatDoor

/-
  package statetree: Verify at the law's row.
-/
namespace Go.Proofs.YtimoapjhepmehaaGreatDoor
open Go.RowKit
attribute [local go_sem ↓] Go.wp_at_zero Go.wp_at_succ

theorem rootF_one (x : ByteArray) : rootF [x] = leafF x := by
  unfold rootF
  rw [if_neg (by simp)]
  simp [stackTo, merged_short, foldBack]
theorem ba_ext {a b : ByteArray} (h : a.data.toList = b.data.toList) : a = b := by
  obtain ⟨⟨x⟩⟩ := a
  obtain ⟨⟨y⟩⟩ := b
  simp at h
  rw [h]
theorem ba_len (a : ByteArray) : a.size = a.data.toList.length := by simp
theorem ba_app (a b : ByteArray) : (a ++ b).data.toList = a.data.toList ++ b.data.toList := by simp
theorem ba_left (a b : ByteArray) (n : Nat) (h : a.size = n) : (a ++ b).extract 0 n = a := by
  refine ba_ext ?_
  rw [Lib.extract_data, List.drop_zero, Nat.sub_zero, ba_app, ← h, ba_len a, List.take_left]
theorem ba_right (a b : ByteArray) (n m : Nat) (h : a.size = n) (h2 : a.size + b.size = m) : (a ++ b).extract n m = b := by
  refine ba_ext ?_
  rw [Lib.extract_data, ba_app, ← h2, ← h, Nat.add_sub_cancel_left, ba_len a, List.drop_left, ba_len b, List.take_length]

theorem RP1.roots {W : World} {v6 v7 : Value} {A : Option Addr} {n c : Nat} (h : RP1 W #[.int .i64 0, .int .i64 0, .int .i64 5, .int .i64 5, .int .i64 1, .int .i64 0, v6, v7, .slice A n c]) : Strs (fun _ => True) W (.slice A n c) (sums true 16) := by
  obtain ⟨u6, u7, u8, hva, _, _, h4⟩ := h
  simp only [Array.mk.injEq, List.cons.injEq, true_and, and_true] at hva
  obtain ⟨rfl, rfl, rfl⟩ := hva
  exact h4
theorem RP1.paths {W : World} {v6 v8 : Value} {g k : Nat} (h : RP1 W #[.int .i64 0, .int .i64 0, .int .i64 5, .int .i64 5, .int .i64 1, .int .i64 0, v6, .slice (some ⟨g, 0, none⟩) 1 k, v8]) : ∃ A0 c0, W.cell? ⟨g, 0, none⟩ = some (.slice A0 0 c0) := by
  obtain ⟨u6, u7, u8, hva, _, ⟨g', c, A0, c0, ys, h1, _, h3⟩, _⟩ := h
  simp only [Array.mk.injEq, List.cons.injEq, true_and, and_true] at hva
  obtain ⟨rfl, rfl, rfl⟩ := hva
  injection h1 with h1
  injection h1 with h1
  injection h1 with h1
  subst h1
  exact ⟨A0, c0, (h3.cell 0).trans (by simp [Array.getElem?_append])⟩
theorem sums_head : ∃ t, sums true 16 = sumE true :: t := ⟨_, rfl⟩
theorem sumE_eq : sumE true = byteS 2 ++ rootF [rowEnc] := rfl
theorem putOne (w : World) : Calls Tryz.prog 104 #[.int .i64 1] w fun e w' => e = .returned (.tuple #[.string (byteS 2), .int .i64 0]) ∧ Below w.heap.size w w' := putInt_any 1 (by omega) w
theorem str_nil_any {S : Nat → Prop} {W : World} (A0 : Option Addr) (c0 : Nat) : Strs S W (.slice A0 0 c0) [] := ⟨A0, c0, rfl, Nat.zero_le _, fun h => absurd h (by simp)⟩

set_option maxRecDepth 100000 in
set_option maxHeartbeats 2000000 in
theorem stVerify (g1 k1 g2 k2 : Nat) (A : Option Addr) (n c : Nat) (w : World) (hra : RP1 w #[.int .i64 0, .int .i64 0, .int .i64 5, .int .i64 5, .int .i64 1, .int .i64 0, .slice (some ⟨g1, 0, none⟩) 1 k1, .slice (some ⟨g2, 0, none⟩) 1 k2, .slice A n c]) (hR : RoundOK w) :
    Calls Tryz.prog 60 #[.string (stateF true), .agg #[.int .i64 0, .int .i64 0, .int .i64 5, .int .i64 5, .int .i64 1, .int .i64 0, .slice (some ⟨g1, 0, none⟩) 1 k1, .slice (some ⟨g2, 0, none⟩) 1 k2, .slice A n c]] w fun e w' => e = .returned (.bool true) ∧ Below w.heap.size w w' := by
  obtain ⟨ys, hg⟩ := hra.row
  obtain ⟨A0, c0, hpath⟩ := hra.paths
  have hst := hra.roots
  obtain ⟨b, off, cc, hv, hcc, _, hcell⟩ := hst.at_ (k := 0) (by rw [sums_length]; omega)
  rw [sums_length] at hv hcc
  obtain ⟨t, ht⟩ := sums_head
  rw [ht] at hcell
  simp only [List.getD_cons_zero] at hcell
  obtain ⟨rfl, rfl, rfl⟩ : A = some ⟨b, off, none⟩ ∧ n = 16 ∧ c = cc := by injection hv with x y z; exact ⟨x, y, z⟩
  have HE := Lib.hid (ext_new w (.cells #[.int .i64 0, .int .i64 0, .int .i64 5, .int .i64 5, .int .i64 1, .int .i64 0, .slice (some ⟨g1, 0, none⟩) 1 k1, .slice (some ⟨g2, 0, none⟩) 1 k2, .slice (some ⟨b, off, none⟩) 16 c] 126))
  have HB := Lib.hid (Blk.new w 126 #[.int .i64 0, .int .i64 0, .int .i64 5, .int .i64 5, .int .i64 1, .int .i64 0, .slice (some ⟨g1, 0, none⟩) 1 k1, .slice (some ⟨g2, 0, none⟩) 1 k2, .slice (some ⟨b, off, none⟩) 16 c])
  have HG := Lib.hid hg
  have HPa := Lib.hid hpath
  have HCl := Lib.hid hcell
  have HSt := Lib.hid hst
  have HR := Lib.hid hR
  have HRt := Lib.hid (show ∀ (W : World), Below w.heap.size w W → Calls Tryz.prog 43 #[.slice (some ⟨b, off, none⟩) 16 c] W fun e w' => e = .returned (.string (stateF true)) ∧ Below W.heap.size W w' from
    fun W h => root_any (fun _ => True) _ (sums true 16) W (hst.below h) (by rw [sums_length]; omega) (sums_sizes true 16) (hR.below h))
  have HPn := Lib.hid (show ∀ W : World, Calls Tryz.prog 104 #[.int .i64 1] W fun e w' => e = .returned (.tuple #[.string (byteS 2), .int .i64 0]) ∧ Below W.heap.size W w' from putOne)
  have HVf := Lib.hid (show ∀ W : World, RoundOK W → Calls Tryz.prog 64 #[.string (rootF [rowEnc]), .int .i64 1, .int .i64 0, .string rowEnc, .slice A0 0 c0] W fun e w' => e = .returned (.bool true) ∧ Below W.heap.size W w' from
    fun W h => (verify1_any (fun _ => True) _ (rootF [rowEnc]) rowEnc W (str_nil_any A0 c0) (by rw [rowEnc_size]; omega) h).mono (fun e w' ⟨h1, h2⟩ => ⟨by rw [h1, rootF_one]; simp, h2⟩))
  have HEn := Lib.hid (fun W : World => rowEncode' W)
  have hx1 : (sumE true).extract 0 1 = byteS 2 := by rw [sumE_eq]; exact ba_left _ _ 1 (byteS_size _)
  have hx2 : (sumE true).extract 1 33 = rootF [rowEnc] := by rw [sumE_eq]; exact ba_right _ _ 1 33 (byteS_size _) (by rw [byteS_size, rootF_size])
  have hs33 : (sumE true).size = 33 := sumE_size true
  have hn1 : (byteS 2).size = 1 := byteS_size _
  generalize sumE true = s at *
  generalize byteS 2 = bn at *
  generalize rootF [rowEnc] = rt at *
  generalize rowEnc = re at *
  generalize stateF true = sr at *
  have bl := lt_of_cell hcell
  clear hra hg hpath hcell hst hR ht hv hcc
  go_enter Tryz.func60, Tryz.ntmps60
  go_wp2_with fail
  refine (complete1 g1 k1 ys g2 k2 _ 16 c _ (HG.out.alloc _)).mono ?_
  rintro e W1 ⟨rfl, hb1⟩
  have HE1 := Lib.hid (ext_call HE.out hb1)
  have HB1 := Lib.hid (HB.out.ext hb1)
  have p4 : W1.cell? ⟨w.heap.size, 4, none⟩ = some (.int .i64 1) := HB1.out.cell 4
  have p6 : W1.cell? ⟨w.heap.size, 6, none⟩ = some (.slice (some ⟨g1, 0, none⟩) 1 k1) := HB1.out.cell 6
  have p7 : W1.cell? ⟨w.heap.size, 7, none⟩ = some (.slice (some ⟨g2, 0, none⟩) 1 k2) := HB1.out.cell 7
  have p8 : W1.cell? ⟨w.heap.size, 8, none⟩ = some (.slice (some ⟨b, off, none⟩) 16 c) := HB1.out.cell 8
  clear hb1
  go_wp2_with fail
  refine (HRt.out _ HE1.out).mono ?_
  rintro e W2 ⟨rfl, hb2⟩
  have HE2 := Lib.hid (ext_call HE1.out hb2)
  have HB2 := Lib.hid (HB1.out.ext hb2)
  have p4 : W2.cell? ⟨w.heap.size, 4, none⟩ = some (.int .i64 1) := HB2.out.cell 4
  clear hb2 p6 p7 p8
  go_wp2_with fail
  refine (HPn.out _).mono ?_
  rintro e W3 ⟨rfl, hb3⟩
  have HE3 := Lib.hid (ext_call HE2.out hb3)
  have HB3 := Lib.hid (HB2.out.ext hb3)
  have p0 : W3.cell? ⟨w.heap.size, 0, none⟩ = some (.int .i64 0) := HB3.out.cell 0
  have p1 : W3.cell? ⟨w.heap.size, 1, none⟩ = some (.int .i64 0) := HB3.out.cell 1
  have p4 : W3.cell? ⟨w.heap.size, 4, none⟩ = some (.int .i64 1) := HB3.out.cell 4
  have p5 : W3.cell? ⟨w.heap.size, 5, none⟩ = some (.int .i64 0) := HB3.out.cell 5
  have p6 : W3.cell? ⟨w.heap.size, 6, none⟩ = some (.slice (some ⟨g1, 0, none⟩) 1 k1) := HB3.out.cell 6
  have p7 : W3.cell? ⟨w.heap.size, 7, none⟩ = some (.slice (some ⟨g2, 0, none⟩) 1 k2) := HB3.out.cell 7
  have p8 : W3.cell? ⟨w.heap.size, 8, none⟩ = some (.slice (some ⟨b, off, none⟩) 16 c) := HB3.out.cell 8
  have hcl : W3.cell? ⟨b, off, none⟩ = some (.string s) := cell_ext HCl.out HE3.out
  obtain ⟨r0, r1, r2, r3, r4⟩ := row_cells (HG.out.ext HE3.out)
  have gl := (HG.out.ext HE3.out).lt
  clear hb3
  go_wp2
  refine wp_loop_rounds 2 ?_
  rw [rounds_succ]
  go_wp2_with fail
  refine (HEn.out _).mono ?_
  rintro e W4 ⟨rfl, hb4⟩
  have HE4 := Lib.hid (ext_call (ext_alloc HE3.out _) hb4)
  have HB4 := Lib.hid ((HB3.out.alloc _).ext hb4)
  have p4 : W4.cell? ⟨w.heap.size, 4, none⟩ = some (.int .i64 1) := HB4.out.cell 4
  have p5 : W4.cell? ⟨w.heap.size, 5, none⟩ = some (.int .i64 0) := HB4.out.cell 5
  have p7 : W4.cell? ⟨w.heap.size, 7, none⟩ = some (.slice (some ⟨g2, 0, none⟩) 1 k2) := HB4.out.cell 7
  have hpc : W4.cell? ⟨g2, 0, none⟩ = some (.slice A0 0 c0) := cell_ext HPa.out HE4.out
  clear hb4 p0 p1 p6 p8 hcl r0 r1 r2 r3 r4 gl
  go_wp2
  go_still_tail 13, (by kernel_rfl)
  change wpList _ _ _ _ _ W4.drew
  go_wp2_with (go_at_call 64; refine (HVf.out _ (HR.out.below HE4.out.drew)).mono ?_; rintro e W5 ⟨rfl, hb5⟩; have HE5 := Lib.hid (ext_call HE4.out (undrew hb5)); clear hb5)
  rw [rounds_succ]
  go_wp2
  go_ret
  exact ⟨rfl, HE5.out⟩

end Go.Proofs.YtimoapjhepmehaaGreatDoor

/-
  package statetree: Same at two proofs of the law's row.
-/
namespace Go.Proofs.YtimoapjhepmehaaGreatDoor
open Go.RowKit
attribute [local go_sem ↓] Go.wp_at_zero Go.wp_at_succ

theorem same2 (A B : Option Addr) (c d : Nat) (w : World) : Calls Tryz.prog 163 #[.slice A 0 c, .slice B 0 d] w fun e w' => e = .returned (.bool true) ∧ w = w' := by
  go_enter Tryz.func163, Tryz.ntmps163
  go_wp2_with fail
  refine (Tryz.slices_Equal_string_empty A B c 0 d w (by omega)).mono ?_
  rintro e w' ⟨rfl, rfl⟩
  go_wp2
  go_ret
  exact ⟨by simp, rfl⟩

set_option maxRecDepth 100000 in
set_option maxHeartbeats 1000000 in
theorem eqPaths (g k g' k' : Nat) (A B : Option Addr) (c d : Nat) (w : World) (h1 : w.cell? ⟨g, 0, none⟩ = some (.slice A 0 c)) (h2 : w.cell? ⟨g', 0, none⟩ = some (.slice B 0 d)) :
    Calls Tryz.prog 195 #[.slice (some ⟨g, 0, none⟩) 1 k, .slice (some ⟨g', 0, none⟩) 1 k', .func (.func 163) #[] #[]] w fun e w' => e = .returned (.bool true) ∧ w = w' := by
  go_enter Tryz.func195, Tryz.ntmps195
  go_wp2
  refine wp_loop_rounds 2 ?_
  rw [rounds_succ]
  go_wp2_with (go_at_call 163; refine (same2 A B c d w).mono ?_; rintro e w' ⟨rfl, rfl⟩)
  rw [rounds_succ]
  go_wp2
  go_ret
  exact ⟨rfl, rfl⟩
theorem alikePaths (g k g' k' : Nat) (A B : Option Addr) (c d : Nat) (w : World) (h1 : w.cell? ⟨g, 0, none⟩ = some (.slice A 0 c)) (h2 : w.cell? ⟨g', 0, none⟩ = some (.slice B 0 d)) :
    Calls Tryz.prog 162 #[.slice (some ⟨g, 0, none⟩) 1 k, .slice (some ⟨g', 0, none⟩) 1 k', .func (.func 163) #[] #[]] w fun e w' => e = .returned (.bool true) ∧ w = w' := by
  have HE := Lib.hid (eqPaths g k g' k' A B c d w h1 h2)
  clear h1 h2
  go_enter Tryz.func162, Tryz.ntmps162
  go_wp2_with (go_at_call 195; refine HE.out.mono ?_; rintro e w' ⟨rfl, rfl⟩)
  go_ret
  exact ⟨rfl, rfl⟩

theorem arrEq (W : World) : (Op.equalIn 10000 118 (.agg #[.int .i64 0, .int .i64 0, .int .i64 5, .int .i64 5, .int .i64 1, .int .i64 0]) (.agg #[.int .i64 0, .int .i64 0, .int .i64 5, .int .i64 5, .int .i64 1, .int .i64 0])).run Tryz.prog W = .ok true W := by kernel_rfl
theorem rowEq (W : World) : (Op.equalIn 10000 67 (.agg #[.int .i64 0, .int .i64 5, .int .i64 10, .int .i64 20, .int .i64 30]) (.agg #[.int .i64 0, .int .i64 5, .int .i64 10, .int .i64 20, .int .i64 30])).run Tryz.prog W = .ok true W := by kernel_rfl

set_option maxRecDepth 100000 in
set_option maxHeartbeats 1000000 in
theorem eqRows (g k g' k' : Nat) (zs zs' : Array Value) (w : World) (h1 : Blk w g 67 (#[.int .i64 0, .int .i64 5, .int .i64 10, .int .i64 20, .int .i64 30] ++ zs)) (h2 : Blk w g' 67 (#[.int .i64 0, .int .i64 5, .int .i64 10, .int .i64 20, .int .i64 30] ++ zs')) :
    Calls Tryz.prog 159 #[.slice (some ⟨g, 0, none⟩) 1 k, .slice (some ⟨g', 0, none⟩) 1 k'] w fun e w' => e = .returned (.bool true) ∧ Below w.heap.size w w' := by
  obtain ⟨r0, r1, r2, r3, r4⟩ := row_cells h1
  obtain ⟨s0, s1, s2, s3, s4⟩ := row_cells h2
  clear h1 h2
  have hq := rowEq
  go_enter Tryz.func159, Tryz.ntmps159
  go_wp2
  refine wp_loop_rounds 2 ?_
  rw [rounds_succ]
  go_wp2
  go_region
  go_wp2
  rw [rounds_succ]
  go_wp2
  go_ret
  exact ⟨rfl, (ext_refl _).drew⟩

set_option maxRecDepth 100000 in
set_option maxHeartbeats 1000000 in
theorem sameNums (v6 v7 v8 : Value) (h6 : v6.oneCell' = true) (h7 : v7.oneCell' = true) (h8 : v8.oneCell' = true) (A6 A7 A8 : Option Addr) (n6 n7 n8 c6 c7 c8 : Nat) (e6 : v6 = .slice A6 n6 c6) (e7 : v7 = .slice A7 n7 c7) (e8 : v8 = .slice A8 n8 c8) (w : World) :
    Calls Tryz.prog 161 #[.agg #[.int .i64 0, .int .i64 0, .int .i64 5, .int .i64 5, .int .i64 1, .int .i64 0, v6, v7, v8]] w fun e w' => e = .returned (.agg #[.int .i64 0, .int .i64 0, .int .i64 5, .int .i64 5, .int .i64 1, .int .i64 0]) ∧ Below w.heap.size w w' := by
  subst e6 e7 e8
  have HB := Lib.hid (Blk.new' (w.alloc (.cells #[.int .i64 0, .int .i64 0, .int .i64 5, .int .i64 5, .int .i64 1, .int .i64 0, .slice A6 n6 c6, .slice A7 n7 c7, .slice A8 n8 c8] 126)) 118 #[.int .i64 0, .int .i64 0, .int .i64 5, .int .i64 5, .int .i64 1, .int .i64 0] (b := w.heap.size + 1) (by simp))
  go_enter Tryz.func161, Tryz.ntmps161
  go_wp2
  have y0 := HB.out.cell 0; have y1 := HB.out.cell 1; have y2 := HB.out.cell 2; have y3 := HB.out.cell 3; have y4 := HB.out.cell 4; have y5 := HB.out.cell 5
  refine bodyPost_ret (v := .agg #[.int .i64 0, .int .i64 0, .int .i64 5, .int .i64 5, .int .i64 1, .int .i64 0]) (by simp [results, Tryz.results161, go_sem, y0, y1, y2, y3, y4, y5]) rfl ⟨rfl, ?_⟩
  exact ext_alloc (ext_new _ _) _

theorem rp2Keep {X W : World} {ba bb : Nat} {a0 a1 a2 a3 a4 a5 a6 a7 a8 b0 b1 b2 b3 b4 b5 b6 b7 b8 : Value} (h : Blk X ba 126 #[a0, a1, a2, a3, a4, a5, a6, a7, a8] ∧ Blk X bb 126 #[b0, b1, b2, b3, b4, b5, b6, b7, b8]) (k : Below X.heap.size X W) : W.cell? ⟨ba, 0, none⟩ = some a0 ∧ W.cell? ⟨ba, 1, none⟩ = some a1 ∧ W.cell? ⟨ba, 2, none⟩ = some a2 ∧ W.cell? ⟨ba, 3, none⟩ = some a3 ∧ W.cell? ⟨ba, 4, none⟩ = some a4 ∧ W.cell? ⟨ba, 5, none⟩ = some a5 ∧ W.cell? ⟨ba, 6, none⟩ = some a6 ∧ W.cell? ⟨ba, 7, none⟩ = some a7 ∧ W.cell? ⟨ba, 8, none⟩ = some a8 ∧ W.cell? ⟨bb, 0, none⟩ = some b0 ∧ W.cell? ⟨bb, 1, none⟩ = some b1 ∧ W.cell? ⟨bb, 2, none⟩ = some b2 ∧ W.cell? ⟨bb, 3, none⟩ = some b3 ∧ W.cell? ⟨bb, 4, none⟩ = some b4 ∧ W.cell? ⟨bb, 5, none⟩ = some b5 ∧ W.cell? ⟨bb, 6, none⟩ = some b6 ∧ W.cell? ⟨bb, 7, none⟩ = some b7 ∧ W.cell? ⟨bb, 8, none⟩ = some b8 ∧ Below X.heap.size X W :=
  ⟨(h.1.ext k).cell 0, (h.1.ext k).cell 1, (h.1.ext k).cell 2, (h.1.ext k).cell 3, (h.1.ext k).cell 4, (h.1.ext k).cell 5, (h.1.ext k).cell 6, (h.1.ext k).cell 7, (h.1.ext k).cell 8, (h.2.ext k).cell 0, (h.2.ext k).cell 1, (h.2.ext k).cell 2, (h.2.ext k).cell 3, (h.2.ext k).cell 4, (h.2.ext k).cell 5, (h.2.ext k).cell 6, (h.2.ext k).cell 7, (h.2.ext k).cell 8, k⟩
theorem rp2B {X W : World} {ba bb : Nat} {a0 a1 a2 a3 a4 a5 a6 a7 a8 b0 b1 b2 b3 b4 b5 b6 b7 b8 : Value} (h : W.cell? ⟨ba, 0, none⟩ = some a0 ∧ W.cell? ⟨ba, 1, none⟩ = some a1 ∧ W.cell? ⟨ba, 2, none⟩ = some a2 ∧ W.cell? ⟨ba, 3, none⟩ = some a3 ∧ W.cell? ⟨ba, 4, none⟩ = some a4 ∧ W.cell? ⟨ba, 5, none⟩ = some a5 ∧ W.cell? ⟨ba, 6, none⟩ = some a6 ∧ W.cell? ⟨ba, 7, none⟩ = some a7 ∧ W.cell? ⟨ba, 8, none⟩ = some a8 ∧ W.cell? ⟨bb, 0, none⟩ = some b0 ∧ W.cell? ⟨bb, 1, none⟩ = some b1 ∧ W.cell? ⟨bb, 2, none⟩ = some b2 ∧ W.cell? ⟨bb, 3, none⟩ = some b3 ∧ W.cell? ⟨bb, 4, none⟩ = some b4 ∧ W.cell? ⟨bb, 5, none⟩ = some b5 ∧ W.cell? ⟨bb, 6, none⟩ = some b6 ∧ W.cell? ⟨bb, 7, none⟩ = some b7 ∧ W.cell? ⟨bb, 8, none⟩ = some b8 ∧ Below X.heap.size X W) : Below X.heap.size X W := h.2.2.2.2.2.2.2.2.2.2.2.2.2.2.2.2.2.2
theorem eqRoots (b o c b' o' c' : Nat) (w : World) (h1 : Strs (fun _ => True) w (.slice (some ⟨b, o, none⟩) 16 c) (sums true 16)) (h2 : Strs (fun _ => True) w (.slice (some ⟨b', o', none⟩) 16 c') (sums true 16)) :
    Calls Tryz.prog 164 #[.slice (some ⟨b, o, none⟩) 16 c, .slice (some ⟨b', o', none⟩) 16 c'] w fun e w' => e = .returned (.bool true) ∧ Below w.heap.size w w' := by
  have hl := sums_length true 16
  generalize sums true 16 = l at *
  obtain ⟨A1, c1, e1, _, q1⟩ := h1
  obtain ⟨A2, c2, e2, _, q2⟩ := h2
  obtain ⟨x1, y1, z1, _, k1⟩ := q1 (by omega)
  obtain ⟨x2, y2, z2, _, k2⟩ := q2 (by omega)
  obtain ⟨rfl, rfl⟩ : x1 = b ∧ y1 = o := by injection e1 with p _ _; rw [z1] at p; injection p with p; injection p with p q _; exact ⟨p.symm, q.symm⟩
  obtain ⟨rfl, rfl⟩ : x2 = b' ∧ y2 = o' := by injection e2 with p _ _; rw [z2] at p; injection p with p; injection p with p q _; exact ⟨p.symm, q.symm⟩
  refine (Tryz.slices_Equal_string x1 y1 16 c x2 y2 16 c' l l w (by omega) (by omega) (by omega) (by omega) (fun j hj => ?_) (fun j hj => ?_)).mono ?_
  · rw [k1 j _ (List.getElem?_eq_getElem hj), List.getD_eq_getElem?_getD, List.getElem?_eq_getElem hj]; rfl
  · rw [k2 j _ (List.getElem?_eq_getElem hj), List.getD_eq_getElem?_getD, List.getElem?_eq_getElem hj]; rfl
  rintro e w' ⟨rfl, q, rfl⟩
  exact ⟨by simp, ext_drewN (ext_refl _) _⟩

set_option maxRecDepth 100000 in
set_option maxHeartbeats 2000000 in
theorem stSame (g1 k1 g2 k2 : Nat) (A : Option Addr) (n c : Nat) (g1' k1' g2' k2' : Nat) (A' : Option Addr) (n' c' : Nat) (w : World)
    (hra : RP1 w #[.int .i64 0, .int .i64 0, .int .i64 5, .int .i64 5, .int .i64 1, .int .i64 0, .slice (some ⟨g1, 0, none⟩) 1 k1, .slice (some ⟨g2, 0, none⟩) 1 k2, .slice A n c]) (hrb : RP1 w #[.int .i64 0, .int .i64 0, .int .i64 5, .int .i64 5, .int .i64 1, .int .i64 0, .slice (some ⟨g1', 0, none⟩) 1 k1', .slice (some ⟨g2', 0, none⟩) 1 k2', .slice A' n' c']) :
    Calls Tryz.prog 109 #[.agg #[.int .i64 0, .int .i64 0, .int .i64 5, .int .i64 5, .int .i64 1, .int .i64 0, .slice (some ⟨g1, 0, none⟩) 1 k1, .slice (some ⟨g2, 0, none⟩) 1 k2, .slice A n c], .agg #[.int .i64 0, .int .i64 0, .int .i64 5, .int .i64 5, .int .i64 1, .int .i64 0, .slice (some ⟨g1', 0, none⟩) 1 k1', .slice (some ⟨g2', 0, none⟩) 1 k2', .slice A' n' c']] w
      fun e w' => e = .returned (.bool true) ∧ Below w.heap.size w w' := by
  obtain ⟨zs, hg⟩ := hra.row
  obtain ⟨zs', hg'⟩ := hrb.row
  obtain ⟨P0, p0, hpath⟩ := hra.paths
  obtain ⟨P0', p0', hpath'⟩ := hrb.paths
  have hst := hra.roots
  have hst' := hrb.roots
  obtain ⟨b, o, cc, hv, _, _, _⟩ := hst.at_ (k := 0) (by rw [sums_length]; omega)
  rw [sums_length] at hv
  obtain ⟨rfl, rfl, rfl⟩ : A = some ⟨b, o, none⟩ ∧ n = 16 ∧ c = cc := by injection hv with x y z; exact ⟨x, y, z⟩
  obtain ⟨b', o', cc', hv', _, _, _⟩ := hst'.at_ (k := 0) (by rw [sums_length]; omega)
  rw [sums_length] at hv'
  obtain ⟨rfl, rfl, rfl⟩ : A' = some ⟨b', o', none⟩ ∧ n' = 16 ∧ c' = cc' := by injection hv' with x y z; exact ⟨x, y, z⟩
  obtain ⟨X, hX⟩ : ∃ X, X = (w.alloc (.cells #[.int .i64 0, .int .i64 0, .int .i64 5, .int .i64 5, .int .i64 1, .int .i64 0, .slice (some ⟨g1, 0, none⟩) 1 k1, .slice (some ⟨g2, 0, none⟩) 1 k2, .slice (some ⟨b, o, none⟩) 16 c] 126)).alloc (.cells #[.int .i64 0, .int .i64 0, .int .i64 5, .int .i64 5, .int .i64 1, .int .i64 0, .slice (some ⟨g1', 0, none⟩) 1 k1', .slice (some ⟨g2', 0, none⟩) 1 k2', .slice (some ⟨b', o', none⟩) 16 c'] 126) := ⟨_, rfl⟩
  have hE : Below w.heap.size w X := by rw [hX]; exact ext_alloc (ext_new _ _) _
  have HBB := Lib.hid (show Blk X w.heap.size 126 #[.int .i64 0, .int .i64 0, .int .i64 5, .int .i64 5, .int .i64 1, .int .i64 0, .slice (some ⟨g1, 0, none⟩) 1 k1, .slice (some ⟨g2, 0, none⟩) 1 k2, .slice (some ⟨b, o, none⟩) 16 c] ∧ Blk X (w.heap.size + 1) 126 #[.int .i64 0, .int .i64 0, .int .i64 5, .int .i64 5, .int .i64 1, .int .i64 0, .slice (some ⟨g1', 0, none⟩) 1 k1', .slice (some ⟨g2', 0, none⟩) 1 k2', .slice (some ⟨b', o', none⟩) 16 c'] by rw [hX]; exact ⟨(Blk.new _ _ _).alloc _, Blk.new' _ _ _ (by simp)⟩)
  have HG := Lib.hid (hg.ext hE)
  have HG' := Lib.hid (hg'.ext hE)
  have HP := Lib.hid (alikePaths g2 k2 g2' k2' P0 P0' p0 p0' X (cell_ext hpath hE) (cell_ext hpath' hE))
  have HRt := Lib.hid (show ∀ W : World, Below X.heap.size X W → Calls Tryz.prog 164 #[.slice (some ⟨b, o, none⟩) 16 c, .slice (some ⟨b', o', none⟩) 16 c'] W fun e w' => e = .returned (.bool true) ∧ Below W.heap.size W w' from
    fun W h => eqRoots b o c b' o' c' W ((hst.below hE).below h) ((hst'.below hE).below h))
  have HE := Lib.hid hE
  have HX := Lib.hid hX
  clear hra hrb hg hg' hpath hpath' hst hst' hv hv' hE hX
  go_enter Tryz.func109, Tryz.ntmps109
  go_wp2_with fail
  rw [← HX.out]
  refine HP.out.mono ?_
  rintro e w' ⟨rfl, rfl⟩
  have hq := arrEq
  have HK := Lib.hid (rp2Keep HBB.out (ext_refl X))
  obtain ⟨c0, c1, c2, c3, c4, c5, c6, c7, c8, d0, d1, d2, d3, d4, d5, d6, d7, d8, _⟩ := HK.out
  go_wp2
  go_region_held3 (fun w' => w'.cell? ⟨w.heap.size, 0, none⟩ = some (.int .i64 0) ∧ w'.cell? ⟨w.heap.size, 1, none⟩ = some (.int .i64 0) ∧ w'.cell? ⟨w.heap.size, 2, none⟩ = some (.int .i64 5) ∧ w'.cell? ⟨w.heap.size, 3, none⟩ = some (.int .i64 5) ∧ w'.cell? ⟨w.heap.size, 4, none⟩ = some (.int .i64 1) ∧ w'.cell? ⟨w.heap.size, 5, none⟩ = some (.int .i64 0) ∧ w'.cell? ⟨w.heap.size, 6, none⟩ = some (.slice (some ⟨g1, 0, none⟩) 1 k1) ∧ w'.cell? ⟨w.heap.size, 7, none⟩ = some (.slice (some ⟨g2, 0, none⟩) 1 k2) ∧ w'.cell? ⟨w.heap.size, 8, none⟩ = some (.slice (some ⟨b, o, none⟩) 16 c) ∧ w'.cell? ⟨w.heap.size + 1, 0, none⟩ = some (.int .i64 0) ∧ w'.cell? ⟨w.heap.size + 1, 1, none⟩ = some (.int .i64 0) ∧ w'.cell? ⟨w.heap.size + 1, 2, none⟩ = some (.int .i64 5) ∧ w'.cell? ⟨w.heap.size + 1, 3, none⟩ = some (.int .i64 5) ∧ w'.cell? ⟨w.heap.size + 1, 4, none⟩ = some (.int .i64 1) ∧ w'.cell? ⟨w.heap.size + 1, 5, none⟩ = some (.int .i64 0) ∧ w'.cell? ⟨w.heap.size + 1, 6, none⟩ = some (.slice (some ⟨g1', 0, none⟩) 1 k1') ∧ w'.cell? ⟨w.heap.size + 1, 7, none⟩ = some (.slice (some ⟨g2', 0, none⟩) 1 k2') ∧ w'.cell? ⟨w.heap.size + 1, 8, none⟩ = some (.slice (some ⟨b', o', none⟩) 16 c') ∧ Below X.heap.size X w')
    (first | with_reducible assumption | exact rp2Keep HBB.out (by repeat (first | with_reducible refine ext_alloc ?_ _ | with_reducible refine Below.drew ?_ | with_reducible refine ext_drewN ?_ _ | with_reducible assumption | with_reducible exact ext_refl _)))
    (first
      | (go_at_call 161; (with_reducible refine (sameNums _ _ _ rfl rfl rfl _ _ _ _ _ _ _ _ _ rfl rfl rfl _).mono ?_); rintro e Z ⟨rfl, hb'⟩; have hXZ := ext_call (rp2B (by assumption)) hb'; clear hb')
      | (go_at_call 159; (with_reducible refine (eqRows g1 k1 g1' k1' zs zs' _ ?_ ?_).mono ?_); (exact HG.out.ext (rp2B (by assumption))); (exact HG'.out.ext (rp2B (by assumption))); rintro e Z ⟨rfl, hb'⟩; have hXZ := ext_call (rp2B (by assumption)) hb'; clear hb')
      | (go_at_call 164; (with_reducible refine (HRt.out _ ?_).mono ?_); (exact rp2B (by assumption)); rintro e Z ⟨rfl, hb'⟩; have hXZ := ext_call (rp2B (by assumption)) hb'; clear hb'))
  all_goals
    have HZ := Lib.hid (ext_call HE.out hXZ)
    clear hXZ c0 c1 c2 c3 c4 c5 c6 c7 c8 d0 d1 d2 d3 d4 d5 d6 d7 d8 hq
    go_wp2
    go_ret
    exact ⟨rfl, HZ.out⟩

end Go.Proofs.YtimoapjhepmehaaGreatDoor

/-
  package proof: Same at two answers of the law's row; eval.Same.
-/
namespace Go.Proofs.YtimoapjhepmehaaGreatDoor
open Go.RowKit
attribute [local go_sem ↓] Go.wp_at_zero Go.wp_at_succ

set_option maxRecDepth 100000 in
set_option maxHeartbeats 1000000 in
theorem evalSame (g k g' k' : Nat) (zs zs' : Array Value) (w : World) (h1 : Blk w g 67 (#[.int .i64 0, .int .i64 5, .int .i64 10, .int .i64 20, .int .i64 30] ++ zs)) (h2 : Blk w g' 67 (#[.int .i64 0, .int .i64 5, .int .i64 10, .int .i64 20, .int .i64 30] ++ zs')) :
    Calls Tryz.prog 107 #[.agg #[.slice (some ⟨g, 0, none⟩) 1 k, .int .i64 0, .bool false], .agg #[.slice (some ⟨g', 0, none⟩) 1 k', .int .i64 0, .bool false]] w fun e w' => e = .returned (.bool true) ∧ Below w.heap.size w w' := by
  have HE := Lib.hid (ext_alloc (ext_new w (.cells #[.slice (some ⟨g, 0, none⟩) 1 k, .int .i64 0, .bool false] 36)) (.cells #[.slice (some ⟨g', 0, none⟩) 1 k', .int .i64 0, .bool false] 36))
  have HR := Lib.hid (eqRows g k g' k' zs zs' _ (h1.ext HE.out) (h2.ext HE.out))
  clear h1 h2
  go_enter Tryz.func107, Tryz.ntmps107
  go_wp2_with fail
  refine HR.out.mono ?_
  rintro e W1 ⟨rfl, hb1⟩
  have HE1 := Lib.hid (ext_call HE.out hb1)
  clear hb1
  go_wp2
  go_ret
  exact ⟨rfl, HE1.out⟩

set_option maxRecDepth 100000 in
set_option maxHeartbeats 1000000 in
theorem eqRPs (g c g' c' : Nat) (va vb zs zs' : Array Value) (w : World) (h1 : Blk w g 126 (va ++ zs)) (h2 : Blk w g' 126 (vb ++ zs')) (r1 : RP1 w va) (r2 : RP1 w vb) :
    Calls Tryz.prog 160 #[.slice (some ⟨g, 0, none⟩) 1 c, .slice (some ⟨g', 0, none⟩) 1 c', .func (.func 109) #[] #[]] w fun e w' => e = .returned (.bool true) ∧ Below w.heap.size w w' := by
  obtain ⟨g1, k1, g2, k2, A, n, m, rfl⟩ := r1.lit
  obtain ⟨g1', k1', g2', k2', A', n', m', rfl⟩ := r2.lit
  obtain ⟨q0, q1, q2, q3, q4, q5, q6, q7, q8⟩ := cells9 h1
  obtain ⟨s0, s1, s2, s3, s4, s5, s6, s7, s8⟩ := cells9 h2
  have gl := h1.lt
  have gl' := h2.lt
  have gl1 : g' < w.heap.size + 1 := by omega
  have HE := Lib.hid (ext_alloc (ext_new w (.cells #[.int .i64 0, .int .i64 0, .int .i64 5, .int .i64 5, .int .i64 1, .int .i64 0, .slice (some ⟨g1, 0, none⟩) 1 k1, .slice (some ⟨g2, 0, none⟩) 1 k2, .slice A n m] 126)) (.cells #[.int .i64 0, .int .i64 0, .int .i64 5, .int .i64 5, .int .i64 1, .int .i64 0, .slice (some ⟨g1', 0, none⟩) 1 k1', .slice (some ⟨g2', 0, none⟩) 1 k2', .slice A' n' m'] 126))
  have HS := Lib.hid (stSame g1 k1 g2 k2 A n m g1' k1' g2' k2' A' n' m' _ (r1.ext HE.out) (r2.ext HE.out))
  clear h1 h2 r1 r2
  go_enter Tryz.func160, Tryz.ntmps160
  go_wp2
  refine wp_loop_rounds 2 ?_
  rw [rounds_succ]
  go_wp2_with fail
  refine HS.out.mono ?_
  rintro e W1 ⟨rfl, hb1⟩
  have HE1 := Lib.hid (ext_call HE.out hb1)
  clear hb1 q0 q1 q2 q3 q4 q5 q6 q7 q8 s0 s1 s2 s3 s4 s5 s6 s7 s8 gl gl' gl1
  go_wp2
  rw [rounds_succ]
  go_wp2
  go_ret
  exact ⟨rfl, HE1.out⟩
theorem alikeRPs (g c g' c' : Nat) (va vb zs zs' : Array Value) (w : World) (h1 : Blk w g 126 (va ++ zs)) (h2 : Blk w g' 126 (vb ++ zs')) (r1 : RP1 w va) (r2 : RP1 w vb) :
    Calls Tryz.prog 108 #[.slice (some ⟨g, 0, none⟩) 1 c, .slice (some ⟨g', 0, none⟩) 1 c', .func (.func 109) #[] #[]] w fun e w' => e = .returned (.bool true) ∧ Below w.heap.size w w' := by
  have HE := Lib.hid (eqRPs g c g' c' va vb zs zs' w h1 h2 r1 r2)
  clear h1 h2 r1 r2
  go_enter Tryz.func108, Tryz.ntmps108
  go_wp2_with fail
  refine HE.out.mono ?_
  rintro e W1 ⟨rfl, hb1⟩
  have HE1 := Lib.hid hb1
  clear hb1
  go_wp2
  go_ret
  exact ⟨rfl, HE1.out⟩

set_option maxHeartbeats 1000000 in
theorem eqRecs (A B : Option Addr) (c d : Nat) (w : World) :
    Calls Tryz.prog 165 #[.slice A 0 c, .slice B 0 d, .func (.func 111) #[] #[]] w fun e w' => e = .returned (.bool true) ∧ w = w' := by
  go_enter Tryz.func165, Tryz.ntmps165
  go_wp2
  refine wp_loop_rounds 1 ?_
  rw [rounds_succ]
  go_wp2
  go_ret
  exact ⟨rfl, rfl⟩
theorem alikeRecs (A B : Option Addr) (c d : Nat) (w : World) :
    Calls Tryz.prog 110 #[.slice A 0 c, .slice B 0 d, .func (.func 111) #[] #[]] w fun e w' => e = .returned (.bool true) ∧ w = w' := by
  go_enter Tryz.func110, Tryz.ntmps110
  go_wp2_with (go_at_call 165; refine (eqRecs A B c d w).mono ?_; rintro e w' ⟨rfl, rfl⟩)
  go_ret
  exact ⟨rfl, rfl⟩

/-- an answer of the law's row, its parts named -/
def Ans1 (W : World) (gr kr g c : Nat) (B : Option Addr) (d : Nat) : Prop := ∃ zs vr us, Blk W gr 67 (#[.int .i64 0, .int .i64 5, .int .i64 10, .int .i64 20, .int .i64 30] ++ zs) ∧ 1 ≤ c ∧ Blk W g 126 (vr ++ us) ∧ RP1 W vr ∧ 0 ≤ kr
theorem Ans1.ext {w W : World} {gr kr g c d : Nat} {B : Option Addr} (h : Ans1 w gr kr g c B d) (k : Below w.heap.size w W) : Ans1 W gr kr g c B d := by
  obtain ⟨zs, vr, us, h1, h2, h3, h4, h5⟩ := h
  exact ⟨zs, vr, us, h1.ext k, h2, h3.ext k, h4.ext k, h5⟩
theorem AnsAt.lit {W : World} {va : Array Value} (h : AnsAt true W va) : ∃ gr kr g c B d, va = #[.int .i64 1, .int .i64 0, .int .i64 0, .int .i64 5, .int .i64 5, .int .i64 0, .int .i64 0, .slice (some ⟨gr, 0, none⟩) 1 kr, .int .i64 0, .bool false, .int .i64 1, .int .i64 1, .int .i64 1, .slice (some ⟨g, 0, none⟩) 1 c, .slice B 0 d] ∧ Ans1 W gr kr g c B d := by
  obtain ⟨v, g, c, vr, us, B, d, rfl, hv, hc, hg, hr⟩ := h
  obtain ⟨gr, kr, zs, rfl, _, hz⟩ := rows_one hv
  exact ⟨gr, kr, g, c, B, d, rfl, zs, vr, us, hz, hc, hg, hr, Nat.zero_le _⟩

set_option maxRecDepth 100000 in
set_option maxHeartbeats 2000000 in
theorem proofSame (gr kr g c : Nat) (B : Option Addr) (d gr' kr' g' c' : Nat) (B' : Option Addr) (d' : Nat) (w : World) (h1 : Ans1 w gr kr g c B d) (h2 : Ans1 w gr' kr' g' c' B' d') :
    Calls Tryz.prog 62 #[.agg #[.int .i64 1, .int .i64 0, .int .i64 0, .int .i64 5, .int .i64 5, .int .i64 0, .int .i64 0, .slice (some ⟨gr, 0, none⟩) 1 kr, .int .i64 0, .bool false, .int .i64 1, .int .i64 1, .int .i64 1, .slice (some ⟨g, 0, none⟩) 1 c, .slice B 0 d],
        .agg #[.int .i64 1, .int .i64 0, .int .i64 0, .int .i64 5, .int .i64 5, .int .i64 0, .int .i64 0, .slice (some ⟨gr', 0, none⟩) 1 kr', .int .i64 0, .bool false, .int .i64 1, .int .i64 1, .int .i64 1, .slice (some ⟨g', 0, none⟩) 1 c', .slice B' 0 d']] w
      fun e w' => e = .returned (.bool true) ∧ Below w.heap.size w w' := by
  obtain ⟨zs, vr, us, hz, _, hg, hr, _⟩ := h1
  obtain ⟨zs', vr', us', hz', _, hg', hr', _⟩ := h2
  obtain ⟨X, hX⟩ : ∃ X, X = (w.alloc (.cells #[.int .i64 1, .int .i64 0, .int .i64 0, .int .i64 5, .int .i64 5, .int .i64 0, .int .i64 0, .slice (some ⟨gr, 0, none⟩) 1 kr, .int .i64 0, .bool false, .int .i64 1, .int .i64 1, .int .i64 1, .slice (some ⟨g, 0, none⟩) 1 c, .slice B 0 d] 39)).alloc (.cells #[.int .i64 1, .int .i64 0, .int .i64 0, .int .i64 5, .int .i64 5, .int .i64 0, .int .i64 0, .slice (some ⟨gr', 0, none⟩) 1 kr', .int .i64 0, .bool false, .int .i64 1, .int .i64 1, .int .i64 1, .slice (some ⟨g', 0, none⟩) 1 c', .slice B' 0 d'] 39) := ⟨_, rfl⟩
  have hE : Below w.heap.size w X := by rw [hX]; exact ext_alloc (ext_new _ _) _
  have HBa := Lib.hid (show Blk X w.heap.size 39 #[.int .i64 1, .int .i64 0, .int .i64 0, .int .i64 5, .int .i64 5, .int .i64 0, .int .i64 0, .slice (some ⟨gr, 0, none⟩) 1 kr, .int .i64 0, .bool false, .int .i64 1, .int .i64 1, .int .i64 1, .slice (some ⟨g, 0, none⟩) 1 c, .slice B 0 d] by rw [hX]; exact (Blk.new _ _ _).alloc _)
  have HBb := Lib.hid (show Blk X (w.heap.size + 1) 39 #[.int .i64 1, .int .i64 0, .int .i64 0, .int .i64 5, .int .i64 5, .int .i64 0, .int .i64 0, .slice (some ⟨gr', 0, none⟩) 1 kr', .int .i64 0, .bool false, .int .i64 1, .int .i64 1, .int .i64 1, .slice (some ⟨g', 0, none⟩) 1 c', .slice B' 0 d'] by rw [hX]; exact Blk.new' _ _ _ (by simp))
  have HS := Lib.hid (evalSame gr kr gr' kr' zs zs' X (hz.ext hE) (hz'.ext hE))
  have HRp := Lib.hid (show ∀ W : World, Below X.heap.size X W → Calls Tryz.prog 108 #[.slice (some ⟨g, 0, none⟩) 1 c, .slice (some ⟨g', 0, none⟩) 1 c', .func (.func 109) #[] #[]] W fun e w' => e = .returned (.bool true) ∧ Below W.heap.size W w' from
    fun W h => alikeRPs g c g' c' vr vr' us us' W ((hg.ext hE).ext h) ((hg'.ext hE).ext h) ((hr.ext hE).ext h) ((hr'.ext hE).ext h))
  have HE := Lib.hid hE
  have HX := Lib.hid hX
  clear hz hg hr hz' hg' hr' hE hX
  go_enter Tryz.func62, Tryz.ntmps62
  go_wp2_with fail
  rw [← HX.out]
  refine HS.out.mono ?_
  rintro e W1 ⟨rfl, hb1⟩
  have HE1 := Lib.hid hb1
  have a13 : W1.cell? ⟨w.heap.size, 13, none⟩ = some (.slice (some ⟨g, 0, none⟩) 1 c) := (HBa.out.ext hb1).cell 13
  have b13 : W1.cell? ⟨w.heap.size + 1, 13, none⟩ = some (.slice (some ⟨g', 0, none⟩) 1 c') := (HBb.out.ext hb1).cell 13
  clear hb1
  go_wp2_with fail
  refine (HRp.out _ HE1.out).mono ?_
  rintro e W2 ⟨rfl, hb2⟩
  have HE2 := Lib.hid (ext_call HE1.out hb2)
  have a14 : W2.cell? ⟨w.heap.size, 14, none⟩ = some (.slice B 0 d) := (HBa.out.ext HE2.out).cell 14
  have b14 : W2.cell? ⟨w.heap.size + 1, 14, none⟩ = some (.slice B' 0 d') := (HBb.out.ext HE2.out).cell 14
  clear hb2 a13 b13
  go_wp2_with (go_at_call 110; refine (alikeRecs B B' d d' _).mono ?_; rintro e w' ⟨rfl, rfl⟩)
  go_ret
  exact ⟨rfl, ext_call HE.out HE2.out⟩

end Go.Proofs.YtimoapjhepmehaaGreatDoor
