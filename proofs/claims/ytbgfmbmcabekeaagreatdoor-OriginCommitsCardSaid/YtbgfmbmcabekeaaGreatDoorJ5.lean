/-
  Part 5 of 17: the contracts that the proof of the last part uses; each stands under its own head.
-/
import Derived.Test.YtbgfmbmcabekeaaGreatDoorJ3
import Derived.Test.YtbgfmbmcabekeaaGreatDoorJ4
import Derived.Test.YtbgfmbmcabekeaaGreatDoorJ2
import Derived.Stop.RegionWithIn
import Derived.Test.YtbgfmbmcabekeaaGreatDoorJ1
import Derived.Lib.SliceRun
import Derived.OrdersHeld
import Derived.Deep.RegionHeld3
set_option linter.unusedSimpArgs false
set_option linter.unusedVariables false

/-
  package statetree: orderOf, orders, summaries, Root, at a state of no row and of the law's own row.
-/
namespace Go.Proofs.YtbgfmbmcabekeaaGreatDoor
open Go.RowKit
attribute [local go_sem ↓] Go.wp_at_zero Go.wp_at_succ

def rowEnc : ByteArray := encS [0, 5, 1, 2, 3]
theorem rowEnc_size : rowEnc.size = 5 := by unfold rowEnc; rw [encS_size]; rfl
theorem rowEncode' (w : World) : Calls Tryz.prog 190 #[.agg #[.int .i64 0, .int .i64 5, .int .i64 1, .int .i64 2, .int .i64 3]] w fun e w' => e = .returned (.tuple #[.string rowEnc, .int .i64 0]) ∧ Below w.heap.size w w' := rowEncode w
/-- the rows of an order, and their encodings -/
def ents (hit : Bool) : List ByteArray := if hit then [rowEnc] else []
def OrderAt (w : World) (hit : Bool) (v1 v2 : Value) : Prop := RowsAt w hit v1 ∧ Strs (fun _ => True) w v2 (ents hit)
theorem OrderAt.ext {w W : World} {hit : Bool} {v1 v2 : Value} (h : OrderAt w hit v1 v2) (k : Below w.heap.size w W) : OrderAt W hit v1 v2 := ⟨h.1.ext k, h.2.below k⟩
theorem hitF_all (t : Int) (j : Nat) (hj : j < 4) : hitF t j (-1000000000) 1000000000 = ((0 : Int) == t) := by
  have h : ∀ j : Fin 4, decide ((-1000000000 : Int) ≤ theRow.col j.1) = true ∧ decide (theRow.col j.1 ≤ (1000000000 : Int)) = true := by decide
  unfold hitF
  rw [(h ⟨j, hj⟩).1, (h ⟨j, hj⟩).2]
  simp

theorem row_cells {w : World} {g : Nat} {zs : Array Value} (h : Blk w g 77 (#[.int .i64 0, .int .i64 5, .int .i64 1, .int .i64 2, .int .i64 3] ++ zs)) : w.cell? ⟨g, 0, none⟩ = some (.int .i64 0) ∧ w.cell? ⟨g, 1, none⟩ = some (.int .i64 5) ∧ w.cell? ⟨g, 2, none⟩ = some (.int .i64 1) ∧ w.cell? ⟨g, 3, none⟩ = some (.int .i64 2) ∧ w.cell? ⟨g, 4, none⟩ = some (.int .i64 3) :=
  ⟨(h.cell 0).trans (by simp [Array.getElem?_append]), (h.cell 1).trans (by simp [Array.getElem?_append]), (h.cell 2).trans (by simp [Array.getElem?_append]), (h.cell 3).trans (by simp [Array.getElem?_append]), (h.cell 4).trans (by simp [Array.getElem?_append])⟩
theorem strs_one {w : World} {g c : Nat} {x : ByteArray} (hc : 1 ≤ c) (h : w.cell? ⟨g, 0, none⟩ = some (.string x)) : Strs (fun _ => True) w (.slice (some ⟨g, 0, none⟩) 1 c) [x] :=
  ⟨_, c, rfl, hc, fun _ => ⟨g, 0, rfl, trivial, fun j y hy => by
    match j, hy with
    | 0, hy => simp at hy; subst hy; exact h⟩⟩

set_option maxRecDepth 100000 in
set_option maxHeartbeats 1000000 in
theorem orderOf_any (one : Bool) (gs gm j : Nat) (pos t : Int) (hj : j < 4) (w : World) (hS : StateIs w one gs gm pos) :
    Calls Tryz.prog 149 #[.pointer (some ⟨gs, 0, none⟩), .int .i64 t, .int .i64 (j : Int)] w
      fun e w' => ∃ v1 v2, e = .returned (.agg #[v1, v2]) ∧ OrderAt w' (one && ((0 : Int) == t)) v1 v2 ∧ Below w.heap.size w w' := by
  have HS := Lib.hid hS
  clear hS
  obtain ⟨hit, hhit⟩ : ∃ hit, hit = (one && ((0 : Int) == t)) := ⟨_, rfl⟩
  rw [← hhit]
  have HH := Lib.hid (show (one && hitF t j (-1000000000) 1000000000) = hit by rw [hitF_all t j hj, hhit])
  clear hhit
  obtain ⟨is, his, hzs0, hzs1, hzs2⟩ := info_parts str_info
  go_enter Tryz.func149, Tryz.ntmps149
  go_wp2_with fail
  refine (range_any one gs gm j pos t _ _ hj _ (HS.out.ext (ext_new _ _))).mono ?_
  rintro e W1 ⟨v, rfl, hr1, hb1⟩
  rw [HH.out] at hr1
  have HB1 := Lib.hid ((Blk.new w 184 #[.slice none 0 0, .slice none 0 0]).ext hb1)
  have HE1 := Lib.hid (ext_call (ext_new w (.cells #[.slice none 0 0, .slice none 0 0] 184)) hb1)
  have b0 := HB1.out.cell 0
  have b1 := HB1.out.cell 1
  have f0 := HB1.out.frozen 0
  have f1 := HB1.out.frozen 1
  have bl := HB1.out.lt
  clear hb1
  rcases hr1 with ⟨rfl, rfl⟩ | ⟨rfl, g, c, zs, rfl, hc, hB⟩
  · go_wp2
    refine wp_loop_rounds 1 ?_
    rw [rounds_succ]
    go_wp2
    have hBf := ((HB1.out.set_ 0 (.slice none 0 0)).set_ 1 (.slice none 0 0)).alloc (.cells #[.slice none 0 0, .slice none 0 0] 184)
    have y0 := hBf.cell 0; have y1 := hBf.cell 1
    refine bodyPost_ret (v := .agg #[.slice none 0 0, .slice none 0 0]) (by simp [results, Tryz.results149, go_sem, y0, y1]) rfl ⟨_, _, rfl, ⟨.inl ⟨rfl, rfl⟩, Strs.nil_ _ _⟩, ?_⟩
    exact ext_alloc (ext_set (ext_set HE1.out (by simp) _) (by simp) _) _
  · have HX := Lib.hid hB
    obtain ⟨x0, x1, x2, x3, x4⟩ := row_cells hB
    have xl := hB.lt
    clear hB
    go_wp2
    refine wp_loop_rounds 2 ?_
    rw [rounds_succ]
    go_wp2_with fail
    refine (rowEncode' _).mono ?_
    rintro e W2 ⟨rfl, hb2⟩
    have HB2 := Lib.hid (((HB1.out.alloc _).alloc _).ext hb2)
    have HX2 := Lib.hid (((HX.out.alloc _).alloc _).ext hb2)
    have HO2 := Lib.hid (((Blk.new W1 184 #[.slice (some ⟨g, 0, none⟩) 1 c, .slice none 0 0]).alloc _).ext hb2)
    have HE2 := Lib.hid (ext_call (ext_alloc (ext_alloc HE1.out _) _) hb2)
    clear hb2 b0 b1 f0 f1 bl x0 x1 x2 x3 x4 xl
    have o0 := HO2.out.cell 0
    have o1 := HO2.out.cell 1
    have f1 := HO2.out.frozen 1
    have ol := HO2.out.lt
    go_wp2
    have hcap : 1 ≤ (Question.appendCap 1 0 9).cut (W2.tape W2.drawn (Question.appendCap 1 0 9)) := grownCap_ge W2 1 0 9
    revert hcap
    generalize (Question.appendCap 1 0 9).cut (W2.tape W2.drawn (Question.appendCap 1 0 9)) = cap
    intro hcap
    have hlt := HE1.out.size
    have hgl := HX2.out.lt
    have hbl := HB1.out.lt
    have hne : g ≠ W1.heap.size := by have := HX.out.lt; omega
    generalize hW3 : World.drew (World.alloc (World.alloc (W2.setCell ⟨W1.heap.size, 1, none⟩ (.slice (some ⟨W2.heap.size + 1, 0, none⟩) 1 cap)) (.cells #[.string rowEnc] 9)) (.cells (#[.string rowEnc] ++ Builtin.zeroCells #[.string ⟨#[]⟩] (cap - 1)) 9)) = W3
    have HO3 := Lib.hid (show Blk W3 W1.heap.size 184 #[.slice (some ⟨g, 0, none⟩) 1 c, .slice (some ⟨W2.heap.size + 1, 0, none⟩) 1 cap] by subst hW3; exact (((HO2.out.set_ 1 _).alloc _).alloc _).drew)
    have HB3 := Lib.hid (show Blk W3 w.heap.size 184 #[.slice none 0 0, .slice none 0 0] by subst hW3; exact (((HB2.out.far (by show _ ≠ W1.heap.size; omega) _).alloc _).alloc _).drew)
    have HX3 := Lib.hid (show Blk W3 g 77 (#[.int .i64 0, .int .i64 5, .int .i64 1, .int .i64 2, .int .i64 3] ++ zs) by subst hW3; exact (((HX2.out.far (by show _ ≠ W1.heap.size; exact hne) _).alloc _).alloc _).drew)
    have HN3 := Lib.hid (show Blk W3 (W2.heap.size + 1) 9 (#[.string rowEnc] ++ Builtin.zeroCells #[.string ⟨#[]⟩] (cap - 1)) by subst hW3; exact (Blk.new' _ _ _ (by simp)).drew)
    have HE3 := Lib.hid (show Below w.heap.size w W3 by subst hW3; exact (ext_alloc (ext_alloc (ext_set HE2.out (by show _ ≤ W1.heap.size; omega) _) _) _).drew)
    clear hW3 o0 o1 f1 ol hne
    have p0 := HO3.out.cell 0
    have p1 := HO3.out.cell 1
    have pl := HO3.out.lt
    have q0 := HB3.out.cell 0
    have q1 := HB3.out.cell 1
    have f0 := HB3.out.frozen 0
    have f1 := HB3.out.frozen 1
    rw [rounds_succ]
    go_wp2
    have hBf := (HB3.out.set_ 0 (.slice (some ⟨g, 0, none⟩) 1 c)).set_ 1 (.slice (some ⟨W2.heap.size + 1, 0, none⟩) 1 cap)
    have y0 := hBf.cell 0; have y1 := hBf.cell 1
    have hne : g ≠ w.heap.size := by
      rintro rfl
      have h1 := HX3.out
      have h2 := HB3.out
      unfold Blk at h1 h2
      have h3 := h2.symm.trans h1
      simp at h3
    refine bodyPost_ret (v := .agg #[.slice (some ⟨g, 0, none⟩) 1 c, .slice (some ⟨W2.heap.size + 1, 0, none⟩) 1 cap]) (by simp [results, Tryz.results149, go_sem, y0, y1]) rfl ⟨_, _, rfl, ⟨.inr ⟨rfl, _, _, _, rfl, hc, (HX3.out.far hne _).far hne _⟩, ?_⟩, ?_⟩
    · have hn : W2.heap.size + 1 ≠ w.heap.size := by have := HO2.out.lt; omega
      exact strs_one hcap ((((HN3.out.far hn _).far hn _).cell 0).trans (by simp [Array.getElem?_append]))
    · exact ext_set (ext_set HE3.out (by simp) _) (by simp) _

end Go.Proofs.YtbgfmbmcabekeaaGreatDoor

/-
  statetree.orders as an iterator of 16 rounds.
-/
namespace Go.Proofs.YtbgfmbmcabekeaaGreatDoor
open Go.RowKit Go.Shelf
attribute [local go_sem] Oper.semAt_some

/-- what the iterator reads -/
def OrdC (one : Bool) (Bs gs gm : Nat) (pos : Int) (W : World) : Prop := W.cell? ⟨Bs, 0, none⟩ = some (.pointer (some ⟨gs, 0, none⟩)) ∧ StateIs W one gs gm pos
/-- what it hands out -/
def OrdM (one : Bool) (k : Nat) (xs : Array Value) (W : World) : Prop := ∃ v1 v2, xs = #[.agg #[v1, v2]] ∧ OrderAt W (one && decide (k < 4)) v1 v2

theorem hit_eq (one : Bool) (t c : Nat) (hc : c < 4) : (one && ((0 : Int) == (t : Int))) = (one && decide (4 * t + c < 4)) := by
  congr 1
  by_cases h : t = 0
  · subst h; simp [hc]
  · have h1 : ¬ (4 * t + c < 4) := by omega
    have h2 : ¬ ((0 : Int) = (t : Int)) := by omega
    simp [h1, h2]

def OrdPost (J : Nat → World → Prop) (e : Ending) (W' : World) : Prop := (∃ v, e = .returned v) ∧ J 16 W'

set_option maxRecDepth 100000 in
set_option maxHeartbeats 1000000 in
theorem orders_in (n : Nat) (hn : 1 ≤ n) (one : Bool) (l Bs gs gm : Nat) (pos : Int) (J : Nat → World → Prop) (hC : ∀ k W, J k W → OrdC one Bs gs gm pos W) (hA : ∀ k A B, J k A → Below A.heap.size A B → J k B)
    (hY : ∀ k xs W1, k < 16 → J k W1 → OrdM one k xs W1 → YieldAt Fence.wide (n - 1) Tryz.prog l xs W1 fun e W' => e = .returned (.bool true) ∧ J (k + 1) W')
    (W : World) (h0 : J 0 W) :
    CallsIn Fence.wide n Tryz.prog 148 #[.func (.yield l) #[] #[], .pointer (some ⟨Bs, 0, none⟩)] W (OrdPost J) := by
  have HC := Lib.hid hC
  have HA := Lib.hid hA
  have HY := Lib.hid hY
  clear hC hA hY
  refine callsIn_of_wp Tryz.func148 rfl trivial ?_ rfl
  simp only [Tryz.ntmps148, List.size_toArray, List.length_cons, List.length_nil, Nat.reduceAdd, Nat.reduceSub, Array.replicate_succ, Array.replicate_zero, List.push_toArray, List.append_toArray, List.nil_append, List.cons_append]
  gi_wp2
  gi_loopw [5] (fun i wr => ∃ t : Nat, t ≤ 4 ∧ i = .int .i64 (t : Int) ∧ J (4 * t) wr) (fun i _ => (4 - intOf i).toNat)
  case atStart => exact ⟨0, Nat.zero_le _, by simp, h0⟩
  case round =>
    obtain ⟨t, ht, rfl, hJt⟩ := hrel
    by_cases hlt : t < 4
    · have hlt' : (t : Int) < 4 := by omega
      gi_wp2
      gi_loopw [8] (fun i wr => ∃ c : Nat, c ≤ 4 ∧ i = .int .i64 (c : Int) ∧ J (4 * t + c) wr) (fun i _ => (4 - intOf i).toNat)
      case atStart => exact ⟨0, Nat.zero_le _, by simp, hJt⟩
      case round =>
        obtain ⟨c, hc, rfl, hJc⟩ := hrel
        by_cases hlc : c < 4
        · have hlc' : (c : Int) < 4 := by omega
          have HJc := Lib.hid hJc
          have cs := (HC.out _ _ hJc).1
          clear hJc
          gi_wp2_with fail
          refine ⟨trivial, (callsIn_wide.2 (orderOf_any one gs gm c pos (t : Int) hlc wr (HC.out _ _ HJc.out).2)).mono ?_⟩
          rintro e W1 ⟨v1, v2, rfl, hO1, hb1⟩
          rw [hit_eq one t c hlc] at hO1
          obtain ⟨fn, tmps, assign, body, hy, hR⟩ := HY.out (4 * t + c) #[.agg #[v1, v2]] W1 (by omega) (HA.out _ _ _ HJc.out hb1) ⟨v1, v2, rfl, hO1⟩
          clear hO1 hb1 cs
          gi_wp2
          refine hR.mono ?_
          rintro e W3 ⟨rfl, hJ3⟩
          have HJ3 := Lib.hid hJ3
          clear hJ3
          gi_wp2
          go_roundw
          case rel => exact ⟨c + 1, by omega, by go_num, HJ3.out⟩
          case measure => simp [intOf]; omega
        · have hlc' : ¬ (c : Int) < 4 := by omega
          have HJt := Lib.hid (show J (4 * (t + 1)) wr by rw [show 4 * (t + 1) = 4 * t + c by omega]; exact hJc)
          clear hJc
          gi_wp2
          go_roundw
          case rel => exact ⟨t + 1, by omega, by go_num, HJt.out⟩
          case measure => simp [intOf]; omega
    · have hlt' : ¬ (t : Int) < 4 := by omega
      have HJt := Lib.hid (show J 16 wr by rw [show 16 = 4 * t by omega]; exact hJt)
      clear hJt
      gi_wp2
      go_end0
      exact ⟨⟨_, rfl⟩, HJt.out⟩

theorem orders_seq (n : Nat) (hn : 1 ≤ n) (one : Bool) (Bs gs gm : Nat) (pos : Int) :
    SeqMem n Tryz.prog 148 #[.pointer (some ⟨Bs, 0, none⟩)] 16 (OrdC one Bs gs gm pos) (OrdM one) :=
  fun l J W hC hA hY h0 => orders_in n hn one l Bs gs gm pos J hC hA hY W h0

set_option maxHeartbeats 400000 in
theorem orders_any (gs : Nat) (w : World) :
    Calls Tryz.prog 102 #[.pointer (some ⟨gs, 0, none⟩)] w fun e w' =>
      e = .returned (.func (.func 148) #[] #[.pointer (some ⟨w.heap.size, 0, none⟩)]) ∧ w.alloc (.cells #[.pointer (some ⟨gs, 0, none⟩)] 69) = w' := by
  have hmf : ∀ (fn : Fn) (first cap : Array Value) (w : World), (Instr.makeFunc fn first cap).run Tryz.prog w = .ok (.func fn first cap) w := fun _ _ _ _ => rfl
  go_enter Tryz.func102, Tryz.ntmps102
  go_wp2
  go_ret
  exact ⟨rfl, rfl⟩

end Go.Proofs.YtbgfmbmcabekeaaGreatDoor

/-
  statetree.summaries, statetree.Root.
-/
namespace Go.Proofs.YtbgfmbmcabekeaaGreatDoor
open Go.RowKit Go.Shelf
attribute [local go_sem] run_semAt
attribute [local go_sem high] app_sem

def sumE (hit : Bool) : ByteArray := byteS (2 * (ents hit).length) ++ rootF (ents hit)
def sums (one : Bool) (k : Nat) : List ByteArray := (List.range k).map fun i => sumE (one && decide (i < 4))
theorem sums_succ (one : Bool) (k : Nat) : sums one (k + 1) = sums one k ++ [sumE (one && decide (k < 4))] := by simp [sums, List.range_succ]
theorem sums_length (one : Bool) (k : Nat) : (sums one k).length = k := by simp [sums]
theorem ents_length (hit : Bool) : (ents hit).length ≤ 1 := by cases hit <;> simp [ents]

theorem foldBack_size (l : List ByteArray) (h : ∀ p ∈ l, p.size = 32) (hne : l ≠ []) : (foldBack l).size = 32 := by
  unfold foldBack
  have hz : (l.getLast?.getD ⟨#[]⟩).size = 32 := by
    rw [List.getLast?_eq_some_getLast hne]
    exact h _ (List.getLast_mem hne)
  generalize l.getLast?.getD ⟨#[]⟩ = z at *
  generalize l.dropLast = d
  cases d with
  | nil => exact hz
  | cons x d => rw [List.foldr_cons]; exact nodeF_size _ _
theorem rootF_size (l : List ByteArray) : (rootF l).size = 32 := by
  unfold rootF
  by_cases h : l = []
  · rw [if_pos h]; exact sumF_size _
  · rw [if_neg h]
    have hok := stackTo_ok l l.length
    refine foldBack_size _ (fun p hp => ?_) (fun he => ?_)
    · obtain ⟨q, hq, rfl⟩ := List.mem_map.1 hp
      exact (hok.2 q hq).1
    · have h1 := hok.1
      have h2 : stackTo l l.length = [] := by simpa using he
      rw [h2] at h1
      exact h (List.length_eq_zero_iff.1 h1.symm)
theorem byteS_size (n : Nat) : (byteS n).size = 1 := rfl

theorem OwnP.rows {B : Nat} {hit : Bool} {v : Value} : OwnP B (fun W => RowsAt W hit v) := fun _ X Y row hs hg hr => by
  rcases hs with h | ⟨h1, g, c, zs, h2, h3, h4⟩
  · exact .inl h
  · exact .inr ⟨h1, g, c, zs, h2, h3, OwnP.blk (B := B) () X Y row h4 hg hr⟩
theorem OwnP.strs {B : Nat} {S : Nat → Prop} {v : Value} {l : List ByteArray} : OwnP B (fun W => Strs S W v l) := fun _ X Y row hs hg hr => by
  obtain ⟨A, c, rfl, hc, h⟩ := hs
  refine ⟨A, c, rfl, hc, fun h0 => ?_⟩
  obtain ⟨b, off, hA, hb, hcell⟩ := h h0
  exact ⟨b, off, hA, hb, fun j x hx => cell_kept (hcell j x hx) hg (fun r e => (hr r e).2)⟩
theorem OwnP.state {B gs gm : Nat} {one : Bool} {pos : Int} (h : gm < B) : OwnP B (fun W => StateIs W one gs gm pos) := OwnP.and OwnP.blk (OwnP.map h)

theorem order_slices {W : World} {hit : Bool} {v1 v2 : Value} (h : OrderAt W hit v1 v2) : ∃ A1 n1 c1 A2 n2 c2, v1 = .slice A1 n1 c1 ∧ v2 = .slice A2 n2 c2 := by
  obtain ⟨h1, A, c, rfl, _⟩ := h
  rcases h1 with ⟨_, rfl⟩ | ⟨_, g, c', zs, rfl, _⟩
  · exact ⟨_, _, _, _, _, _, rfl, rfl⟩
  · exact ⟨_, _, _, _, _, _, rfl, rfl⟩

theorem undrew {W W' : World} (h : Below W.drew.heap.size W.drew W') : Below W.heap.size W W' := ⟨h.os, h.tape, h.output, h.size, h.block⟩
theorem own_below {W W' : World} {base e size n : Nat} {v : Value} {xs : List Value} (h : W.ownsRow base e size v n xs) (hb : Below W.heap.size W W') : W'.ownsRow base e size v n xs :=
  h.kept (below_grown hb) (by by_cases h : v.ownBlock = none; exact .inl h; exact .inr h)
theorem str_infoS : ∃ i, Tryz.prog.info? 9 = some i ∧ i.zero = some (.string ⟨#[]⟩) ∧ i.size = 1 ∧ i.bytes = 16 := by
  obtain ⟨is, his, hzs0, hzs1, hzs2⟩ := info_parts str_info
  exact ⟨is, his, hzs0, hzs1, hzs2⟩

/-- what the append of a round leaves -/
theorem sums_after {W : World} {base B k : Nat} {v : Value} {xs : List Value} (s : ByteArray) (hV : Boxed W B 89 v) (hRow : W.ownsRow base 9 1 v k xs) (hb : base ≤ W.heap.size) (hB : base ≤ B) (hk : k < 1000) :
    AppOK Tryz.prog (W.alloc (.cells #[.string s] 9)) 89 89 v (.slice (some ⟨W.heap.size, 0, none⟩) 1 1) ∧ ∃ g cap W3, appV Tryz.prog (W.alloc (.cells #[.string s] 9)) 89 89 v (.slice (some ⟨W.heap.size, 0, none⟩) 1 1) = .slice (some ⟨g, 0, none⟩) (k + 1) cap ∧
      appW Tryz.prog (W.alloc (.cells #[.string s] 9)) 89 89 v (.slice (some ⟨W.heap.size, 0, none⟩) 1 1) = W3 ∧ Boxed W3 B 89 v ∧
      Boxed (W3.setCell ⟨B, 0, none⟩ (.slice (some ⟨g, 0, none⟩) (k + 1) cap)) B 89 (.slice (some ⟨g, 0, none⟩) (k + 1) cap) ∧ (W3.setCell ⟨B, 0, none⟩ (.slice (some ⟨g, 0, none⟩) (k + 1) cap)).ownsRow base 9 1 (.slice (some ⟨g, 0, none⟩) (k + 1) cap) (k + 1) (xs ++ [.string s]) ∧
      KeepsOthers W (W3.setCell ⟨B, 0, none⟩ (.slice (some ⟨g, 0, none⟩) (k + 1) cap)) ∧ Below base W (W3.setCell ⟨B, 0, none⟩ (.slice (some ⟨g, 0, none⟩) (k + 1) cap)) ∧
      ∀ b t cs, Blk W b t cs → t ≠ 9 → b ≠ B → Blk (W3.setCell ⟨B, 0, none⟩ (.slice (some ⟨g, 0, none⟩) (k + 1) cap)) b t cs := by
  obtain ⟨is, his, hzs0, hzs1, hzs2⟩ := str_infoS
  obtain ⟨ha, ho, hg⟩ := app_own (P := Tryz.prog) (w := W.alloc (.cells #[.string s] 9)) base 89 89 9 is (.string ⟨#[]⟩) 1 16 Tryz.underlying89 his hzs0 hzs1 hzs2 rfl (by decide) v k xs (hRow.alloc _) ⟨W.heap.size, 0, none⟩ 1 1 [.string s] rfl (cell_one_new _ _ _) (by simp [Value.oneCell']) (by unfold maxLen; omega) (by omega) (by simp; omega)
  refine ⟨ha, ?_⟩
  generalize appV Tryz.prog (W.alloc (.cells #[.string s] 9)) 89 89 v (.slice (some ⟨W.heap.size, 0, none⟩) 1 1) = v' at *
  generalize appW Tryz.prog (W.alloc (.cells #[.string s] 9)) 89 89 v (.slice (some ⟨W.heap.size, 0, none⟩) 1 1) = W3 at *
  obtain ⟨g', cap', rfl⟩ := ownsRow_succ ho
  obtain ⟨hv1, hv2, hr2, hk2, hb2⟩ := hV.appended (by decide) hRow hb hB ho hg
  refine ⟨g', cap', W3, rfl, rfl, hv1, hv2, hr2, hk2, hb2, fun b t cs hB' ht hne => ((hB'.alloc _).grown hg (fun e => ?_)).far hne _⟩
  rcases hRow.2 with ⟨rfl, _⟩ | ⟨g, cap, cur, rfl, _, hgb, _⟩
  · simp [Value.ownBlock] at e
  · obtain rfl : b = g := by simpa [Value.ownBlock] using e
    unfold Blk at hB'
    rw [hgb] at hB'
    simp at hB'
    exact ht hB'.2.symm

/-- what is known between two rounds -/
def SumsI (one : Bool) (w : World) (gs gm : Nat) (pos : Int) (k : Nat) (W : World) : Prop :=
  (∃ v, Boxed W w.heap.size 89 v ∧ W.ownsRow w.heap.size 9 1 v k ((sums one k).map Value.string) ∧ True) ∧ Below w.heap.size w W ∧ Blk W (w.heap.size + 1) 69 #[.pointer (some ⟨gs, 0, none⟩)] ∧ StateIs W one gs gm pos ∧ RoundOK W
theorem SumsI.own (one : Bool) (w : World) (gs gm : Nat) (pos : Int) (k B : Nat) (hB : w.heap.size ≤ B) (hg : gm < B) : OwnP B (SumsI one w gs gm pos k) :=
  OwnP.and (Own.from (holdsRow_own w.heap.size w.heap.size 89 9 1 (fun _ : Unit => k) (fun _ : Unit => (sums one k).map Value.string) (fun _ _ => True)) B)
    (OwnP.and (OwnP.below (Nat.le_refl _) hB) (OwnP.and OwnP.blk (OwnP.and (OwnP.state hg) OwnP.round)))

theorem keeps_below {W W' : World} (h : Below W.heap.size W W') : KeepsOthers W W' := ⟨h.size, fun k _ hk _ => (h.block k (Array.getElem?_eq_some_iff.1 hk).1).trans hk⟩
theorem sums_round {one : Bool} {w W W1 W2 W' : World} {gs gm k B : Nat} {pos : Int} {v : Value} (hS : StateIs w one gs gm pos) (hR : RoundOK w) (hI : Below w.heap.size w W1 ∧ Blk W1 (w.heap.size + 1) 69 #[.pointer (some ⟨gs, 0, none⟩)] ∧ StateIs W1 one gs gm pos ∧ RoundOK W1)
    (h1 : Below W.heap.size W W1) (h2 : Below W1.heap.size W1 W2) (hk : KeepsOthers W2 W') (hb : Below w.heap.size W2 W') (hv : Boxed W' w.heap.size 89 v) (hr : W'.ownsRow w.heap.size 9 1 v (k + 1) ((sums one (k + 1)).map Value.string))
    (ho : Blk W' (w.heap.size + 1) 69 #[.pointer (some ⟨gs, 0, none⟩)]) : KeepsFrom B W W' ∧ SumsI one w gs gm pos (k + 1) W' := by
  have hE : Below w.heap.size w W' := (ext_call hI.1 h2).trans hb
  exact ⟨(((keeps_below h1).trans (keeps_below h2)).trans hk).from _, ⟨v, hv, hr, trivial⟩, hE, ho, hS.ext hE, hR.below hE⟩

set_option maxHeartbeats 1000000 in
set_option maxRecDepth 100000 in
theorem summaries_any (one : Bool) (gs gm : Nat) (pos : Int) (w : World) (hS : StateIs w one gs gm pos) (hR : RoundOK w) :
    Calls Tryz.prog 59 #[.pointer (some ⟨gs, 0, none⟩)] w fun e w' => ∃ v, e = .returned v ∧ Strs (fun b => w.heap.size ≤ b) w' v (sums one 16) ∧ Below w.heap.size w w' := by
  have HS := Lib.hid hS
  have HR := Lib.hid hR
  have hgm := hS.2.lt
  obtain ⟨is, his, hzs0, hzs1, hzs2⟩ := info_parts str_info
  clear hS hR
  refine (callsIn_wide (n := 3)).1 (callsIn_of_wp_marks Tryz.func59 rfl trivial (wpIn_wide.2 ?_) rfl)
  simp only [Tryz.ntmps59, List.size_toArray, List.length_cons, List.length_nil, Nat.reduceAdd, Nat.reduceSub, Array.replicate_succ, Array.replicate_zero, List.push_toArray, List.append_toArray, List.nil_append, List.cons_append]
  go_wp2_with (go_at_call 102; refine (orders_any gs _).mono ?_; rintro e W2 ⟨rfl, rfl⟩)
  have hE0 : Below w.heap.size w ((w.alloc (.cells #[.slice none 0 0] 89)).alloc (.cells #[.pointer (some ⟨gs, 0, none⟩)] 69)) := ext_alloc (ext_new _ _) _
  have hI0 : SumsI one w gs gm pos 0 ((w.alloc (.cells #[.slice none 0 0] 89)).alloc (.cells #[.pointer (some ⟨gs, 0, none⟩)] 69)) :=
    ⟨⟨_, (Boxed.new _ _ _).alloc _, World.ownsRow_nil _ _ _ _, trivial⟩, hE0, Blk.new' _ _ _ (by simp), HS.out.ext hE0, HR.out.below hE0⟩
  refine (wpIn_wide (n := 3)).1 ?_
  refine' wpIn_mem_box2 (by omega) (gf := 148) (lb := #[.pointer (some ⟨w.heap.size + 1, 0, none⟩)]) (by simp [Act.eval]) (enters_of Tryz.func148 (by kernel_rfl) rfl)
    (M := fun k v1 v2 W => OrderAt W (one && decide (k < 4)) v1 v2) (orders_seq 2 (by omega) one (w.heap.size + 1) gs gm pos) rfl
    (SumsI one w gs gm pos) (fun k => SumsI.own one w gs gm pos k _ (by simp; omega) (by simp; omega)) (fun k W h => ⟨h.2.2.1.cell 0, h.2.2.2.1⟩) hI0 (fun k v1 v2 => OwnP.and OwnP.rows OwnP.strs) (fun k v1 v2 W h => order_slices h) 184 _ ?assign ?body ?done
  case assign =>
    intro l h A1 n1 c1 A2 n2 c2 W K hh hK
    gi_wp2
    rw [← hh]
    exact hK
  case body =>
    rintro l h k A1 n1 c1 A n0 c W hk hsz hh hB ⟨hrows, hstr⟩ ⟨⟨v, hv, hrow, _⟩, hb, hcs, hst, hro⟩
    obtain ⟨hit, hhit⟩ : ∃ hit, hit = (one && decide (k < 4)) := ⟨_, rfl⟩
    have HSu := Lib.hid (show sums one (k + 1) = sums one k ++ [sumE hit] by rw [sums_succ, hhit])
    rw [← hhit] at hrows hstr
    clear hhit hrows
    have HStr := Lib.hid hstr
    have hE1 := ents_length hit
    have HEl := Lib.hid (show ∀ x ∈ ents hit, x.size ≤ 100000 by intro x hx; cases hit <;> simp [ents] at hx; rw [hx, rowEnc_size]; omega)
    obtain rfl : n0 = (ents hit).length := by
      obtain ⟨A', c', h', _⟩ := hstr
      injection h'
    obtain ⟨n, hn⟩ : ∃ n, n = (ents hit).length := ⟨_, rfl⟩
    have HSe := Lib.hid (show sumE hit = byteS (2 * n) ++ rootF (ents hit) by rw [hn]; rfl)
    rw [← hn] at HStr hE1 hB ⊢
    have HN := Lib.hid hn
    clear hn hstr
    have HB := Lib.hid hB
    have HV := Lib.hid hv
    have HRow := Lib.hid hrow
    have HI := Lib.hid (And.intro hb (And.intro hcs (And.intro hst hro)))
    have h0 := hB.cell 0
    have h1 := hB.cell 1
    have hl := hB.lt
    clear hB hv hrow hb hcs hst hro
    gi_wp2_with fail
    refine ⟨trivial, (CallsIn.inRound l (callsIn_wide.2 (putInt_any n (by omega) W))).mono ?_⟩
    rintro e W1 ⟨rfl, hb1⟩
    have HB1 := Lib.hid (HB.out.ext hb1)
    have HV1 := Lib.hid (HV.out.kept (below_grown hb1) (by simp))
    have HRow1 := Lib.hid (own_below HRow.out hb1)
    have HI1 := Lib.hid (show Below w.heap.size w W1 ∧ Blk W1 (w.heap.size + 1) 69 #[.pointer (some ⟨gs, 0, none⟩)] ∧ StateIs W1 one gs gm pos ∧ RoundOK W1 from ⟨ext_call HI.out.1 hb1, HI.out.2.1.ext hb1, HI.out.2.2.1.ext hb1, HI.out.2.2.2.below hb1⟩)
    have HK1 := Lib.hid hb1
    have HRoot := Lib.hid (show ∀ X : World, Below W1.heap.size W1 X → Calls Tryz.prog 58 #[.slice A n c] X fun e w' => e = .returned (.string (rootF (ents hit))) ∧ Below X.heap.size X w' from
      fun X hX => root_any (fun _ => True) _ _ X ((HStr.out.below HK1.out).below hX) (by rw [← HN.out]; omega) HEl.out (HI1.out.2.2.2.below hX))
    have hrs := rootF_size (ents hit)
    generalize rootF (ents hit) = rt at *
    have hsum : (byteS (2 * n)).size + rt.size ≤ 9223372036854775807 := by rw [byteS_size]; omega
    generalize byteS (2 * n) = s1 at *
    have hcat := fun W : World => run_string_add_sum (P := Tryz.prog) (w := W) s1 rt hsum
    clear h0 h1 hl hb1 hrs
    have h1 := HB1.out.cell 1
    have hl := HB1.out.lt
    have hv := HV1.out.cell
    have hvf := HV1.out.frozen
    have hvl := HV1.out.lt
    gi_wp2
    have hz1 : w.heap.size ≤ W1.heap.size := HI1.out.1.size
    gi_region_with (refine ⟨trivial, (CallsIn.inRound l (callsIn_wide.2 (HRoot.out _ ?_))).mono ?_⟩; (exact (ext_refl _).drew); rintro e W2 ⟨rfl, hb2⟩; obtain ⟨hok, g3, cap3, W3, hav, haw, hv3, hv4, hr4, hk4, hb4, ho4⟩ := sums_after (s1 ++ rt) (HV1.out.kept (below_grown (undrew hb2)) (by simp)) (own_below HRow1.out (undrew hb2)) (Nat.le_trans hz1 (undrew hb2).size) (Nat.le_refl _) (Nat.lt_trans hk (by decide)); have c2 := (cell_ext hv (undrew hb2)); have hvl2 : w.heap.size < W2.heap.size := lt_of_cell c2; have c3 := hv3.cell; have f3 := hv3.frozen; have HV4 := Lib.hid hv4; have HR4 := Lib.hid hr4; have HK4 := Lib.hid hk4; have HB4 := Lib.hid hb4; have HO4 := Lib.hid ho4; have HB2 := Lib.hid (undrew hb2); clear hb2 hv3 hv4 hr4 hk4 hb4 ho4)
    all_goals
      refine sums_round HS.out HR.out HI1.out HK1.out HB2.out HK4.out HB4.out HV4.out ?_ (HO4.out _ _ _ (HI1.out.2.1.ext HB2.out) (by decide) (by omega))
      rw [HSu.out, HSe.out, List.map_append]
      exact HR4.out
  case done =>
    rintro D W hD ⟨⟨v, hv, hrow, _⟩, hb, hcs, hst, hro⟩ hK
    have hvc := hv.cell
    have HRow := Lib.hid hrow
    have HBe := Lib.hid hb
    clear hrow hb hcs hst hro
    go_wp2
    refine ⟨by simp, .inl ⟨_, _, rfl, run_takeDeferred hK, ?_⟩⟩
    refine ⟨_, results_tmp rfl _ _ _, _, rfl, ?_, ?_⟩
    · obtain ⟨g, cap, rfl⟩ := ownsRow_succ HRow.out
      refine ⟨_, cap, rfl, ?_, fun _ => ⟨g, 0, rfl, ?_, fun j x hx => ?_⟩⟩
      · rw [sums_length]; exact own_cap HRow.out
      · exact (HRow.out.lt g rfl).1
      · have h1 := HRow.out.cells (g := g) rfl j (.string x) (by rw [List.getElem?_map, hx]; rfl)
        rw [add_lit0] at h1
        rw [Nat.zero_add]
        refine cell_kept h1 (grownBy_putObj' W D _) (fun r e => ?_)
        injection e with e
        subst e
        exact ⟨_, hK, rfl⟩
    · exact ext_put HBe.out (by simp at hD; omega) _

theorem sumE_size (hit : Bool) : (sumE hit).size = 33 := by unfold sumE; rw [ByteArray.size_append, byteS_size, rootF_size]
theorem sums_sizes (one : Bool) (k : Nat) : ∀ x ∈ sums one k, x.size ≤ 100000 := by
  intro x hx
  obtain ⟨i, _, rfl⟩ := List.mem_map.1 hx
  rw [sumE_size]; omega
/-- the root of a state of no row, of the law's own row -/
def stateF (one : Bool) : ByteArray := rootF (sums one 16)
theorem stateF_size (one : Bool) : (stateF one).size = 32 := rootF_size _

set_option maxHeartbeats 400000 in
theorem stateRoot (one : Bool) (gs gm : Nat) (pos : Int) (w : World) (hS : StateIs w one gs gm pos) (hR : RoundOK w) :
    Calls Tryz.prog 26 #[.pointer (some ⟨gs, 0, none⟩)] w fun e w' => e = .returned (.string (stateF one)) ∧ Below w.heap.size w w' := by
  have HS := Lib.hid hS
  have HR := Lib.hid hR
  clear hS hR
  have HF := Lib.hid (show rootF (sums one 16) = stateF one from rfl)
  generalize stateF one = sf at *
  go_enter Tryz.func26, Tryz.ntmps26
  go_wp2_with fail
  refine (summaries_any one gs gm pos w HS.out HR.out).mono ?_
  rintro e W1 ⟨v, rfl, hs1, hb1⟩
  have HS1 := Lib.hid hs1
  have HB1 := Lib.hid hb1
  clear hs1 hb1
  go_wp2_with fail
  refine (root_any _ v _ W1 HS1.out (by rw [sums_length]; omega) (sums_sizes one 16) (HR.out.below HB1.out)).mono ?_
  rw [HF.out]
  rintro e W2 ⟨rfl, hb2⟩
  go_wp2
  go_ret
  exact ⟨rfl, ext_call HB1.out hb2⟩

end Go.Proofs.YtbgfmbmcabekeaaGreatDoor

/-
  package logtree: valid, Encode, Next, New, own, Head.
-/
namespace Go.Proofs.YtbgfmbmcabekeaaGreatDoor
open Go.RowKit
attribute [local go_sem ↓] Go.wp_at_zero Go.wp_at_succ

theorem isDig (s : ByteArray) (hs : s.size = 32) (w : World) : Calls Tryz.prog 65 #[.string s] w fun e w' => e = .returned (.bool true) ∧ w = w' :=
  (logtree_isDigest s w).mono fun e w' h => ⟨by rw [h.1, hs]; rfl, h.2⟩

set_option maxRecDepth 100000 in
set_option maxHeartbeats 400000 in
theorem logValid (p : Nat) (c s : ByteArray) (hp : p ≤ 10000) (hc : c.size = 32) (hs : s.size = 32) (w : World) :
    Calls Tryz.prog 115 #[.agg #[.int .i64 (p : Int), .string c, .string s]] w fun e w' => e = .returned (.bool true) ∧ Below w.heap.size w w' := by
  have HC := Lib.hid hc
  have HSs := Lib.hid hs
  clear hc hs
  have q0 : (0 : Int) ≤ (p : Int) := by omega
  have q1 : (p : Int) ≤ 10000 := by omega
  go_enter Tryz.func115, Tryz.ntmps115
  go_wp2_with (go_at_call 65; first | (refine (isDig c HC.out _).mono ?_; rintro e w' ⟨rfl, rfl⟩) | (refine (isDig s HSs.out _).mono ?_; rintro e w' ⟨rfl, rfl⟩))
  go_ret
  exact ⟨rfl, ext_new _ _⟩

def headEnc (p : Nat) (c s : ByteArray) : ByteArray := (byteS (2 * p) ++ c) ++ s
theorem headEnc_size (p : Nat) (c s : ByteArray) (hc : c.size = 32) (hs : s.size = 32) : (headEnc p c s).size = 65 := by
  unfold headEnc; rw [ByteArray.size_append, ByteArray.size_append, byteS_size, hc, hs]

set_option maxRecDepth 100000 in
set_option maxHeartbeats 400000 in
theorem logEncode (p : Nat) (c s : ByteArray) (hp : p < 64) (hc : c.size = 32) (hs : s.size = 32) (w : World) :
    Calls Tryz.prog 184 #[.agg #[.int .i64 (p : Int), .string c, .string s]] w fun e w' => e = .returned (.tuple #[.string (headEnc p c s), .int .i64 0]) ∧ Below w.heap.size w w' := by
  have HC := Lib.hid hc
  have HSs := Lib.hid hs
  have HB0 := Lib.hid (Blk.new w 86 #[.int .i64 (p : Int), .string c, .string s])
  have HP := Lib.hid (fun W : World => putInt_any p hp W)
  have HF := Lib.hid (show headEnc p c s = (byteS (2 * p) ++ c) ++ s from rfl)
  generalize headEnc p c s = r at *
  have hsum1 : (byteS (2 * p)).size + c.size ≤ 9223372036854775807 := by rw [byteS_size]; omega
  have hsum2 : (byteS (2 * p) ++ c).size + s.size ≤ 9223372036854775807 := by rw [ByteArray.size_append, byteS_size]; omega
  generalize byteS (2 * p) = b at *
  have hcat1 := fun W : World => run_string_add_sum (P := Tryz.prog) (w := W) b c hsum1
  have hcat2 := fun W : World => run_string_add_sum (P := Tryz.prog) (w := W) (b ++ c) s hsum2
  clear hc hs
  go_enter Tryz.func184, Tryz.ntmps184
  go_wp2_with fail
  refine (logValid p c s (by omega) HC.out HSs.out _).mono ?_
  rintro e W1 ⟨rfl, hb1⟩
  have HB1 := Lib.hid (HB0.out.ext hb1)
  have HE1 := Lib.hid (ext_call (ext_new w _) hb1)
  have c0 := HB1.out.cell 0; have c1 := HB1.out.cell 1; have c2 := HB1.out.cell 2
  have l1 := HB1.out.lt
  clear hb1
  go_wp2_with fail
  refine (HP.out _).mono ?_
  rintro e W2 ⟨rfl, hb2⟩
  have HB2 := Lib.hid (HB1.out.ext hb2)
  have HE2 := Lib.hid (ext_call HE1.out hb2)
  clear hb2 c0 c1 c2 l1
  have c0 := HB2.out.cell 0; have c1 := HB2.out.cell 1; have c2 := HB2.out.cell 2
  have l1 := HB2.out.lt
  go_wp2
  go_ret2
  exact ⟨by rw [HF.out]; rfl, HE2.out⟩

def zeros32 : ByteArray := ⟨(Lib.repeatL (⟨#[0]⟩ : ByteArray).data.toList 32).toArray⟩
theorem zeros32_size : zeros32.size = 32 := by decide

/-- a log of no record: its own block, its heads' block -/
def Log0 (w : World) (gl : Nat) (z s : ByteArray) : Prop := ∃ gh, Blk w gl 144 #[.slice none 0 0, .slice (some ⟨gh, 0, none⟩) 1 1] ∧ Blk w gh 86 #[.int .i64 0, .string z, .string s]
theorem Log0.ext {w W : World} {gl : Nat} {z s : ByteArray} (h : Log0 w gl z s) (k : Below w.heap.size w W) : Log0 W gl z s := by
  obtain ⟨gh, h1, h2⟩ := h
  exact ⟨gh, h1.ext k, h2.ext k⟩

set_option maxRecDepth 100000 in
set_option maxHeartbeats 400000 in
theorem logNew (s : ByteArray) (hs : s.size = 32) (w : World) :
    Calls Tryz.prog 36 #[.string s] w fun e w' => ∃ gl, e = .returned (.tuple #[.pointer (some ⟨gl, 0, none⟩), .int .i64 0]) ∧ Log0 w' gl zeros32 s ∧ w.heap.size ≤ gl ∧ Below w.heap.size w w' := by
  have HSs := Lib.hid hs
  clear hs
  have HZ := Lib.hid (show ∀ W : World, Calls Tryz.prog 66 #[.string ⟨#[0]⟩, .int .i64 32] W fun e w' => e = .returned (.string zeros32) ∧ Below W.heap.size W w' from fun W => Tryz.strings_Repeat_main ⟨#[0]⟩ 32 W (by omega) (by omega) (by decide) (by decide))
  generalize zeros32 = z at *
  go_enter Tryz.func36, Tryz.ntmps36
  go_wp2_with (first | (go_at_call 65; refine (isDig s HSs.out _).mono ?_; rintro e w' ⟨rfl, rfl⟩) | (go_at_call 66; refine (HZ.out _).mono ?_; rintro e W1 ⟨rfl, hb1⟩; have HB1 := Lib.hid hb1; clear hb1))
  go_ret2
  exact ⟨_, rfl, ⟨_, Blk.new' _ _ _ (by simp), (Blk.new' _ _ _ rfl).alloc _⟩, by have := HB1.out.size; omega, ext_alloc (ext_alloc HB1.out _) _⟩

end Go.Proofs.YtbgfmbmcabekeaaGreatDoor

/-
  package logtree: Next, own, Head, Append.
-/
namespace Go.Proofs.YtbgfmbmcabekeaaGreatDoor
open Go.RowKit
attribute [local go_sem ↓] Go.wp_at_zero Go.wp_at_succ

def recEnc : ByteArray := encS [1, 1, 0, 5, 2, 1, 2, 3]
theorem recEnc_size : recEnc.size = 8 := by unfold recEnc; rw [encS_size]; rfl
theorem encRecord' (w : World) (b c : Nat) (hB : HeadB w b #[.int .i64 0, .int .i64 5, .bool false, .int .i64 0, .int .i64 0, .int .i64 0, .bool true, .int .i64 1, .int .i64 2, .int .i64 3]) : Calls Tryz.prog 114 #[.agg #[.int .i64 1, .slice (some ⟨b, 0, none⟩) 1 c]] w fun e w' => e = .returned (.tuple #[.string recEnc, .int .i64 0]) ∧ Below w.heap.size w w' := encRecord w b c hB

set_option maxRecDepth 100000 in
set_option maxHeartbeats 1000000 in
theorem logNext (z s t : ByteArray) (hz : z.size = 32) (hs : s.size = 32) (ht : t.size = 32) (b c : Nat) (w : World) (hB : HeadB w b #[.int .i64 0, .int .i64 5, .bool false, .int .i64 0, .int .i64 0, .int .i64 0, .bool true, .int .i64 1, .int .i64 2, .int .i64 3]) (hR : RoundOK w) :
    Calls Tryz.prog 75 #[.agg #[.int .i64 0, .string z, .string s], .agg #[.int .i64 1, .slice (some ⟨b, 0, none⟩) 1 c], .string t] w
      fun e w' => e = .returned (.tuple #[.agg #[.int .i64 1, .string (chainF z recEnc), .string t], .int .i64 0]) ∧ Below w.heap.size w w' := by
  have HZs := Lib.hid hz
  have HSs := Lib.hid hs
  have HTs := Lib.hid ht
  have HR := Lib.hid hR
  have HCh := Lib.hid (show ∀ W : World, RoundOK W → Calls Tryz.prog 116 #[.string z, .string recEnc] W fun e w' => e = .returned (.string (chainF z recEnc)) ∧ Below W.heap.size W w' from fun W h => chain_any z recEnc W h (by omega) (by rw [recEnc_size]; omega))
  have HEr := Lib.hid (fun (W : World) (h : HeadB W b #[.int .i64 0, .int .i64 5, .bool false, .int .i64 0, .int .i64 0, .int .i64 0, .bool true, .int .i64 1, .int .i64 2, .int .i64 3]) => encRecord' W b c h)
  generalize chainF z recEnc = cz at *
  generalize recEnc = re at *
  obtain ⟨W0, hW0⟩ : ∃ W0, W0 = ((w.alloc (.cells #[.int .i64 0, .string z, .string s] 86)).alloc (.cells #[.int .i64 1, .slice (some ⟨b, 0, none⟩) 1 c] 46)).alloc (.cells #[.int .i64 0, .string ⟨#[]⟩, .string ⟨#[]⟩] 86) := ⟨_, rfl⟩
  have HE0 := Lib.hid (show Below w.heap.size w W0 by rw [hW0]; exact ext_alloc (ext_alloc (ext_new _ _) _) _)
  have HH0 := Lib.hid (show Blk W0 w.heap.size 86 #[.int .i64 0, .string z, .string s] by rw [hW0]; exact ((Blk.new _ _ _).alloc _).alloc _)
  have HR0 := Lib.hid (show Blk W0 (w.heap.size + 1) 46 #[.int .i64 1, .slice (some ⟨b, 0, none⟩) 1 c] by rw [hW0]; exact (Blk.new' _ _ _ (by simp)).alloc _)
  have HO0 := Lib.hid (show Blk W0 (w.heap.size + 1 + 1) 86 #[.int .i64 0, .string ⟨#[]⟩, .string ⟨#[]⟩] by rw [hW0]; exact Blk.new' _ _ _ (by simp))
  have HB := Lib.hid (hB.ext HE0.out)
  have HW0 := Lib.hid hW0
  clear hz hs ht hB hR hW0
  go_enter Tryz.func75, Tryz.ntmps75
  go_wp2_with fail
  rw [← HW0.out]
  refine (HEr.out _ HB.out).mono ?_
  rintro e W1 ⟨rfl, hb1⟩
  have HH1 := Lib.hid (HH0.out.ext hb1)
  have HR1 := Lib.hid (HR0.out.ext hb1)
  have HO1 := Lib.hid (HO0.out.ext hb1)
  have HE1 := Lib.hid (ext_call HE0.out hb1)
  have c0 := HH1.out.cell 0; have c1 := HH1.out.cell 1; have c2 := HH1.out.cell 2
  clear hb1
  go_wp2_with fail
  refine (logValid 0 z s (by omega) HZs.out HSs.out _).mono ?_
  rintro e W2 ⟨rfl, hb2⟩
  have HH2 := Lib.hid (HH1.out.ext hb2)
  have HR2 := Lib.hid (HR1.out.ext hb2)
  have HO2 := Lib.hid (HO1.out.ext hb2)
  have HE2 := Lib.hid (ext_call HE1.out hb2)
  clear hb2 c0 c1 c2
  have c0 := HH2.out.cell 0; have c1 := HH2.out.cell 1; have c2 := HH2.out.cell 2
  have r0 := HR2.out.cell 0; have r1 := HR2.out.cell 1
  have o0 := HO2.out.cell 0; have o1 := HO2.out.cell 1; have o2 := HO2.out.cell 2
  have f0 := HO2.out.frozen 0
  have f1 := HO2.out.frozen 1
  have f2 := HO2.out.frozen 2
  go_wp2_with (go_at_call 65; refine (isDig t HTs.out _).mono ?_; rintro e w' ⟨rfl, rfl⟩)
  go_region_with (go_at_call 116; refine (HCh.out _ ?_).mono ?_; (exact (HR.out.below HE2.out.drew)); rintro e W3 ⟨rfl, hb3⟩; have HH3 := Lib.hid (HH2.out.ext (undrew hb3)); have HR3 := Lib.hid (HR2.out.ext (undrew hb3)); have HO3 := Lib.hid (HO2.out.ext (undrew hb3)); have HE3 := Lib.hid (ext_call HE2.out (undrew hb3)); clear hb3; have cc0 := HH3.out.cell 0; have cc1 := HH3.out.cell 1; have cc2 := HH3.out.cell 2; have rr0 := HR3.out.cell 0; have rr1 := HR3.out.cell 1; have oo0 := HO3.out.cell 0; have oo1 := HO3.out.cell 1; have oo2 := HO3.out.cell 2; have ff0 := HO3.out.frozen 0; have ff1 := HO3.out.frozen 1; have ff2 := HO3.out.frozen 2)
  all_goals
    go_wp2
    have hBf := ((HO3.out.set_ 0 (.int .i64 1)).set_ 1 (.string cz)).set_ 2 (.string t)
    have y0 := hBf.cell 0; have y1 := hBf.cell 1; have y2 := hBf.cell 2
    refine bodyPost_ret (v := .tuple #[.agg #[.int .i64 1, .string cz, .string t], .int .i64 0]) (by simp [results, Tryz.results75, go_sem, y0, y1, y2]) rfl ⟨rfl, ?_⟩
    exact ext_set (ext_set (ext_set HE3.out (by simp; omega) _) (by simp; omega) _) (by simp; omega) _

theorem chg_info : (Tryz.prog.info? 75).map (fun i => (i.zero, i.size, i.bytes)) = some (some (.agg #[.int .i64 0, .int .i64 0, .bool false, .int .i64 0, .int .i64 0, .int .i64 0, .bool false, .int .i64 0, .int .i64 0, .int .i64 0]), 10, 80) := by kernel_rfl

set_option maxRecDepth 100000 in
set_option maxHeartbeats 1000000 in
theorem cloneChgB (b c : Nat) (w : World) (hB : HeadB w b #[.int .i64 0, .int .i64 5, .bool false, .int .i64 0, .int .i64 0, .int .i64 0, .bool true, .int .i64 1, .int .i64 2, .int .i64 3]) :
    Calls Tryz.prog 72 #[.slice (some ⟨b, 0, none⟩) 1 c] w fun e w' => ∃ g d zs, e = .returned (.slice (some ⟨g, 0, none⟩) 1 d) ∧ w.heap.size ≤ g ∧ Blk w' g 75 (#[.int .i64 0, .int .i64 5, .bool false, .int .i64 0, .int .i64 0, .int .i64 0, .bool true, .int .i64 1, .int .i64 2, .int .i64 3] ++ zs) ∧ Below w.heap.size w w' := by
  obtain ⟨ii, hii, hzi0, hzi1, hzi2⟩ := info_parts chg_info
  have c0 := hB.cell 0; have c1 := hB.cell 1; have c2 := hB.cell 2; have c3 := hB.cell 3; have c4 := hB.cell 4; have c5 := hB.cell 5; have c6 := hB.cell 6; have c7 := hB.cell 7; have c8 := hB.cell 8; have c9 := hB.cell 9
  have bl := hB.lt
  clear hB
  have hsn := fun W : World => Lib.run_eql_slice_nil (P := Tryz.prog) W 36 75 (some ⟨b, 0, none⟩) 1 c 0 0 Tryz.underlying36
  go_enter Tryz.func72, Tryz.ntmps72
  go_wp2
  go_ret
  exact ⟨_, _, _, rfl, by simp, Blk.drew (Blk.new' _ _ _ (by simp)), (ext_alloc (ext_new _ _) _).drew⟩
theorem cloneChg (b c : Nat) (w : World) (hB : HeadB w b #[.int .i64 0, .int .i64 5, .bool false, .int .i64 0, .int .i64 0, .int .i64 0, .bool true, .int .i64 1, .int .i64 2, .int .i64 3]) :
    Calls Tryz.prog 72 #[.slice (some ⟨b, 0, none⟩) 1 c] w fun e w' => ∃ g d, e = .returned (.slice (some ⟨g, 0, none⟩) 1 d) ∧ w.heap.size ≤ g ∧ HeadB w' g #[.int .i64 0, .int .i64 5, .bool false, .int .i64 0, .int .i64 0, .int .i64 0, .bool true, .int .i64 1, .int .i64 2, .int .i64 3] ∧ Below w.heap.size w w' :=
  (cloneChgB b c w hB).mono fun _ _ ⟨g, d, _, h1, h2, h3, h4⟩ => ⟨g, d, h1, h2, .of2 h3, h4⟩

set_option maxRecDepth 100000 in
set_option maxHeartbeats 1000000 in
theorem logOwn (b c : Nat) (w : World) (hB : HeadB w b #[.int .i64 0, .int .i64 5, .bool false, .int .i64 0, .int .i64 0, .int .i64 0, .bool true, .int .i64 1, .int .i64 2, .int .i64 3]) :
    Calls Tryz.prog 76 #[.agg #[.int .i64 1, .slice (some ⟨b, 0, none⟩) 1 c]] w fun e w' => ∃ g d, e = .returned (.agg #[.int .i64 1, .slice (some ⟨g, 0, none⟩) 1 d]) ∧ w.heap.size ≤ g ∧ HeadB w' g #[.int .i64 0, .int .i64 5, .bool false, .int .i64 0, .int .i64 0, .int .i64 0, .bool true, .int .i64 1, .int .i64 2, .int .i64 3] ∧ Below w.heap.size w w' := by
  have HX0 := Lib.hid ((Blk.new w 46 #[.int .i64 1, .slice (some ⟨b, 0, none⟩) 1 c]).alloc (.cells #[.int .i64 0, .slice none 0 0] 46))
  have HO0 := Lib.hid (Blk.new' (w.alloc (.cells #[.int .i64 1, .slice (some ⟨b, 0, none⟩) 1 c] 46)) 46 #[.int .i64 0, .slice none 0 0] (b := w.heap.size + 1) (by simp))
  have HB := Lib.hid (hB.ext (ext_alloc (ext_new w (.cells #[.int .i64 1, .slice (some ⟨b, 0, none⟩) 1 c] 46)) (.cells #[.int .i64 0, .slice none 0 0] 46)))
  clear hB
  go_enter Tryz.func76, Tryz.ntmps76
  go_wp2_with fail
  refine (cloneChg b c _ HB.out).mono ?_
  rintro e W1 ⟨g, d, rfl, hgg, hch, hb1⟩
  have HGG := Lib.hid hgg
  have HCH := Lib.hid hch
  clear hgg hch
  have HX1 := Lib.hid (HX0.out.ext hb1)
  have HO1 := Lib.hid (HO0.out.ext hb1)
  have HE1 := Lib.hid (ext_call (ext_alloc (ext_new w _) _) hb1)
  clear hb1
  have x0 := HX1.out.cell 0; have x1 := HX1.out.cell 1
  have o0 := HO1.out.cell 0; have o1 := HO1.out.cell 1
  have f0 := HX1.out.frozen 0
  have f1 := HX1.out.frozen 1
  have g0 := HO1.out.frozen 0
  have g1 := HO1.out.frozen 1
  go_wp2
  have hBf := ((HO1.out.far (p := ⟨w.heap.size, 1, none⟩) (by simp) (.slice (some ⟨g, 0, none⟩) 1 d)).set_ 0 (.int .i64 1)).set_ 1 (.slice (some ⟨g, 0, none⟩) 1 d)
  have y0 := hBf.cell 0; have y1 := hBf.cell 1
  refine bodyPost_ret (v := .agg #[.int .i64 1, .slice (some ⟨g, 0, none⟩) 1 d]) (by simp [results, Tryz.results76, go_sem, y0, y1]) rfl ⟨_, _, rfl, ?_, ?_, ?_⟩
  · have := HGG.out; simp at this; omega
  · have h2 := HGG.out; simp at h2; exact ((HCH.out.far (by simp; omega) _).far (by simp; omega) _).far (by simp; omega) _
  exact ext_set (ext_set (ext_set HE1.out (by simp) _) (by simp) _) (by simp) _

/-- a log of one record -/
def Log1 (w : World) (gl : Nat) (z s0 c1 s1 : ByteArray) : Prop := ∃ gh A k c cap zs, Blk w gl 144 #[.slice A k c, .slice (some ⟨gh, 0, none⟩) 2 cap] ∧ 2 ≤ cap ∧ Blk w gh 86 (#[.int .i64 0, .string z, .string s0, .int .i64 1, .string c1, .string s1] ++ zs)
theorem Log1.ext {w W : World} {gl : Nat} {z s0 c1 s1 : ByteArray} (h : Log1 w gl z s0 c1 s1) (k : Below w.heap.size w W) : Log1 W gl z s0 c1 s1 := by
  obtain ⟨gh, A, n, c, cap, zs, h1, h2, h3⟩ := h
  exact ⟨gh, A, n, c, cap, zs, h1.ext k, h2, h3.ext k⟩
end Go.Proofs.YtbgfmbmcabekeaaGreatDoor

/-
  A region that draws its order: operations that read cells which no operation ahead of the region's own last stores changes may be taken first.
-/
namespace Go.Proofs.YtbgfmbmcabekeaaGreatDoor
open Go.RowKit

/-- no operation of st has come up -/
def clr (st : List Nat) (listed : Array Bool) : Bool := st.all fun j => !(listed.getD j true)
theorem clr_mono {st : List Nat} {listed : Array Bool} {i : Nat} (h : clr st (listed.setIfInBounds i true) = true) : clr st listed = true := by
  unfold clr at *
  rw [List.all_eq_true] at *
  intro k hk
  have h1 := h k hk
  by_cases hki : i = k
  · subst hki
    rcases Nat.lt_or_ge i listed.size with h' | h'
    · simp [h'] at h1
    · rw [Array.setIfInBounds_eq_of_size_le h'] at h1; exact h1
  · rw [getD_set_ne true hki] at h1; exact h1
theorem clr_set {st : List Nat} {listed : Array Bool} {j : Nat} (hj : j ∉ st) (h : clr st listed = true) : clr st (listed.setIfInBounds j true) = true := by
  unfold clr at *
  rw [List.all_eq_true] at *
  intro k hk
  have hne : ¬ j = k := fun e => hj (by rw [e]; exact hk)
  rw [getD_set_ne true hne]
  exact h k hk

section
variable {P : Program} {ops : Array Oper} {Q : Exit → Act → World → Prop} {md : Region.Mode} {F G : World → Prop} {st : List Nat}

/-- whatever order is picked; F holds behind every operation, G as long as no operation of st has come up -/
def wpAnyL (P : Program) (md : Region.Mode) (ops : Array Oper) (Q : Exit → Act → World → Prop) (F G : World → Prop) (st : List Nat) : Nat → Array Bool → Act → World → Prop
  | 0, listed, a, w => Region.ready md ops listed = [] ∧ Q .normal a w
  | fuel + 1, listed, a, w =>
    (Region.ready md ops listed = [] → Q .normal a w) ∧
    ∀ i ∈ Region.ready md ops listed, wpOp P ops Q i (fun a' w' => (F w' ∧ (clr st (listed.setIfInBounds i true) = true → G w')) ∧ wpAnyL P md ops Q F G st fuel (listed.setIfInBounds i true) a' w') a w

theorem wpAny_of_L : ∀ (fuel : Nat) (listed : Array Bool) (a : Act) (w : World), wpAnyL P md ops Q F G st fuel listed a w → wpAny P md ops Q fuel listed a w
  | 0, _, _, _, h => h
  | fuel + 1, _, _, _, h => ⟨h.1, fun i hi => wpOp_mono (fun a' w' h' => wpAny_of_L fuel _ a' w' h'.2) (h.2 i hi)⟩

theorem wp_region_L {id : Nat} {a : Act} {w : World} (F G : World → Prop) (st : List Nat) (hm : P.follows .mixedOrders = true)
    (h : wpAnyL P .any ops Q F G st ops.size (Array.replicate ops.size false) a w.drew) : (Code.region id ops true).wp P Q a w :=
  wp_region_any hm (wpAny_of_L _ _ _ _ h)

/-- T is what the operation i leans on: it holds now, and behind each operation that may come ahead of i -/
theorem wpAnyL_first {i : Nat} {oi : Oper} {v : Value} (T : World → Prop) (inv : Array Bool → Prop) (hi : ops[i]? = some oi) (hno : i ∉ st) (hsel : ∀ (j : Nat) (o : Oper) cs b, ops[j]? = some o → o.op ≠ .select cs b)
    (hQ : ∀ c a w, Q (.panic c) (a.put oi.dst v) w → Q (.panic c) a w)
    (hT : ∀ listed j oj w', inv listed → ops[j]? = some oj → (∀ e ∈ oj.after, Region.binds md e = true → e.on ≠ i) → F w' ∧ (clr st (listed.setIfInBounds j true) = true → G w') → T w' ∧ inv (listed.setIfInBounds j true)) :
    ∀ (fuel : Nat) (listed : Array Bool) (a : Act) (w : World),
      (∀ j oj, ops[j]? = some oj → j ≠ i → listed.getD j true = false → (∀ e ∈ oj.after, Region.binds md e = true → e.on ≠ i) → oi.apart ops oj = true) →
      i ∈ Region.ready md ops listed → YieldsIf P ops T oi v a → T w → inv listed → F w → (clr st listed = true → G w) →
      wpAnyL P md ops Q F G st fuel (listed.setIfInBounds i true) (a.put oi.dst v) w → wpAnyL P md ops Q F G st (fuel + 1) listed a w := by
  intro fuel
  induction fuel with
  | zero =>
    intro listed a w _ hr hy hS _ hF hG H
    refine ⟨fun h => (by rw [h] at hr; cases hr), fun j hj => ?_⟩
    by_cases hji : j = i
    · subst hji; exact hy.wpOp hi hS ⟨⟨hF, fun h => hG (clr_mono h)⟩, H⟩
    · have := ready_mono hj hji
      rw [H.1] at this
      cases this
  | succ fuel ih =>
    intro listed a w hfree hr hy hS hV hF hG H
    refine ⟨fun h => (by rw [h] at hr; cases hr), fun j hj => ?_⟩
    by_cases hji : j = i
    · subst hji; exact hy.wpOp hi hS ⟨⟨hF, fun h => hG (clr_mono h)⟩, H⟩
    · have h1 := H.2 j (ready_mono hj hji)
      obtain ⟨hjun, oj, hoj, hall⟩ := mem_ready.1 hj
      have hun : listed.getD i false = false := by
        have h0 := (mem_ready.1 hr).1
        rcases Nat.lt_or_ge i listed.size with h' | h'
        · simpa [h'] using h0
        · simp [Array.getElem?_eq_none h']
      have hnot : ∀ e ∈ oj.after, Region.binds md e = true → e.on ≠ i := fun e he hb heq => by
        have h1 := hall e he hb
        rw [heq, hun] at h1
        cases h1
      have h2 := wpOp_putIf hoj (hfree j oj hoj hji hjun hnot) (fun cs b => hsel i oi cs b hi) (fun cs b => hsel j oj cs b hoj) hQ hy h1
      have hfree' : ∀ k ok, ops[k]? = some ok → k ≠ i → (listed.setIfInBounds j true).getD k true = false →
          (∀ e ∈ ok.after, Region.binds md e = true → e.on ≠ i) → oi.apart ops ok = true := fun k ok hk hki hun hno => by
        refine hfree k ok hk hki ?_ hno
        by_cases hjk : j = k
        · subst hjk; exact hjun
        · rw [getD_set_ne true hjk] at hun; exact hun
      have hcond : ∀ w', F w' ∧ (clr st ((listed.setIfInBounds i true).setIfInBounds j true) = true → G w') → ¬ (i ∈ st) → F w' ∧ (clr st (listed.setIfInBounds j true) = true → G w') := fun w' h hn =>
        ⟨h.1, fun hc => h.2 (by rw [Array.setIfInBounds_comm _ _ (Ne.symm hji)]; exact clr_set hn hc)⟩
      refine wpOp_mono (fun a' w' h3 => ?_) h2
      have hc := hcond w' h3.2.1 hno
      have hT' := hT listed j oj w' hV hoj hnot hc
      refine ⟨hc, ih (listed.setIfInBounds j true) a' w' hfree' (ready_mono hr (Ne.symm hji)) h3.1 hT'.1 hT'.2 hc.1 hc.2 ?_⟩
      rw [Array.setIfInBounds_comm _ _ hji]
      exact h3.2.2

/-- does every operation of st wait for i? -/
def waitB (md : Region.Mode) (ops : Array Oper) (st : List Nat) (i : Nat) : Bool := st.all fun j => match ops[j]? with | none => true | some o => o.after.any fun e => Region.binds md e && e.on == i
theorem waitB_spec {st : List Nat} {i : Nat} (h : waitB md ops st i = true) : ∀ j, j ∈ st → ∀ oj, ops[j]? = some oj → ∃ e ∈ oj.after, Region.binds md e = true ∧ e.on = i := by
  intro j hj oj ho
  have h1 := List.all_eq_true.1 h j hj
  simp only [ho] at h1
  obtain ⟨k, hk, h2⟩ := Array.any_eq_true.1 h1
  simp only [Bool.and_eq_true, beq_iff_eq] at h2
  exact ⟨_, Array.getElem_mem hk, h2.1, h2.2⟩

/-- take i first: what it reads is G's -/
theorem takeG (i : Nat) {oi : Oper} {v : Value} {fuel : Nat} {listed : Array Bool} {a : Act} {w : World} (hi : ops[i]? = some oi) (hno : st.contains i = false)
    (hs : Region.noSelect ops = true) (hf : Region.free md ops listed i = true) (hr : (Region.ready md ops listed).contains i = true) (hw : waitB md ops st i = true) (hc : clr st listed = true)
    (hQ : ∀ c a w, Q (.panic c) (a.put oi.dst v) w → Q (.panic c) a w) (hy : YieldsIf P ops G oi v a) (hF : F w) (hG : G w)
    (h : wpAnyL P md ops Q F G st fuel (listed.setIfInBounds i true) (a.put oi.dst v) w) : wpAnyL P md ops Q F G st (fuel + 1) listed a w :=
  wpAnyL_first G (fun l => clr st l = true) hi (by simpa using hno) (Region.noSelect_spec hs) hQ
    (fun listed j oj w' hV ho hn hc => by
      have hj : j ∉ st := fun hj => by
        obtain ⟨e, he, hb, hon⟩ := waitB_spec hw j hj oj ho
        exact hn e he hb hon
      have := clr_set hj hV
      exact ⟨hc.2 this, this⟩) fuel listed a w (Region.free_spec hi hf) (by simpa using hr) hy hG hc hF (fun _ => hG) h

/-- take i first: what it reads is F's -/
theorem takeF (i : Nat) {oi : Oper} {v : Value} {fuel : Nat} {listed : Array Bool} {a : Act} {w : World} (hi : ops[i]? = some oi) (hno : st.contains i = false)
    (hs : Region.noSelect ops = true) (hf : Region.free md ops listed i = true) (hr : (Region.ready md ops listed).contains i = true)
    (hQ : ∀ c a w, Q (.panic c) (a.put oi.dst v) w → Q (.panic c) a w) (hy : YieldsIf P ops F oi v a) (hF : F w) (hG : clr st listed = true → G w)
    (h : wpAnyL P md ops Q F G st fuel (listed.setIfInBounds i true) (a.put oi.dst v) w) : wpAnyL P md ops Q F G st (fuel + 1) listed a w :=
  wpAnyL_first F (fun _ => True) hi (by simpa using hno) (Region.noSelect_spec hs) hQ (fun listed j oj w' _ _ _ hc => ⟨hc.1, trivial⟩) fuel listed a w (Region.free_spec hi hf) (by simpa using hr) hy hF trivial hF hG h

theorem allL (rs : List Nat) {fuel : Nat} {listed : Array Bool} {a : Act} {w : World} (hr : Region.ready md ops listed = rs) (hne : rs ≠ [])
    (h : ∀ i ∈ rs, wpOp P ops Q i (fun a' w' => (F w' ∧ (clr st (listed.setIfInBounds i true) = true → G w')) ∧ wpAnyL P md ops Q F G st fuel (listed.setIfInBounds i true) a' w') a w) : wpAnyL P md ops Q F G st (fuel + 1) listed a w :=
  ⟨fun h0 => absurd (hr ▸ h0) hne, hr ▸ h⟩
theorem doneL {listed : Array Bool} {a : Act} {w : World} (hr : Region.ready md ops listed = []) (h : Q .normal a w) : ∀ fuel, wpAnyL P md ops Q F G st fuel listed a w
  | 0 => ⟨hr, h⟩
  | _ + 1 => ⟨fun _ => h, by rw [hr]; simp⟩
theorem stepL {i : Nat} {o : Oper} {K : Act → World → Prop} {a : Act} {w : World} (ho : ops[i]? = some o) (hw : Region.wanted o (yielded ops a.tmps) = true)
    (h : ∀ K' : Act → World → Prop, (∀ a w, K a w → K' a w) → Oper.wp P o a w K' Q) : wpOp P ops Q i K a w := by
  unfold wpOp
  simp only [ho, hw, if_true]
  exact .inl (h K fun _ _ h => h)
end

end Go.Proofs.YtbgfmbmcabekeaaGreatDoor

/-
  package logtree: Append.
-/
namespace Go.Proofs.YtbgfmbmcabekeaaGreatDoor
open Go.RowKit
attribute [local go_sem ↓] Go.wp_at_zero Go.wp_at_succ

theorem rec_info : (Tryz.prog.info? 46).map (fun i => (i.zero, i.size, i.bytes)) = some (some (.agg #[.int .i64 0, .slice none 0 0]), 2, 32) := by kernel_rfl
theorem head_info : (Tryz.prog.info? 86).map (fun i => (i.zero, i.size, i.bytes)) = some (some (.agg #[.int .i64 0, .string ⟨#[]⟩, .string ⟨#[]⟩]), 3, 40) := by kernel_rfl

theorem agKeep {X W : World} {gl gh : Nat} (h : Blk X gl 144 #[.slice none 0 0, .slice (some ⟨gh, 0, none⟩) 1 1]) (k : Below X.heap.size X W) : W.cell? ⟨gl, 0, none⟩ = some (.slice none 0 0) ∧ W.cell? ⟨gl, 1, none⟩ = some (.slice (some ⟨gh, 0, none⟩) 1 1) := ⟨(h.ext k).cell 0, (h.ext k).cell 1⟩

theorem blk_set2 {W : World} {g : Nat} {ty : TypeId} {a b u v : Value} (h : Blk W g ty #[a, b]) : Blk ((W.setCell ⟨g, 0, none⟩ u).setCell ⟨g, 1, none⟩ v) g ty #[u, v] := (h.set_ 0 u).set_ 1 v
theorem log1_of {W : World} {gl gh k c cap : Nat} {A : Option Addr} {z s cz t : ByteArray} {zs : Array Value} (h1 : Blk W gl 144 #[.slice A k c, .slice (some ⟨gh, 0, none⟩) 2 cap]) (hc : 2 ≤ cap)
    (h2 : Blk W gh 86 (#[.int .i64 0, .string z, .string s] ++ (#[.int .i64 1, .string cz, .string t] ++ zs))) : Log1 W gl z s cz t :=
  ⟨gh, A, k, c, cap, zs, h1, hc, by rw [← Array.append_assoc] at h2; exact h2⟩

/-- the record of a log of one record, in memory -/
def RecsAt (w : World) (gl : Nat) : Prop := ∃ gr c g d, w.cell? ⟨gl, 0, none⟩ = some (.slice (some ⟨gr, 0, none⟩) 1 c) ∧ 1 ≤ c ∧ HeadB w gr #[.int .i64 1, .slice (some ⟨g, 0, none⟩) 1 d] ∧ HeadB w g #[.int .i64 0, .int .i64 5, .bool false, .int .i64 0, .int .i64 0, .int .i64 0, .bool true, .int .i64 1, .int .i64 2, .int .i64 3]
theorem RecsAt.ext {w W : World} {gl : Nat} (h : RecsAt w gl) (k : Below w.heap.size w W) : RecsAt W gl := by
  obtain ⟨gr, c, g, d, h1, h2, h3, h4⟩ := h
  exact ⟨gr, c, g, d, cell_ext h1 k, h2, h3.ext k, h4.ext k⟩
theorem HeadB.ext2 {w W : World} {b a a' : Nat} {cs : Array Value} (h : HeadB w b cs) (k : Ext2 a a' w W) (h1 : b ≠ a) (h2 : b ≠ a') : HeadB W b cs :=
  ⟨Nat.lt_of_lt_of_le h.lt k.size, fun i hi => (World.cell?_of_block (k.block b h.lt h1 h2)).trans (h.cells i hi)⟩
theorem logR_of {W : World} {gl gh gr g d c cap : Nat} {z s cz t : ByteArray} {zs rs : Array Value} (h1 : Blk W gl 144 #[.slice (some ⟨gr, 0, none⟩) 1 c, .slice (some ⟨gh, 0, none⟩) 2 cap]) (hc : 2 ≤ cap)
    (h2 : Blk W gh 86 (#[.int .i64 0, .string z, .string s] ++ (#[.int .i64 1, .string cz, .string t] ++ zs)))
    (hr : Blk W gr 46 (#[.int .i64 1, .slice (some ⟨g, 0, none⟩) 1 d] ++ rs)) (hc1 : 1 ≤ c) (hg : HeadB W g #[.int .i64 0, .int .i64 5, .bool false, .int .i64 0, .int .i64 0, .int .i64 0, .bool true, .int .i64 1, .int .i64 2, .int .i64 3]) : Log1 W gl z s cz t ∧ RecsAt W gl :=
  ⟨log1_of h1 hc h2, gr, c, g, d, h1.cell 0, hc1, .of2 hr, hg⟩

theorem apKeep {W0 W W' : World} {gl gh rb b c : Nat} {z s : ByteArray} (h : W.cell? ⟨gl, 1, none⟩ = some (.slice (some ⟨gh, 0, none⟩) 1 1) ∧ W.cell? ⟨gh, 0, none⟩ = some (.int .i64 0) ∧ W.cell? ⟨gh, 1, none⟩ = some (.string z) ∧ W.cell? ⟨gh, 2, none⟩ = some (.string s) ∧
  W.cell? ⟨rb, 0, none⟩ = some (.int .i64 1) ∧ W.cell? ⟨rb, 1, none⟩ = some (.slice (some ⟨b, 0, none⟩) 1 c) ∧ Below W0.heap.size W0 W) (hb : Below W.heap.size W W') : W'.cell? ⟨gl, 1, none⟩ = some (.slice (some ⟨gh, 0, none⟩) 1 1) ∧ W'.cell? ⟨gh, 0, none⟩ = some (.int .i64 0) ∧ W'.cell? ⟨gh, 1, none⟩ = some (.string z) ∧ W'.cell? ⟨gh, 2, none⟩ = some (.string s) ∧
  W'.cell? ⟨rb, 0, none⟩ = some (.int .i64 1) ∧ W'.cell? ⟨rb, 1, none⟩ = some (.slice (some ⟨b, 0, none⟩) 1 c) ∧ Below W0.heap.size W0 W' :=
  ⟨cell_ext h.1 hb, cell_ext h.2.1 hb, cell_ext h.2.2.1 hb, cell_ext h.2.2.2.1 hb, cell_ext h.2.2.2.2.1 hb, cell_ext h.2.2.2.2.2.1 hb, ext_call h.2.2.2.2.2.2 hb⟩
theorem apB {W0 W : World} {gl gh rb b c : Nat} {z s : ByteArray} (h : W.cell? ⟨gl, 1, none⟩ = some (.slice (some ⟨gh, 0, none⟩) 1 1) ∧ W.cell? ⟨gh, 0, none⟩ = some (.int .i64 0) ∧ W.cell? ⟨gh, 1, none⟩ = some (.string z) ∧ W.cell? ⟨gh, 2, none⟩ = some (.string s) ∧
  W.cell? ⟨rb, 0, none⟩ = some (.int .i64 1) ∧ W.cell? ⟨rb, 1, none⟩ = some (.slice (some ⟨b, 0, none⟩) 1 c) ∧ Below W0.heap.size W0 W) : Below W0.heap.size W0 W := h.2.2.2.2.2.2

theorem Ext2.alloc {a b : Nat} {w W : World} (h : Ext2 a b w W) (o : Obj) : Ext2 a b w (W.alloc o) := h.ext (ext_new W o)
theorem Ext2.drew1 {a b : Nat} {w W : World} (h : Ext2 a b w W) : Ext2 a b w W.drew := h.drewN 1
theorem Ext2.refl (a b : Nat) (w : World) : Ext2 a b w w := .of_ext (ext_refl w)
theorem aqKeep {X W : World} {gl rb hx b c : Nat} {cz t : ByteArray} (h : Blk X rb 46 #[.int .i64 1, .slice (some ⟨b, 0, none⟩) 1 c] ∧ Blk X hx 86 #[.int .i64 1, .string cz, .string t] ∧ rb ≠ gl ∧ hx ≠ gl) (k : Ext2 gl gl X W) :
    W.cell? ⟨rb, 0, none⟩ = some (.int .i64 1) ∧ W.cell? ⟨rb, 1, none⟩ = some (.slice (some ⟨b, 0, none⟩) 1 c) ∧ W.cell? ⟨hx, 0, none⟩ = some (.int .i64 1) ∧ W.cell? ⟨hx, 1, none⟩ = some (.string cz) ∧ W.cell? ⟨hx, 2, none⟩ = some (.string t) ∧ Ext2 gl gl X W :=
  ⟨(h.1.ext2 k h.2.2.1 h.2.2.1).cell 0, (h.1.ext2 k h.2.2.1 h.2.2.1).cell 1, (h.2.1.ext2 k h.2.2.2 h.2.2.2).cell 0, (h.2.1.ext2 k h.2.2.2 h.2.2.2).cell 1, (h.2.1.ext2 k h.2.2.2 h.2.2.2).cell 2, k⟩

set_option maxRecDepth 100000 in
set_option maxHeartbeats 4000000 in
theorem logAppendR (gl b c : Nat) (z s t : ByteArray) (hz : z.size = 32) (hs : s.size = 32) (ht : t.size = 32) (w : World) (hL : Log0 w gl z s) (hB : HeadB w b #[.int .i64 0, .int .i64 5, .bool false, .int .i64 0, .int .i64 0, .int .i64 0, .bool true, .int .i64 1, .int .i64 2, .int .i64 3]) (hR : RoundOK w) :
    Calls Tryz.prog 41 #[.pointer (some ⟨gl, 0, none⟩), .agg #[.int .i64 1, .slice (some ⟨b, 0, none⟩) 1 c], .string t] w
      fun e w' => e = .returned (.int .i64 0) ∧ (Log1 w' gl z s (chainF z recEnc) t ∧ RecsAt w' gl) ∧ Ext2 gl gl w w' := by
  obtain ⟨ir, hir, hzr0, hzr1, hzr2⟩ := info_parts rec_info
  obtain ⟨ih, hih, hzh0, hzh1, hzh2⟩ := info_parts head_info
  have HNx := Lib.hid (fun (W : World) (h : HeadB W b #[.int .i64 0, .int .i64 5, .bool false, .int .i64 0, .int .i64 0, .int .i64 0, .bool true, .int .i64 1, .int .i64 2, .int .i64 3]) (hR : RoundOK W) => logNext z s t hz hs ht b c W h hR)
  have HOw := Lib.hid (fun (W : World) (h : HeadB W b #[.int .i64 0, .int .i64 5, .bool false, .int .i64 0, .int .i64 0, .int .i64 0, .bool true, .int .i64 1, .int .i64 2, .int .i64 3]) => logOwn b c W h)
  generalize chainF z recEnc = cz at *
  have HR := Lib.hid (hR.below (ext_new w (.cells #[.int .i64 1, .slice (some ⟨b, 0, none⟩) 1 c] 46)))
  have HB := Lib.hid (hB.ext (ext_new w (.cells #[.int .i64 1, .slice (some ⟨b, 0, none⟩) 1 c] 46)))
  have HX := Lib.hid (Blk.new w 46 #[.int .i64 1, .slice (some ⟨b, 0, none⟩) 1 c])
  obtain ⟨gh, hg, hh⟩ := hL.ext (ext_new w (.cells #[.int .i64 1, .slice (some ⟨b, 0, none⟩) 1 c] 46))
  have hgl := hL.choose_spec.1.lt
  have HG := Lib.hid hg
  have HH := Lib.hid hh
  obtain ⟨W0, hW0⟩ : ∃ W0, W0 = w.alloc (.cells #[.int .i64 1, .slice (some ⟨b, 0, none⟩) 1 c] 46) := ⟨_, rfl⟩
  have HE0 := Lib.hid (show Below w.heap.size w W0 by rw [hW0]; exact ext_new _ _)
  rw [← hW0] at HR HB HX HG HH
  have HW0 := Lib.hid hW0
  clear hz hs ht hL hB hR hg hh hW0
  have g0 := HG.out.cell 0; have g1 := HG.out.cell 1
  have h0 := HH.out.cell 0; have h1 := HH.out.cell 1; have h2 := HH.out.cell 2
  have x0 := HX.out.cell 0; have x1 := HX.out.cell 1
  go_enter Tryz.func41, Tryz.ntmps41
  go_wp2_with fail
  rw [← HW0.out]
  have hwr0 : IntKind.i64.wrap 0 = 0 := by decide
  have HS0 := Lib.hid (show W0.cell? ⟨gl, 1, none⟩ = some (.slice (some ⟨gh, 0, none⟩) 1 1) ∧ W0.cell? ⟨gh, 0, none⟩ = some (.int .i64 0) ∧ W0.cell? ⟨gh, 1, none⟩ = some (.string z) ∧ W0.cell? ⟨gh, 2, none⟩ = some (.string s) ∧ W0.cell? ⟨w.heap.size, 0, none⟩ = some (.int .i64 1) ∧ W0.cell? ⟨w.heap.size, 1, none⟩ = some (.slice (some ⟨b, 0, none⟩) 1 c) ∧ Below W0.heap.size W0 W0 from ⟨g1, h0, h1, h2, x0, x1, ext_refl _⟩)
  go_region_held3 (fun w' => w'.cell? ⟨gl, 1, none⟩ = some (.slice (some ⟨gh, 0, none⟩) 1 1) ∧ w'.cell? ⟨gh, 0, none⟩ = some (.int .i64 0) ∧ w'.cell? ⟨gh, 1, none⟩ = some (.string z) ∧ w'.cell? ⟨gh, 2, none⟩ = some (.string s) ∧ w'.cell? ⟨w.heap.size, 0, none⟩ = some (.int .i64 1) ∧ w'.cell? ⟨w.heap.size, 1, none⟩ = some (.slice (some ⟨b, 0, none⟩) 1 c) ∧ Below W0.heap.size W0 w')
    (first | exact apKeep HS0.out (ext_refl W0).drew | assumption | exact apKeep HS0.out hbw | exact apKeep HS0.out (ext_alloc hbw _) | exact apKeep HS0.out (ext_alloc hbw _).drew | exact apKeep HS0.out (ext_new _ _).drew | exact apKeep HS0.out (ext_new _ _) | exact apKeep HS0.out (ext_set (ext_set (ext_set hbw (Nat.le_refl _) _) (Nat.le_refl _) _) (Nat.le_refl _) _))
    (first | (go_at_call 75; (with_reducible refine (HNx.out _ ?_ ?_).mono ?_); (exact HB.out.ext (apB (by assumption))); (exact HR.out.below (apB (by assumption))); rintro e W1 ⟨rfl, hb'⟩; have hbw := ext_call (apB (by assumption)) hb'; try (have hbx := (show Blk W1 W0.heap.size 86 #[.int .i64 0, .string ⟨#[]⟩, .string ⟨#[]⟩] from ((Blk.new W0 _ _).drew).ext hb'); have bx0 := hbx.cell 0; have bx1 := hbx.cell 1; have bx2 := hbx.cell 2; have bf0 := hbx.frozen 0; have bf1 := hbx.frozen 1; have bf2 := hbx.frozen 2; have HBX := Lib.hid hbx; clear hbx)))
  all_goals
    clear hb' hwr0 g0 g1 h0 h1 h2 x0 x1
    first
    | (generalize hX : World.setCell (World.setCell (World.setCell W1 ⟨W0.heap.size, 0, none⟩ (.int .i64 1)) ⟨W0.heap.size, 1, none⟩ (.string cz)) ⟨W0.heap.size, 2, none⟩ (.string t) = X
       have HBx := Lib.hid (show Blk X W0.heap.size 86 #[.int .i64 1, .string cz, .string t] by subst hX; exact ((HBX.out.set_ 0 _).set_ 1 _).set_ 2 _)
       have HEx := Lib.hid (show Below W0.heap.size W0 X by subst hX; exact ext_set (ext_set (ext_set hbw (Nat.le_refl _) _) (Nat.le_refl _) _) (Nat.le_refl _) _)
       have hne : W0.heap.size ≠ gl := by have := HG.out.lt; omega
       clear bx0 bx1 bx2 bf0 bf1 bf2 hX hbw HBX
       generalize W0.heap.size = hx at HBx hne ⊢)
    | (generalize hX : World.alloc W1 (.cells #[.int .i64 1, .string cz, .string t] 86) = X
       have HBx := Lib.hid (show Blk X W1.heap.size 86 #[.int .i64 1, .string cz, .string t] by subst hX; exact Blk.new _ _ _)
       have HEx := Lib.hid (show Below W0.heap.size W0 X by subst hX; exact ext_alloc hbw _)
       have hne : W1.heap.size ≠ gl := by have := HG.out.lt; have := hbw.size; omega
       clear hX hbw
       generalize W1.heap.size = hx at HBx hne ⊢)
    have HGx := Lib.hid (HG.out.ext HEx.out)
    have HHx := Lib.hid (HH.out.ext HEx.out)
    have HXx := Lib.hid (HX.out.ext HEx.out)
    have HCx := Lib.hid (HB.out.ext HEx.out)
    have hrb : w.heap.size ≠ gl := by omega
    have HSX := Lib.hid (And.intro HXx.out (And.intro HBx.out (And.intro hrb hne)))
    have g0 := HGx.out.cell 0; have g1 := HGx.out.cell 1
    have h0 := HHx.out.cell 0; have h1 := HHx.out.cell 1; have h2 := HHx.out.cell 2
    have gf0 := HGx.out.frozen 0
    have gf1 := HGx.out.frozen 1
    have gll := HGx.out.lt
    have ghl := HHx.out.lt
    have hnc : Builtin.nextslicecap 2 1 = 2 := by decide
    have hbt : Tryz.t86.bytes = 40 := by kernel_rfl
    go_wp2
    refine wp_region_L (fun w' => w'.cell? ⟨w.heap.size, 0, none⟩ = some (.int .i64 1) ∧ w'.cell? ⟨w.heap.size, 1, none⟩ = some (.slice (some ⟨b, 0, none⟩) 1 c) ∧ w'.cell? ⟨hx, 0, none⟩ = some (.int .i64 1) ∧ w'.cell? ⟨hx, 1, none⟩ = some (.string cz) ∧ w'.cell? ⟨hx, 2, none⟩ = some (.string t) ∧ Ext2 gl gl X w')
      (fun w' => w'.cell? ⟨gl, 0, none⟩ = some (.slice none 0 0) ∧ w'.cell? ⟨gl, 1, none⟩ = some (.slice (some ⟨gh, 0, none⟩) 1 1)) [19, 22] (by kernel_rfl) ?_
    -- REGION
    refine takeF 0 (v := ?_) rfl (by kernel_rfl) (by kernel_rfl) (by kernel_rfl) (by kernel_rfl) (fun _ _ _ h => h) (Or.inl ⟨by rfl, ?_⟩) (aqKeep HSX.out (by repeat (first | with_reducible refine Ext2.alloc ?_ _ | with_reducible refine Ext2.drew1 ?_ | with_reducible refine Ext2.setA ?_ _ _ | with_reducible assumption | with_reducible exact Ext2.refl _ _ _))) (fun _ => (agKeep HGx.out (by repeat (first | with_reducible refine ext_alloc ?_ _ | with_reducible refine Below.drew ?_ | with_reducible assumption | with_reducible exact ext_refl _)))) ?_
    rotate_left 1
    · (rintro w' ⟨f0, f1, f2, f3, f4, _⟩; go_simp; with_reducible rfl)
    refine takeF 1 (v := ?_) rfl (by kernel_rfl) (by kernel_rfl) (by kernel_rfl) (by kernel_rfl) (fun _ _ _ h => h) (Or.inl ⟨by rfl, ?_⟩) (aqKeep HSX.out (by repeat (first | with_reducible refine Ext2.alloc ?_ _ | with_reducible refine Ext2.drew1 ?_ | with_reducible refine Ext2.setA ?_ _ _ | with_reducible assumption | with_reducible exact Ext2.refl _ _ _))) (fun _ => (agKeep HGx.out (by repeat (first | with_reducible refine ext_alloc ?_ _ | with_reducible refine Below.drew ?_ | with_reducible assumption | with_reducible exact ext_refl _)))) ?_
    rotate_left 1
    · (rintro w' ⟨f0, f1, f2, f3, f4, _⟩; go_simp; with_reducible rfl)
    refine takeF 2 (v := ?_) rfl (by kernel_rfl) (by kernel_rfl) (by kernel_rfl) (by kernel_rfl) (fun _ _ _ h => h) (Or.inl ⟨by rfl, ?_⟩) (aqKeep HSX.out (by repeat (first | with_reducible refine Ext2.alloc ?_ _ | with_reducible refine Ext2.drew1 ?_ | with_reducible refine Ext2.setA ?_ _ _ | with_reducible assumption | with_reducible exact Ext2.refl _ _ _))) (fun _ => (agKeep HGx.out (by repeat (first | with_reducible refine ext_alloc ?_ _ | with_reducible refine Below.drew ?_ | with_reducible assumption | with_reducible exact ext_refl _)))) ?_
    rotate_left 1
    · (rintro w' ⟨f0, f1, f2, f3, f4, _⟩; go_simp; with_reducible rfl)
    refine takeF 3 (v := ?_) rfl (by kernel_rfl) (by kernel_rfl) (by kernel_rfl) (by kernel_rfl) (fun _ _ _ h => h) (Or.inl ⟨by rfl, ?_⟩) (aqKeep HSX.out (by repeat (first | with_reducible refine Ext2.alloc ?_ _ | with_reducible refine Ext2.drew1 ?_ | with_reducible refine Ext2.setA ?_ _ _ | with_reducible assumption | with_reducible exact Ext2.refl _ _ _))) (fun _ => (agKeep HGx.out (by repeat (first | with_reducible refine ext_alloc ?_ _ | with_reducible refine Below.drew ?_ | with_reducible assumption | with_reducible exact ext_refl _)))) ?_
    rotate_left 1
    · (rintro w' ⟨f0, f1, f2, f3, f4, _⟩; go_simp; with_reducible rfl)
    refine takeF 4 (v := ?_) rfl (by kernel_rfl) (by kernel_rfl) (by kernel_rfl) (by kernel_rfl) (fun _ _ _ h => h) (Or.inl ⟨by rfl, ?_⟩) (aqKeep HSX.out (by repeat (first | with_reducible refine Ext2.alloc ?_ _ | with_reducible refine Ext2.drew1 ?_ | with_reducible refine Ext2.setA ?_ _ _ | with_reducible assumption | with_reducible exact Ext2.refl _ _ _))) (fun _ => (agKeep HGx.out (by repeat (first | with_reducible refine ext_alloc ?_ _ | with_reducible refine Below.drew ?_ | with_reducible assumption | with_reducible exact ext_refl _)))) ?_
    rotate_left 1
    · (rintro w' ⟨f0, f1, f2, f3, f4, _⟩; go_simp; with_reducible rfl)
    refine takeG 5 (v := ?_) rfl (by kernel_rfl) (by kernel_rfl) (by kernel_rfl) (by kernel_rfl) (by kernel_rfl) (by kernel_rfl) (fun _ _ _ h => h) (Or.inl ⟨by rfl, ?_⟩) (aqKeep HSX.out (by repeat (first | with_reducible refine Ext2.alloc ?_ _ | with_reducible refine Ext2.drew1 ?_ | with_reducible refine Ext2.setA ?_ _ _ | with_reducible assumption | with_reducible exact Ext2.refl _ _ _))) (agKeep HGx.out (by repeat (first | with_reducible refine ext_alloc ?_ _ | with_reducible refine Below.drew ?_ | with_reducible assumption | with_reducible exact ext_refl _))) ?_
    rotate_left 1
    · (rintro w' ⟨f0, f1⟩; go_simp; with_reducible rfl)
    refine takeF 6 (v := ?_) rfl (by kernel_rfl) (by kernel_rfl) (by kernel_rfl) (by kernel_rfl) (fun _ _ _ h => h) (Or.inl ⟨by rfl, ?_⟩) (aqKeep HSX.out (by repeat (first | with_reducible refine Ext2.alloc ?_ _ | with_reducible refine Ext2.drew1 ?_ | with_reducible refine Ext2.setA ?_ _ _ | with_reducible assumption | with_reducible exact Ext2.refl _ _ _))) (fun _ => (agKeep HGx.out (by repeat (first | with_reducible refine ext_alloc ?_ _ | with_reducible refine Below.drew ?_ | with_reducible assumption | with_reducible exact ext_refl _)))) ?_
    rotate_left 1
    · (rintro w' ⟨f0, f1, f2, f3, f4, _⟩; go_simp; with_reducible rfl)
    refine takeF 10 (v := ?_) rfl (by kernel_rfl) (by kernel_rfl) (by kernel_rfl) (by kernel_rfl) (fun _ _ _ h => h) (Or.inl ⟨by rfl, ?_⟩) (aqKeep HSX.out (by repeat (first | with_reducible refine Ext2.alloc ?_ _ | with_reducible refine Ext2.drew1 ?_ | with_reducible refine Ext2.setA ?_ _ _ | with_reducible assumption | with_reducible exact Ext2.refl _ _ _))) (fun _ => (agKeep HGx.out (by repeat (first | with_reducible refine ext_alloc ?_ _ | with_reducible refine Below.drew ?_ | with_reducible assumption | with_reducible exact ext_refl _)))) ?_
    rotate_left 1
    · (rintro w' ⟨f0, f1, f2, f3, f4, _⟩; go_simp; with_reducible rfl)
    refine takeF 11 (v := ?_) rfl (by kernel_rfl) (by kernel_rfl) (by kernel_rfl) (by kernel_rfl) (fun _ _ _ h => h) (Or.inl ⟨by rfl, ?_⟩) (aqKeep HSX.out (by repeat (first | with_reducible refine Ext2.alloc ?_ _ | with_reducible refine Ext2.drew1 ?_ | with_reducible refine Ext2.setA ?_ _ _ | with_reducible assumption | with_reducible exact Ext2.refl _ _ _))) (fun _ => (agKeep HGx.out (by repeat (first | with_reducible refine ext_alloc ?_ _ | with_reducible refine Below.drew ?_ | with_reducible assumption | with_reducible exact ext_refl _)))) ?_
    rotate_left 1
    · (rintro w' ⟨f0, f1, f2, f3, f4, _⟩; go_simp; with_reducible rfl)
    refine takeF 12 (v := ?_) rfl (by kernel_rfl) (by kernel_rfl) (by kernel_rfl) (by kernel_rfl) (fun _ _ _ h => h) (Or.inl ⟨by rfl, ?_⟩) (aqKeep HSX.out (by repeat (first | with_reducible refine Ext2.alloc ?_ _ | with_reducible refine Ext2.drew1 ?_ | with_reducible refine Ext2.setA ?_ _ _ | with_reducible assumption | with_reducible exact Ext2.refl _ _ _))) (fun _ => (agKeep HGx.out (by repeat (first | with_reducible refine ext_alloc ?_ _ | with_reducible refine Below.drew ?_ | with_reducible assumption | with_reducible exact ext_refl _)))) ?_
    rotate_left 1
    · (rintro w' ⟨f0, f1, f2, f3, f4, _⟩; go_simp; with_reducible rfl)
    refine takeG 13 (v := ?_) rfl (by kernel_rfl) (by kernel_rfl) (by kernel_rfl) (by kernel_rfl) (by kernel_rfl) (by kernel_rfl) (fun _ _ _ h => h) (Or.inl ⟨by rfl, ?_⟩) (aqKeep HSX.out (by repeat (first | with_reducible refine Ext2.alloc ?_ _ | with_reducible refine Ext2.drew1 ?_ | with_reducible refine Ext2.setA ?_ _ _ | with_reducible assumption | with_reducible exact Ext2.refl _ _ _))) (agKeep HGx.out (by repeat (first | with_reducible refine ext_alloc ?_ _ | with_reducible refine Below.drew ?_ | with_reducible assumption | with_reducible exact ext_refl _))) ?_
    rotate_left 1
    · (rintro w' ⟨f0, f1⟩; go_simp; with_reducible rfl)
    refine takeF 14 (v := ?_) rfl (by kernel_rfl) (by kernel_rfl) (by kernel_rfl) (by kernel_rfl) (fun _ _ _ h => h) (Or.inl ⟨by rfl, ?_⟩) (aqKeep HSX.out (by repeat (first | with_reducible refine Ext2.alloc ?_ _ | with_reducible refine Ext2.drew1 ?_ | with_reducible refine Ext2.setA ?_ _ _ | with_reducible assumption | with_reducible exact Ext2.refl _ _ _))) (fun _ => (agKeep HGx.out (by repeat (first | with_reducible refine ext_alloc ?_ _ | with_reducible refine Below.drew ?_ | with_reducible assumption | with_reducible exact ext_refl _)))) ?_
    rotate_left 1
    · (rintro w' ⟨f0, f1, f2, f3, f4, _⟩; go_simp; with_reducible rfl)
    refine allL [7, 15] (by kernel_rfl) (by simp) ?_
    simp only [List.forall_mem_cons, List.not_mem_nil, false_implies, implies_true, and_true]
    refine ⟨?_, ?_⟩
    · refine stepL rfl (by rfl) (fun K hK => ?_)
      go_simp
      go_at_call 76
      refine (HOw.out _ (HCx.out.ext (by repeat (first | with_reducible refine ext_alloc ?_ _ | with_reducible refine Below.drew ?_ | with_reducible assumption | with_reducible exact ext_refl _)))).mono ?_
      rintro e V ⟨go, d, rfl, hgo, hch, hbo⟩
      have HGO := Lib.hid (show go ≠ gl by have h2 := Nat.le_trans (show X.heap.size ≤ _ from (show Below X.heap.size X _ from (by repeat (first | with_reducible refine ext_alloc ?_ _ | with_reducible refine Below.drew ?_ | with_reducible assumption | with_reducible exact ext_refl _))).size) hgo; have h3 := HGx.out.lt; omega)
      have HCH := Lib.hid hch
      clear hgo hch
      have hbX : Below X.heap.size X V := ext_call (by repeat (first | with_reducible refine ext_alloc ?_ _ | with_reducible refine Below.drew ?_ | with_reducible assumption | with_reducible exact ext_refl _)) hbo
      have hv2 : Ext2 gl gl X V := .of_ext hbX
      have hv0 := (HGx.out.ext hbX).cell 0; have hv1 := (HGx.out.ext hbX).cell 1; have vh0 := (HHx.out.ext hbX).cell 0; have vh1 := (HHx.out.ext hbX).cell 1; have vh2 := (HHx.out.ext hbX).cell 2
      have vf0 := (HGx.out.ext hbX).frozen 0; have vf1 := (HGx.out.ext hbX).frozen 1; have vgl := (HGx.out.ext hbX).lt; have vhl := (HHx.out.ext hbX).lt
      have vgl1 : gl < V.heap.size + 1 := by omega
      have vgl2 : gl < V.heap.size + 1 + 1 := by omega
      have vgl3 : gl < V.heap.size + 1 + 1 + 1 := by omega
      have vhl1 : gh < V.heap.size + 1 := by omega
      have vhl2 : gh < V.heap.size + 1 + 1 := by omega
      try (have hnb := (show Blk V X.heap.size 86 #[.int .i64 1, .string cz, .string t] from ((Blk.new X _ _).drew).ext hbo); have nb0 := hnb.cell 0; have nb1 := hnb.cell 1; have nb2 := hnb.cell 2; have nbl := hnb.lt; have nbl1 : X.heap.size < V.heap.size + 1 := (by omega); have nbl2 : X.heap.size < V.heap.size + 1 + 1 := (by omega); clear hnb)
      clear hbo
      refine hK _ _ ⟨⟨aqKeep HSX.out hv2, fun _ => agKeep HGx.out hbX⟩, ?_⟩
      clear hK K
      refine allL [8, 15] (by kernel_rfl) (by simp) ?_
      simp only [List.forall_mem_cons, List.not_mem_nil, false_implies, implies_true, and_true]
      refine ⟨?_, ?_⟩
      · refine stepL rfl (by rfl) (fun K hK => ?_)
        go_simp
        refine hK _ _ ⟨⟨(aqKeep HSX.out (by repeat (first | with_reducible refine Ext2.alloc ?_ _ | with_reducible refine Ext2.drew1 ?_ | with_reducible refine Ext2.setA ?_ _ _ | with_reducible assumption | with_reducible exact Ext2.refl _ _ _))), fun _ => (agKeep HGx.out (by repeat (first | with_reducible refine ext_alloc ?_ _ | with_reducible refine Below.drew ?_ | with_reducible assumption | with_reducible exact ext_refl _)))⟩, ?_⟩
        clear hK K
        refine allL [9, 15] (by kernel_rfl) (by simp) ?_
        simp only [List.forall_mem_cons, List.not_mem_nil, false_implies, implies_true, and_true]
        refine ⟨?_, ?_⟩
        · refine stepL rfl (by rfl) (fun K hK => ?_)
          go_simp
          refine hK _ _ ⟨⟨(aqKeep HSX.out (by repeat (first | with_reducible refine Ext2.alloc ?_ _ | with_reducible refine Ext2.drew1 ?_ | with_reducible refine Ext2.setA ?_ _ _ | with_reducible assumption | with_reducible exact Ext2.refl _ _ _))), fun _ => (agKeep HGx.out (by repeat (first | with_reducible refine ext_alloc ?_ _ | with_reducible refine Below.drew ?_ | with_reducible assumption | with_reducible exact ext_refl _)))⟩, ?_⟩
          clear hK K
          refine allL [15] (by kernel_rfl) (by simp) ?_
          simp only [List.forall_mem_cons, List.not_mem_nil, false_implies, implies_true, and_true]
          refine stepL rfl (by rfl) (fun K hK => ?_)
          go_simp
          refine hK _ _ ⟨⟨(aqKeep HSX.out (by repeat (first | with_reducible refine Ext2.alloc ?_ _ | with_reducible refine Ext2.drew1 ?_ | with_reducible refine Ext2.setA ?_ _ _ | with_reducible assumption | with_reducible exact Ext2.refl _ _ _))), fun _ => (agKeep HGx.out (by repeat (first | with_reducible refine ext_alloc ?_ _ | with_reducible refine Below.drew ?_ | with_reducible assumption | with_reducible exact ext_refl _)))⟩, ?_⟩
          clear hK K
          refine allL [16] (by kernel_rfl) (by simp) ?_
          simp only [List.forall_mem_cons, List.not_mem_nil, false_implies, implies_true, and_true]
          refine stepL rfl (by rfl) (fun K hK => ?_)
          go_simp
          refine hK _ _ ⟨⟨(aqKeep HSX.out (by repeat (first | with_reducible refine Ext2.alloc ?_ _ | with_reducible refine Ext2.drew1 ?_ | with_reducible refine Ext2.setA ?_ _ _ | with_reducible assumption | with_reducible exact Ext2.refl _ _ _))), fun _ => (agKeep HGx.out (by repeat (first | with_reducible refine ext_alloc ?_ _ | with_reducible refine Below.drew ?_ | with_reducible assumption | with_reducible exact ext_refl _)))⟩, ?_⟩
          clear hK K
          refine takeF 17 (v := ?_) rfl (by kernel_rfl) (by kernel_rfl) (by kernel_rfl) (by kernel_rfl) (fun _ _ _ h => h) (Or.inl ⟨by rfl, ?_⟩) (aqKeep HSX.out (by repeat (first | with_reducible refine Ext2.alloc ?_ _ | with_reducible refine Ext2.drew1 ?_ | with_reducible refine Ext2.setA ?_ _ _ | with_reducible assumption | with_reducible exact Ext2.refl _ _ _))) (fun _ => (agKeep HGx.out (by repeat (first | with_reducible refine ext_alloc ?_ _ | with_reducible refine Below.drew ?_ | with_reducible assumption | with_reducible exact ext_refl _)))) ?_
          rotate_left 1
          · (rintro w' ⟨f0, f1, f2, f3, f4, _⟩; go_simp; with_reducible rfl)
          refine takeF 18 (v := ?_) rfl (by kernel_rfl) (by kernel_rfl) (by kernel_rfl) (by kernel_rfl) (fun _ _ _ h => h) (Or.inl ⟨by rfl, ?_⟩) (aqKeep HSX.out (by repeat (first | with_reducible refine Ext2.alloc ?_ _ | with_reducible refine Ext2.drew1 ?_ | with_reducible refine Ext2.setA ?_ _ _ | with_reducible assumption | with_reducible exact Ext2.refl _ _ _))) (fun _ => (agKeep HGx.out (by repeat (first | with_reducible refine ext_alloc ?_ _ | with_reducible refine Below.drew ?_ | with_reducible assumption | with_reducible exact ext_refl _)))) ?_
          rotate_left 1
          · (rintro w' ⟨f0, f1, f2, f3, f4, _⟩; go_simp; with_reducible rfl)
          refine allL [19] (by kernel_rfl) (by simp) ?_
          simp only [List.forall_mem_cons, List.not_mem_nil, false_implies, implies_true, and_true]
          refine stepL rfl (by rfl) (fun K hK => ?_)
          go_simp
          refine hK _ _ ⟨⟨(aqKeep HSX.out (by repeat (first | with_reducible refine Ext2.alloc ?_ _ | with_reducible refine Ext2.drew1 ?_ | with_reducible refine Ext2.setA ?_ _ _ | with_reducible assumption | with_reducible exact Ext2.refl _ _ _))), fun h => absurd h (by decide)⟩, ?_⟩
          clear hK K
          refine takeF 20 (v := ?_) rfl (by kernel_rfl) (by kernel_rfl) (by kernel_rfl) (by kernel_rfl) (fun _ _ _ h => h) (Or.inl ⟨by rfl, ?_⟩) (aqKeep HSX.out (by repeat (first | with_reducible refine Ext2.alloc ?_ _ | with_reducible refine Ext2.drew1 ?_ | with_reducible refine Ext2.setA ?_ _ _ | with_reducible assumption | with_reducible exact Ext2.refl _ _ _))) (fun h => absurd h (by decide)) ?_
          rotate_left 1
          · (rintro w' ⟨f0, f1, f2, f3, f4, _⟩; go_simp; with_reducible rfl)
          refine takeF 21 (v := ?_) rfl (by kernel_rfl) (by kernel_rfl) (by kernel_rfl) (by kernel_rfl) (fun _ _ _ h => h) (Or.inl ⟨by rfl, ?_⟩) (aqKeep HSX.out (by repeat (first | with_reducible refine Ext2.alloc ?_ _ | with_reducible refine Ext2.drew1 ?_ | with_reducible refine Ext2.setA ?_ _ _ | with_reducible assumption | with_reducible exact Ext2.refl _ _ _))) (fun h => absurd h (by decide)) ?_
          rotate_left 1
          · (rintro w' ⟨f0, f1, f2, f3, f4, _⟩; go_simp; with_reducible rfl)
          refine allL [22] (by kernel_rfl) (by simp) ?_
          simp only [List.forall_mem_cons, List.not_mem_nil, false_implies, implies_true, and_true]
          refine stepL rfl (by rfl) (fun K hK => ?_)
          go_simp
          refine hK _ _ ⟨⟨(aqKeep HSX.out (by repeat (first | with_reducible refine Ext2.alloc ?_ _ | with_reducible refine Ext2.drew1 ?_ | with_reducible refine Ext2.setA ?_ _ _ | with_reducible assumption | with_reducible exact Ext2.refl _ _ _))), fun h => absurd h (by decide)⟩, ?_⟩
          clear hK K
          refine doneL (by kernel_rfl) ?_ _
          go_wp2
          go_ret
          refine ⟨rfl, logR_of (by (repeat (first | with_reducible refine Blk.drew ?_ | with_reducible refine Blk.alloc ?_ _)); exact blk_set2 (HGx.out.ext hbX)) (by first | exact grownCap_ge V.drew 2 1 _ | exact grownCap_ge V 2 1 _) (by (repeat (with_reducible refine Blk.drew ?_)); exact Blk.new' _ _ _ (by simp)) (by (repeat (first | with_reducible refine Blk.drew ?_ | exact Blk.new' _ _ _ (by simp; done) | with_reducible refine Blk.alloc ?_ _)); done) (by first | exact grownCap_ge V.drew 1 0 _ | exact grownCap_ge V 1 0 _ | exact grownCap_ge _ 1 0 _) (HCH.out.ext2 (a := gl) (a' := gl) (by (repeat (first | with_reducible refine Ext2.alloc ?_ _ | with_reducible refine Ext2.drew1 ?_ | with_reducible refine Ext2.setA ?_ _ _ | with_reducible exact Ext2.refl _ _ _))) HGO.out HGO.out), ?_⟩
          refine (Ext2.of_ext (ext_call HE0.out HEx.out)).trans ?_
          repeat (first | with_reducible refine Ext2.alloc ?_ _ | with_reducible refine Ext2.drew1 ?_ | with_reducible refine Ext2.setA ?_ _ _ | with_reducible assumption)
        · refine stepL rfl (by rfl) (fun K hK => ?_)
          go_simp
          refine hK _ _ ⟨⟨(aqKeep HSX.out (by repeat (first | with_reducible refine Ext2.alloc ?_ _ | with_reducible refine Ext2.drew1 ?_ | with_reducible refine Ext2.setA ?_ _ _ | with_reducible assumption | with_reducible exact Ext2.refl _ _ _))), fun _ => (agKeep HGx.out (by repeat (first | with_reducible refine ext_alloc ?_ _ | with_reducible refine Below.drew ?_ | with_reducible assumption | with_reducible exact ext_refl _)))⟩, ?_⟩
          clear hK K
          refine allL [9] (by kernel_rfl) (by simp) ?_
          simp only [List.forall_mem_cons, List.not_mem_nil, false_implies, implies_true, and_true]
          refine stepL rfl (by rfl) (fun K hK => ?_)
          go_simp
          refine hK _ _ ⟨⟨(aqKeep HSX.out (by repeat (first | with_reducible refine Ext2.alloc ?_ _ | with_reducible refine Ext2.drew1 ?_ | with_reducible refine Ext2.setA ?_ _ _ | with_reducible assumption | with_reducible exact Ext2.refl _ _ _))), fun _ => (agKeep HGx.out (by repeat (first | with_reducible refine ext_alloc ?_ _ | with_reducible refine Below.drew ?_ | with_reducible assumption | with_reducible exact ext_refl _)))⟩, ?_⟩
          clear hK K
          refine allL [16] (by kernel_rfl) (by simp) ?_
          simp only [List.forall_mem_cons, List.not_mem_nil, false_implies, implies_true, and_true]
          refine stepL rfl (by rfl) (fun K hK => ?_)
          go_simp
          refine hK _ _ ⟨⟨(aqKeep HSX.out (by repeat (first | with_reducible refine Ext2.alloc ?_ _ | with_reducible refine Ext2.drew1 ?_ | with_reducible refine Ext2.setA ?_ _ _ | with_reducible assumption | with_reducible exact Ext2.refl _ _ _))), fun _ => (agKeep HGx.out (by repeat (first | with_reducible refine ext_alloc ?_ _ | with_reducible refine Below.drew ?_ | with_reducible assumption | with_reducible exact ext_refl _)))⟩, ?_⟩
          clear hK K
          refine takeF 17 (v := ?_) rfl (by kernel_rfl) (by kernel_rfl) (by kernel_rfl) (by kernel_rfl) (fun _ _ _ h => h) (Or.inl ⟨by rfl, ?_⟩) (aqKeep HSX.out (by repeat (first | with_reducible refine Ext2.alloc ?_ _ | with_reducible refine Ext2.drew1 ?_ | with_reducible refine Ext2.setA ?_ _ _ | with_reducible assumption | with_reducible exact Ext2.refl _ _ _))) (fun _ => (agKeep HGx.out (by repeat (first | with_reducible refine ext_alloc ?_ _ | with_reducible refine Below.drew ?_ | with_reducible assumption | with_reducible exact ext_refl _)))) ?_
          rotate_left 1
          · (rintro w' ⟨f0, f1, f2, f3, f4, _⟩; go_simp; with_reducible rfl)
          refine takeF 18 (v := ?_) rfl (by kernel_rfl) (by kernel_rfl) (by kernel_rfl) (by kernel_rfl) (fun _ _ _ h => h) (Or.inl ⟨by rfl, ?_⟩) (aqKeep HSX.out (by repeat (first | with_reducible refine Ext2.alloc ?_ _ | with_reducible refine Ext2.drew1 ?_ | with_reducible refine Ext2.setA ?_ _ _ | with_reducible assumption | with_reducible exact Ext2.refl _ _ _))) (fun _ => (agKeep HGx.out (by repeat (first | with_reducible refine ext_alloc ?_ _ | with_reducible refine Below.drew ?_ | with_reducible assumption | with_reducible exact ext_refl _)))) ?_
          rotate_left 1
          · (rintro w' ⟨f0, f1, f2, f3, f4, _⟩; go_simp; with_reducible rfl)
          refine allL [19] (by kernel_rfl) (by simp) ?_
          simp only [List.forall_mem_cons, List.not_mem_nil, false_implies, implies_true, and_true]
          refine stepL rfl (by rfl) (fun K hK => ?_)
          go_simp
          refine hK _ _ ⟨⟨(aqKeep HSX.out (by repeat (first | with_reducible refine Ext2.alloc ?_ _ | with_reducible refine Ext2.drew1 ?_ | with_reducible refine Ext2.setA ?_ _ _ | with_reducible assumption | with_reducible exact Ext2.refl _ _ _))), fun h => absurd h (by decide)⟩, ?_⟩
          clear hK K
          refine takeF 20 (v := ?_) rfl (by kernel_rfl) (by kernel_rfl) (by kernel_rfl) (by kernel_rfl) (fun _ _ _ h => h) (Or.inl ⟨by rfl, ?_⟩) (aqKeep HSX.out (by repeat (first | with_reducible refine Ext2.alloc ?_ _ | with_reducible refine Ext2.drew1 ?_ | with_reducible refine Ext2.setA ?_ _ _ | with_reducible assumption | with_reducible exact Ext2.refl _ _ _))) (fun h => absurd h (by decide)) ?_
          rotate_left 1
          · (rintro w' ⟨f0, f1, f2, f3, f4, _⟩; go_simp; with_reducible rfl)
          refine takeF 21 (v := ?_) rfl (by kernel_rfl) (by kernel_rfl) (by kernel_rfl) (by kernel_rfl) (fun _ _ _ h => h) (Or.inl ⟨by rfl, ?_⟩) (aqKeep HSX.out (by repeat (first | with_reducible refine Ext2.alloc ?_ _ | with_reducible refine Ext2.drew1 ?_ | with_reducible refine Ext2.setA ?_ _ _ | with_reducible assumption | with_reducible exact Ext2.refl _ _ _))) (fun h => absurd h (by decide)) ?_
          rotate_left 1
          · (rintro w' ⟨f0, f1, f2, f3, f4, _⟩; go_simp; with_reducible rfl)
          refine allL [22] (by kernel_rfl) (by simp) ?_
          simp only [List.forall_mem_cons, List.not_mem_nil, false_implies, implies_true, and_true]
          refine stepL rfl (by rfl) (fun K hK => ?_)
          go_simp
          refine hK _ _ ⟨⟨(aqKeep HSX.out (by repeat (first | with_reducible refine Ext2.alloc ?_ _ | with_reducible refine Ext2.drew1 ?_ | with_reducible refine Ext2.setA ?_ _ _ | with_reducible assumption | with_reducible exact Ext2.refl _ _ _))), fun h => absurd h (by decide)⟩, ?_⟩
          clear hK K
          refine doneL (by kernel_rfl) ?_ _
          go_wp2
          go_ret
          refine ⟨rfl, logR_of (by (repeat (first | with_reducible refine Blk.drew ?_ | with_reducible refine Blk.alloc ?_ _)); exact blk_set2 (HGx.out.ext hbX)) (by first | exact grownCap_ge V.drew 2 1 _ | exact grownCap_ge V 2 1 _) (by (repeat (with_reducible refine Blk.drew ?_)); exact Blk.new' _ _ _ (by simp)) (by (repeat (first | with_reducible refine Blk.drew ?_ | exact Blk.new' _ _ _ (by simp; done) | with_reducible refine Blk.alloc ?_ _)); done) (by first | exact grownCap_ge V.drew 1 0 _ | exact grownCap_ge V 1 0 _ | exact grownCap_ge _ 1 0 _) (HCH.out.ext2 (a := gl) (a' := gl) (by (repeat (first | with_reducible refine Ext2.alloc ?_ _ | with_reducible refine Ext2.drew1 ?_ | with_reducible refine Ext2.setA ?_ _ _ | with_reducible exact Ext2.refl _ _ _))) HGO.out HGO.out), ?_⟩
          refine (Ext2.of_ext (ext_call HE0.out HEx.out)).trans ?_
          repeat (first | with_reducible refine Ext2.alloc ?_ _ | with_reducible refine Ext2.drew1 ?_ | with_reducible refine Ext2.setA ?_ _ _ | with_reducible assumption)
      · refine stepL rfl (by rfl) (fun K hK => ?_)
        go_simp
        refine hK _ _ ⟨⟨(aqKeep HSX.out (by repeat (first | with_reducible refine Ext2.alloc ?_ _ | with_reducible refine Ext2.drew1 ?_ | with_reducible refine Ext2.setA ?_ _ _ | with_reducible assumption | with_reducible exact Ext2.refl _ _ _))), fun _ => (agKeep HGx.out (by repeat (first | with_reducible refine ext_alloc ?_ _ | with_reducible refine Below.drew ?_ | with_reducible assumption | with_reducible exact ext_refl _)))⟩, ?_⟩
        clear hK K
        refine allL [8] (by kernel_rfl) (by simp) ?_
        simp only [List.forall_mem_cons, List.not_mem_nil, false_implies, implies_true, and_true]
        refine stepL rfl (by rfl) (fun K hK => ?_)
        go_simp
        refine hK _ _ ⟨⟨(aqKeep HSX.out (by repeat (first | with_reducible refine Ext2.alloc ?_ _ | with_reducible refine Ext2.drew1 ?_ | with_reducible refine Ext2.setA ?_ _ _ | with_reducible assumption | with_reducible exact Ext2.refl _ _ _))), fun _ => (agKeep HGx.out (by repeat (first | with_reducible refine ext_alloc ?_ _ | with_reducible refine Below.drew ?_ | with_reducible assumption | with_reducible exact ext_refl _)))⟩, ?_⟩
        clear hK K
        refine allL [9] (by kernel_rfl) (by simp) ?_
        simp only [List.forall_mem_cons, List.not_mem_nil, false_implies, implies_true, and_true]
        refine stepL rfl (by rfl) (fun K hK => ?_)
        go_simp
        refine hK _ _ ⟨⟨(aqKeep HSX.out (by repeat (first | with_reducible refine Ext2.alloc ?_ _ | with_reducible refine Ext2.drew1 ?_ | with_reducible refine Ext2.setA ?_ _ _ | with_reducible assumption | with_reducible exact Ext2.refl _ _ _))), fun _ => (agKeep HGx.out (by repeat (first | with_reducible refine ext_alloc ?_ _ | with_reducible refine Below.drew ?_ | with_reducible assumption | with_reducible exact ext_refl _)))⟩, ?_⟩
        clear hK K
        refine allL [16] (by kernel_rfl) (by simp) ?_
        simp only [List.forall_mem_cons, List.not_mem_nil, false_implies, implies_true, and_true]
        refine stepL rfl (by rfl) (fun K hK => ?_)
        go_simp
        refine hK _ _ ⟨⟨(aqKeep HSX.out (by repeat (first | with_reducible refine Ext2.alloc ?_ _ | with_reducible refine Ext2.drew1 ?_ | with_reducible refine Ext2.setA ?_ _ _ | with_reducible assumption | with_reducible exact Ext2.refl _ _ _))), fun _ => (agKeep HGx.out (by repeat (first | with_reducible refine ext_alloc ?_ _ | with_reducible refine Below.drew ?_ | with_reducible assumption | with_reducible exact ext_refl _)))⟩, ?_⟩
        clear hK K
        refine takeF 17 (v := ?_) rfl (by kernel_rfl) (by kernel_rfl) (by kernel_rfl) (by kernel_rfl) (fun _ _ _ h => h) (Or.inl ⟨by rfl, ?_⟩) (aqKeep HSX.out (by repeat (first | with_reducible refine Ext2.alloc ?_ _ | with_reducible refine Ext2.drew1 ?_ | with_reducible refine Ext2.setA ?_ _ _ | with_reducible assumption | with_reducible exact Ext2.refl _ _ _))) (fun _ => (agKeep HGx.out (by repeat (first | with_reducible refine ext_alloc ?_ _ | with_reducible refine Below.drew ?_ | with_reducible assumption | with_reducible exact ext_refl _)))) ?_
        rotate_left 1
        · (rintro w' ⟨f0, f1, f2, f3, f4, _⟩; go_simp; with_reducible rfl)
        refine takeF 18 (v := ?_) rfl (by kernel_rfl) (by kernel_rfl) (by kernel_rfl) (by kernel_rfl) (fun _ _ _ h => h) (Or.inl ⟨by rfl, ?_⟩) (aqKeep HSX.out (by repeat (first | with_reducible refine Ext2.alloc ?_ _ | with_reducible refine Ext2.drew1 ?_ | with_reducible refine Ext2.setA ?_ _ _ | with_reducible assumption | with_reducible exact Ext2.refl _ _ _))) (fun _ => (agKeep HGx.out (by repeat (first | with_reducible refine ext_alloc ?_ _ | with_reducible refine Below.drew ?_ | with_reducible assumption | with_reducible exact ext_refl _)))) ?_
        rotate_left 1
        · (rintro w' ⟨f0, f1, f2, f3, f4, _⟩; go_simp; with_reducible rfl)
        refine allL [19] (by kernel_rfl) (by simp) ?_
        simp only [List.forall_mem_cons, List.not_mem_nil, false_implies, implies_true, and_true]
        refine stepL rfl (by rfl) (fun K hK => ?_)
        go_simp
        refine hK _ _ ⟨⟨(aqKeep HSX.out (by repeat (first | with_reducible refine Ext2.alloc ?_ _ | with_reducible refine Ext2.drew1 ?_ | with_reducible refine Ext2.setA ?_ _ _ | with_reducible assumption | with_reducible exact Ext2.refl _ _ _))), fun h => absurd h (by decide)⟩, ?_⟩
        clear hK K
        refine takeF 20 (v := ?_) rfl (by kernel_rfl) (by kernel_rfl) (by kernel_rfl) (by kernel_rfl) (fun _ _ _ h => h) (Or.inl ⟨by rfl, ?_⟩) (aqKeep HSX.out (by repeat (first | with_reducible refine Ext2.alloc ?_ _ | with_reducible refine Ext2.drew1 ?_ | with_reducible refine Ext2.setA ?_ _ _ | with_reducible assumption | with_reducible exact Ext2.refl _ _ _))) (fun h => absurd h (by decide)) ?_
        rotate_left 1
        · (rintro w' ⟨f0, f1, f2, f3, f4, _⟩; go_simp; with_reducible rfl)
        refine takeF 21 (v := ?_) rfl (by kernel_rfl) (by kernel_rfl) (by kernel_rfl) (by kernel_rfl) (fun _ _ _ h => h) (Or.inl ⟨by rfl, ?_⟩) (aqKeep HSX.out (by repeat (first | with_reducible refine Ext2.alloc ?_ _ | with_reducible refine Ext2.drew1 ?_ | with_reducible refine Ext2.setA ?_ _ _ | with_reducible assumption | with_reducible exact Ext2.refl _ _ _))) (fun h => absurd h (by decide)) ?_
        rotate_left 1
        · (rintro w' ⟨f0, f1, f2, f3, f4, _⟩; go_simp; with_reducible rfl)
        refine allL [22] (by kernel_rfl) (by simp) ?_
        simp only [List.forall_mem_cons, List.not_mem_nil, false_implies, implies_true, and_true]
        refine stepL rfl (by rfl) (fun K hK => ?_)
        go_simp
        refine hK _ _ ⟨⟨(aqKeep HSX.out (by repeat (first | with_reducible refine Ext2.alloc ?_ _ | with_reducible refine Ext2.drew1 ?_ | with_reducible refine Ext2.setA ?_ _ _ | with_reducible assumption | with_reducible exact Ext2.refl _ _ _))), fun h => absurd h (by decide)⟩, ?_⟩
        clear hK K
        refine doneL (by kernel_rfl) ?_ _
        go_wp2
        go_ret
        refine ⟨rfl, logR_of (by (repeat (first | with_reducible refine Blk.drew ?_ | with_reducible refine Blk.alloc ?_ _)); exact blk_set2 (HGx.out.ext hbX)) (by first | exact grownCap_ge V.drew 2 1 _ | exact grownCap_ge V 2 1 _) (by (repeat (with_reducible refine Blk.drew ?_)); exact Blk.new' _ _ _ (by simp)) (by (repeat (first | with_reducible refine Blk.drew ?_ | exact Blk.new' _ _ _ (by simp; done) | with_reducible refine Blk.alloc ?_ _)); done) (by first | exact grownCap_ge V.drew 1 0 _ | exact grownCap_ge V 1 0 _ | exact grownCap_ge _ 1 0 _) (HCH.out.ext2 (a := gl) (a' := gl) (by (repeat (first | with_reducible refine Ext2.alloc ?_ _ | with_reducible refine Ext2.drew1 ?_ | with_reducible refine Ext2.setA ?_ _ _ | with_reducible exact Ext2.refl _ _ _))) HGO.out HGO.out), ?_⟩
        refine (Ext2.of_ext (ext_call HE0.out HEx.out)).trans ?_
        repeat (first | with_reducible refine Ext2.alloc ?_ _ | with_reducible refine Ext2.drew1 ?_ | with_reducible refine Ext2.setA ?_ _ _ | with_reducible assumption)
    · refine stepL rfl (by rfl) (fun K hK => ?_)
      go_simp
      refine hK _ _ ⟨⟨(aqKeep HSX.out (by repeat (first | with_reducible refine Ext2.alloc ?_ _ | with_reducible refine Ext2.drew1 ?_ | with_reducible refine Ext2.setA ?_ _ _ | with_reducible assumption | with_reducible exact Ext2.refl _ _ _))), fun _ => (agKeep HGx.out (by repeat (first | with_reducible refine ext_alloc ?_ _ | with_reducible refine Below.drew ?_ | with_reducible assumption | with_reducible exact ext_refl _)))⟩, ?_⟩
      clear hK K
      refine allL [7] (by kernel_rfl) (by simp) ?_
      simp only [List.forall_mem_cons, List.not_mem_nil, false_implies, implies_true, and_true]
      refine stepL rfl (by rfl) (fun K hK => ?_)
      go_simp
      go_at_call 76
      refine (HOw.out _ (HCx.out.ext (by repeat (first | with_reducible refine ext_alloc ?_ _ | with_reducible refine Below.drew ?_ | with_reducible assumption | with_reducible exact ext_refl _)))).mono ?_
      rintro e V ⟨go, d, rfl, hgo, hch, hbo⟩
      have HGO := Lib.hid (show go ≠ gl by have h2 := Nat.le_trans (show X.heap.size ≤ _ from (show Below X.heap.size X _ from (by repeat (first | with_reducible refine ext_alloc ?_ _ | with_reducible refine Below.drew ?_ | with_reducible assumption | with_reducible exact ext_refl _))).size) hgo; have h3 := HGx.out.lt; omega)
      have HCH := Lib.hid hch
      clear hgo hch
      have hbX : Below X.heap.size X V := ext_call (by repeat (first | with_reducible refine ext_alloc ?_ _ | with_reducible refine Below.drew ?_ | with_reducible assumption | with_reducible exact ext_refl _)) hbo
      have hv2 : Ext2 gl gl X V := .of_ext hbX
      have hv0 := (HGx.out.ext hbX).cell 0; have hv1 := (HGx.out.ext hbX).cell 1; have vh0 := (HHx.out.ext hbX).cell 0; have vh1 := (HHx.out.ext hbX).cell 1; have vh2 := (HHx.out.ext hbX).cell 2
      have vf0 := (HGx.out.ext hbX).frozen 0; have vf1 := (HGx.out.ext hbX).frozen 1; have vgl := (HGx.out.ext hbX).lt; have vhl := (HHx.out.ext hbX).lt
      have vgl1 : gl < V.heap.size + 1 := by omega
      have vgl2 : gl < V.heap.size + 1 + 1 := by omega
      have vgl3 : gl < V.heap.size + 1 + 1 + 1 := by omega
      have vhl1 : gh < V.heap.size + 1 := by omega
      have vhl2 : gh < V.heap.size + 1 + 1 := by omega
      try (have hnb := (show Blk V X.heap.size 86 #[.int .i64 1, .string cz, .string t] from ((Blk.new X _ _).drew).ext hbo); have nb0 := hnb.cell 0; have nb1 := hnb.cell 1; have nb2 := hnb.cell 2; have nbl := hnb.lt; have nbl1 : X.heap.size < V.heap.size + 1 := (by omega); have nbl2 : X.heap.size < V.heap.size + 1 + 1 := (by omega); clear hnb)
      clear hbo
      refine hK _ _ ⟨⟨aqKeep HSX.out hv2, fun _ => agKeep HGx.out hbX⟩, ?_⟩
      clear hK K
      refine allL [8] (by kernel_rfl) (by simp) ?_
      simp only [List.forall_mem_cons, List.not_mem_nil, false_implies, implies_true, and_true]
      refine stepL rfl (by rfl) (fun K hK => ?_)
      go_simp
      refine hK _ _ ⟨⟨(aqKeep HSX.out (by repeat (first | with_reducible refine Ext2.alloc ?_ _ | with_reducible refine Ext2.drew1 ?_ | with_reducible refine Ext2.setA ?_ _ _ | with_reducible assumption | with_reducible exact Ext2.refl _ _ _))), fun _ => (agKeep HGx.out (by repeat (first | with_reducible refine ext_alloc ?_ _ | with_reducible refine Below.drew ?_ | with_reducible assumption | with_reducible exact ext_refl _)))⟩, ?_⟩
      clear hK K
      refine allL [9] (by kernel_rfl) (by simp) ?_
      simp only [List.forall_mem_cons, List.not_mem_nil, false_implies, implies_true, and_true]
      refine stepL rfl (by rfl) (fun K hK => ?_)
      go_simp
      refine hK _ _ ⟨⟨(aqKeep HSX.out (by repeat (first | with_reducible refine Ext2.alloc ?_ _ | with_reducible refine Ext2.drew1 ?_ | with_reducible refine Ext2.setA ?_ _ _ | with_reducible assumption | with_reducible exact Ext2.refl _ _ _))), fun _ => (agKeep HGx.out (by repeat (first | with_reducible refine ext_alloc ?_ _ | with_reducible refine Below.drew ?_ | with_reducible assumption | with_reducible exact ext_refl _)))⟩, ?_⟩
      clear hK K
      refine allL [16] (by kernel_rfl) (by simp) ?_
      simp only [List.forall_mem_cons, List.not_mem_nil, false_implies, implies_true, and_true]
      refine stepL rfl (by rfl) (fun K hK => ?_)
      go_simp
      refine hK _ _ ⟨⟨(aqKeep HSX.out (by repeat (first | with_reducible refine Ext2.alloc ?_ _ | with_reducible refine Ext2.drew1 ?_ | with_reducible refine Ext2.setA ?_ _ _ | with_reducible assumption | with_reducible exact Ext2.refl _ _ _))), fun _ => (agKeep HGx.out (by repeat (first | with_reducible refine ext_alloc ?_ _ | with_reducible refine Below.drew ?_ | with_reducible assumption | with_reducible exact ext_refl _)))⟩, ?_⟩
      clear hK K
      refine takeF 17 (v := ?_) rfl (by kernel_rfl) (by kernel_rfl) (by kernel_rfl) (by kernel_rfl) (fun _ _ _ h => h) (Or.inl ⟨by rfl, ?_⟩) (aqKeep HSX.out (by repeat (first | with_reducible refine Ext2.alloc ?_ _ | with_reducible refine Ext2.drew1 ?_ | with_reducible refine Ext2.setA ?_ _ _ | with_reducible assumption | with_reducible exact Ext2.refl _ _ _))) (fun _ => (agKeep HGx.out (by repeat (first | with_reducible refine ext_alloc ?_ _ | with_reducible refine Below.drew ?_ | with_reducible assumption | with_reducible exact ext_refl _)))) ?_
      rotate_left 1
      · (rintro w' ⟨f0, f1, f2, f3, f4, _⟩; go_simp; with_reducible rfl)
      refine takeF 18 (v := ?_) rfl (by kernel_rfl) (by kernel_rfl) (by kernel_rfl) (by kernel_rfl) (fun _ _ _ h => h) (Or.inl ⟨by rfl, ?_⟩) (aqKeep HSX.out (by repeat (first | with_reducible refine Ext2.alloc ?_ _ | with_reducible refine Ext2.drew1 ?_ | with_reducible refine Ext2.setA ?_ _ _ | with_reducible assumption | with_reducible exact Ext2.refl _ _ _))) (fun _ => (agKeep HGx.out (by repeat (first | with_reducible refine ext_alloc ?_ _ | with_reducible refine Below.drew ?_ | with_reducible assumption | with_reducible exact ext_refl _)))) ?_
      rotate_left 1
      · (rintro w' ⟨f0, f1, f2, f3, f4, _⟩; go_simp; with_reducible rfl)
      refine allL [19] (by kernel_rfl) (by simp) ?_
      simp only [List.forall_mem_cons, List.not_mem_nil, false_implies, implies_true, and_true]
      refine stepL rfl (by rfl) (fun K hK => ?_)
      go_simp
      refine hK _ _ ⟨⟨(aqKeep HSX.out (by repeat (first | with_reducible refine Ext2.alloc ?_ _ | with_reducible refine Ext2.drew1 ?_ | with_reducible refine Ext2.setA ?_ _ _ | with_reducible assumption | with_reducible exact Ext2.refl _ _ _))), fun h => absurd h (by decide)⟩, ?_⟩
      clear hK K
      refine takeF 20 (v := ?_) rfl (by kernel_rfl) (by kernel_rfl) (by kernel_rfl) (by kernel_rfl) (fun _ _ _ h => h) (Or.inl ⟨by rfl, ?_⟩) (aqKeep HSX.out (by repeat (first | with_reducible refine Ext2.alloc ?_ _ | with_reducible refine Ext2.drew1 ?_ | with_reducible refine Ext2.setA ?_ _ _ | with_reducible assumption | with_reducible exact Ext2.refl _ _ _))) (fun h => absurd h (by decide)) ?_
      rotate_left 1
      · (rintro w' ⟨f0, f1, f2, f3, f4, _⟩; go_simp; with_reducible rfl)
      refine takeF 21 (v := ?_) rfl (by kernel_rfl) (by kernel_rfl) (by kernel_rfl) (by kernel_rfl) (fun _ _ _ h => h) (Or.inl ⟨by rfl, ?_⟩) (aqKeep HSX.out (by repeat (first | with_reducible refine Ext2.alloc ?_ _ | with_reducible refine Ext2.drew1 ?_ | with_reducible refine Ext2.setA ?_ _ _ | with_reducible assumption | with_reducible exact Ext2.refl _ _ _))) (fun h => absurd h (by decide)) ?_
      rotate_left 1
      · (rintro w' ⟨f0, f1, f2, f3, f4, _⟩; go_simp; with_reducible rfl)
      refine allL [22] (by kernel_rfl) (by simp) ?_
      simp only [List.forall_mem_cons, List.not_mem_nil, false_implies, implies_true, and_true]
      refine stepL rfl (by rfl) (fun K hK => ?_)
      go_simp
      refine hK _ _ ⟨⟨(aqKeep HSX.out (by repeat (first | with_reducible refine Ext2.alloc ?_ _ | with_reducible refine Ext2.drew1 ?_ | with_reducible refine Ext2.setA ?_ _ _ | with_reducible assumption | with_reducible exact Ext2.refl _ _ _))), fun h => absurd h (by decide)⟩, ?_⟩
      clear hK K
      refine doneL (by kernel_rfl) ?_ _
      go_wp2
      go_ret
      refine ⟨rfl, logR_of (by (repeat (first | with_reducible refine Blk.drew ?_ | with_reducible refine Blk.alloc ?_ _)); exact blk_set2 (HGx.out.ext hbX)) (by first | exact grownCap_ge V.drew 2 1 _ | exact grownCap_ge V 2 1 _) (by (repeat (with_reducible refine Blk.drew ?_)); exact Blk.new' _ _ _ (by simp)) (by (repeat (first | with_reducible refine Blk.drew ?_ | exact Blk.new' _ _ _ (by simp; done) | with_reducible refine Blk.alloc ?_ _)); done) (by first | exact grownCap_ge V.drew 1 0 _ | exact grownCap_ge V 1 0 _ | exact grownCap_ge _ 1 0 _) (HCH.out.ext2 (a := gl) (a' := gl) (by (repeat (first | with_reducible refine Ext2.alloc ?_ _ | with_reducible refine Ext2.drew1 ?_ | with_reducible refine Ext2.setA ?_ _ _ | with_reducible exact Ext2.refl _ _ _))) HGO.out HGO.out), ?_⟩
      refine (Ext2.of_ext (ext_call HE0.out HEx.out)).trans ?_
      repeat (first | with_reducible refine Ext2.alloc ?_ _ | with_reducible refine Ext2.drew1 ?_ | with_reducible refine Ext2.setA ?_ _ _ | with_reducible assumption)

end Go.Proofs.YtbgfmbmcabekeaaGreatDoor
