/-
  Part 10 of 17: the contracts that the proof of the last part uses; each stands under its own head.
-/
import Derived.Test.YtbgfmbmcabekeaaGreatDoorJ9
import Derived.Test.YtbgfmbmcabekeaaGreatDoorJ8
import Derived.Test.YtbgfmbmcabekeaaGreatDoorJ2
import Derived.Shelf.Strings.BuilderK
import Derived.Lib.FrozenHead2
import Derived.Lib.OthersKept
import Derived.Shelf.RegionOpen
import Derived.LoopN
import Derived.WalkMore
import Derived.Test.YtbgfmbmcabekeaaGreatDoorJ5
import Derived.BigQuiet
import Derived.Deep.RegionHeld3
import Derived.Test.YtbgfmbmcabekeaaGreatDoorJ4
set_option linter.unusedSimpArgs false
set_option linter.unusedVariables false

/-
  package origin: answers, want, Receive of a message that wants a ring.
-/
namespace Go.Proofs.YtbgfmbmcabekeaaGreatDoor
open Go.RowKit Go.Shelf

set_option maxRecDepth 100000 in
set_option maxHeartbeats 1000000 in
theorem answers_any (w : World) : Calls Tryz.prog 52 #[] w fun e w' => ∃ g, e = .returned (.map (some g)) ∧ w.heap.size ≤ g ∧ MapI w' g [(3, .func (.func 91) #[] #[]), (7, .func (.func 92) #[] #[]), (9, .func (.func 93) #[] #[])] ∧ Below w.heap.size w w' := by
  have hmm := @run_makeMap Tryz.prog
  obtain ⟨o1, u1, m1⟩ := update_I (P := Tryz.prog) (w := w.alloc (.map #[] 0)) Tryz.underlying119 Tryz.underlying3 (MapI.new w) 3 (.func (.func 91) #[] #[])
  obtain ⟨o2, u2, m2⟩ := update_I (P := Tryz.prog) (w := (w.alloc (.map #[] 0)).putObj w.heap.size o1) Tryz.underlying119 Tryz.underlying3 m1 7 (.func (.func 92) #[] #[])
  obtain ⟨o3, u3, m3⟩ := update_I (P := Tryz.prog) (w := ((w.alloc (.map #[] 0)).putObj w.heap.size o1).putObj w.heap.size o2) Tryz.underlying119 Tryz.underlying3 m2 9 (.func (.func 93) #[] #[])
  have HM := Lib.hid m3
  clear m1 m2 m3
  go_enter Tryz.func52, Tryz.ntmps52
  go_wp2
  go_ret
  exact ⟨_, rfl, Nat.le_refl _, HM.out, ext_put (ext_put (ext_put (ext_new _ _) (Nat.le_refl _) _) (Nat.le_refl _) _) (Nat.le_refl _) _⟩

end Go.Proofs.YtbgfmbmcabekeaaGreatDoor

/-
  package message: the writer (a strings.Builder inside a struct): copyCheck, WriteString, Len.
-/
namespace Go.Proofs.YtbgfmbmcabekeaaGreatDoor
open Go.RowKit Go.Shelf

theorem byte_info : (Tryz.prog.info? 5).map (fun i => (i.zero, i.size, i.bytes)) = some (some (.int .u8 0), 1, 1) := by kernel_rfl
theorem bld_size : (Tryz.prog.info? 163).map (·.size) = some 2 := by kernel_rfl
theorem bld_lies : liesAt Tryz.prog Tryz.prog.depth 165 (2 / Tryz.prog.cellsOf 165) 0 163 1 = true := by kernel_rfl

/-- a writer at block b, of at most n bytes -/
def WrAt (w : World) (B b n : Nat) : Prop := B ≤ w.heap.size ∧ ∃ bs, bs.length = n ∧ Lib.IsBuilderF 165 5 B b bs w
/-- what a write leaves alone -/
def WrKept (B b : Nat) (w w' : World) : Prop := Below B w w' ∧ Lib.OthersKept 5 (some b) w w'

theorem others_ext {e : TypeId} {b : Option Nat} {w w' : World} (h : Below w.heap.size w w') : Lib.OthersKept e b w w' := fun k o hk _ _ => by
  rw [h.block k (Array.getElem?_eq_some_iff.1 hk).1]; exact hk
theorem WrKept.refl (B b : Nat) (w : World) : WrKept B b w w := ⟨Below.refl B w, Lib.OthersKept.refl _ _ w⟩
theorem WrKept.trans {B b : Nat} {w w' w'' : World} (h : WrKept B b w w') (k : WrKept B b w' w'') : WrKept B b w w'' := ⟨h.1.trans k.1, h.2.trans k.2⟩
theorem WrKept.of_ext {B b : Nat} {w w' : World} (h : Below w.heap.size w w') (hB : B ≤ w.heap.size) : WrKept B b w w' := ⟨h.mono hB, others_ext h⟩
theorem WrKept.ext {B b : Nat} {w w' w'' : World} (h : WrKept B b w w') (k : Below w'.heap.size w' w'') (hB : B ≤ w.heap.size) : WrKept B b w w'' := h.trans (.of_ext k (Nat.le_trans hB h.1.size))
theorem WrKept.blk {B b g : Nat} {w w' : World} {t : TypeId} {cs : Array Value} (h : WrKept B b w w') (hg : Blk w g t cs) (ht : t ≠ 5) (hne : g ≠ b) : Blk w' g t cs :=
  h.2 g _ hg (fun e => hne (Option.some.inj e)) (fun c fz e => ht (by injection e))
theorem WrAt.ext {w w' : World} {B b n : Nat} (h : WrAt w B b n) (k : Below w.heap.size w w') : WrAt w' B b n := by
  obtain ⟨hB, bs, hl, hb⟩ := h
  have key : ∀ p, Lib.BuilderAtF 165 5 B b p bs w → Lib.BuilderAtF 165 5 B b p bs w' := by
    rintro p ⟨h1, v, h2, h3, h4⟩
    refine ⟨h1, v, by rw [k.block b (Array.getElem?_eq_some_iff.1 h2).1]; exact h2, ⟨h3.1, ?_⟩, h4⟩
    rcases h3.2 with hn | ⟨g, cap, cur, fz, hv, hg, hc, rest⟩
    · exact .inl hn
    · exact .inr ⟨g, cap, cur, fz, hv, hg, by rw [k.block g (Array.getElem?_eq_some_iff.1 hc).1]; exact hc, rest⟩
  exact ⟨Nat.le_trans hB k.size, bs, hl, hb.elim (fun x => .inl (key _ x)) (fun x => .inr (key _ x))⟩
theorem WrAt.lt {w : World} {B b n : Nat} (h : WrAt w B b n) : b < w.heap.size := by
  obtain ⟨_, bs, _, h | h⟩ := h
  · exact h.lt
  · exact h.lt
theorem WrAt.new (w : World) : WrAt (w.alloc (.cells #[.pointer none, .slice none 0 0] 165)) w.heap.size w.heap.size 0 :=
  ⟨by simp, [], rfl, .of (Lib.fresh_isBuilder _ _ w)⟩

set_option maxHeartbeats 1000000 in
set_option maxRecDepth 100000 in
theorem cc_used (b : Nat) (w : World) (h0 : w.cell? ⟨b, 0, none⟩ = some (.pointer (some ⟨b, 0, none⟩))) :
    Calls Tryz.prog 161 #[.pointer (some ⟨b, 0, none⟩)] w fun e w' => e = .returned (.tuple #[]) ∧ w' = w := by
  obtain ⟨j, hj, _⟩ := Option.map_eq_some_iff.1 bld_size
  go_enter Tryz.func161, Tryz.ntmps161
  go_wp2
  rw [Lib.run_neq_ptr_same w _ Tryz.underlying160 hj]
  go_wp2
  go_end0
  exact ⟨rfl, rfl⟩

set_option maxHeartbeats 1000000 in
set_option maxRecDepth 100000 in
theorem cc_fresh (b : Nat) (w : World) (h0 : w.cell? ⟨b, 0, none⟩ = some (.pointer none)) (hsh : w.shape? b = some (165, 2)) (hfz : w.frozen? ⟨b, 0, none⟩ = false) :
    Calls Tryz.prog 161 #[.pointer (some ⟨b, 0, none⟩)] w fun e w' => e = .returned (.tuple #[]) ∧ w' = w.setCell ⟨b, 0, none⟩ (.pointer (some ⟨b, 0, none⟩)) := by
  obtain ⟨j, hj, hjs⟩ := Option.map_eq_some_iff.1 bld_size
  go_enter Tryz.func161, Tryz.ntmps161
  go_wp2
  rw [Lib.run_to_unsafe w ⟨b, 0, none⟩ Tryz.underlying160 Tryz.underlying295 hj (by rw [hjs]; decide) hsh (Nat.zero_lt_succ 1)]
  simp only [Result.andThen]
  rw [Oper.upon_value]
  go_wp2
  rw [run_callFunc_extern Tryz.func194 (by kernel_rfl) (by kernel_rfl) (by kernel_rfl) (e := Extern.AbiNoEscape.same) (by kernel_rfl)]
  rw [Lib.run_noEscape]
  simp only [Result.andThen]
  rw [Oper.upon_value]
  go_wp2
  rw [Lib.run_from_unsafe w ⟨b, 0, none⟩ Tryz.underlying295 Tryz.underlying160 hj hsh bld_lies]
  simp only [Result.andThen]
  rw [Oper.upon_value]
  go_wp2
  go_end0
  exact ⟨rfl, rfl⟩

theorem cc_any (B b : Nat) (bs : List Value) (w : World) (h : Lib.IsBuilderF 165 5 B b bs w) :
    Calls Tryz.prog 161 #[.pointer (some ⟨b, 0, none⟩)] w fun e w' => e = .returned (.tuple #[]) ∧ Lib.BuilderAtF 165 5 B b (.pointer (some ⟨b, 0, none⟩)) bs w' ∧ WrKept B b w w' := by
  rcases h with h | h
  · refine (cc_fresh b w h.cell0 h.shape h.frozen0).mono ?_
    rintro e w' ⟨rfl, rfl⟩
    exact ⟨rfl, h.used _, (Below.refl B w).setCell (p := ⟨b, 0, none⟩) h.1 _, (Lib.OthersKept.refl _ _ w).setCell ⟨b, 0, none⟩ rfl _⟩
  · refine (cc_used b w h.cell0).mono ?_
    rintro e w' ⟨rfl, rfl⟩
    exact ⟨rfl, h, .refl B b _⟩

set_option maxHeartbeats 2000000 in
set_option maxRecDepth 100000 in
theorem writeStr (B b n : Nat) (s : ByteArray) (w : World) (h : WrAt w B b n) (hn : n ≤ 100000) (hs : s.size ≤ 100000) :
    Calls Tryz.prog 111 #[.pointer (some ⟨b, 0, none⟩), .string s] w fun e w' => e = .returned (.tuple #[.int .i64 s.size, .nilIface]) ∧ WrAt w' B b (n + s.size) ∧ WrKept B b w w' := by
  obtain ⟨i0, hi, hz0, hz1, hz2⟩ := info_parts byte_info
  obtain ⟨hBw, bs, hl, hb⟩ := h
  go_enter Tryz.func111, Tryz.ntmps111
  go_wp2_with (go_at_call 161; refine (cc_any B b bs _ hb).mono ?_)
  rintro e w1 ⟨rfl, h1, hk1⟩
  have hb1 := hk1.1
  obtain ⟨hB, v, hbk, hown, hne⟩ := h1
  have c0 : w1.cell? ⟨b, 0, none⟩ = some (.pointer (some ⟨b, 0, none⟩)) := by rw [Lib.cell_of_heap hbk]; rfl
  have c1 : w1.cell? ⟨b, 1, none⟩ = some v := by rw [Lib.cell_of_heap hbk]; rfl
  go_wp2_with (at_builtin; refine Lib.wpList_append_own_stringF _ rfl _ _ 161 9 rfl B 5 i0 Tryz.underlying161 Tryz.underlying9 hi hz0 hz1 hz2 _ _ _ rfl hown s rfl ?c3 ?c4 ?c5 ?_)
  case c3 => unfold maxLen; omega
  case c4 => omega
  case c5 => have := hb1.size; omega
  intro v' w2 hown' hgrow _
  have hlt : b < w1.heap.size := (Array.getElem?_eq_some_iff.1 hbk).1
  have hb2 : w2.heap[b]? = some (.cells #[.pointer (some ⟨b, 0, none⟩), v] 165 (0, 0)) := by
    rw [hgrow.block b hlt (fun e => hne e.symm)]
    exact hbk
  have d0 : w2.cell? ⟨b, 0, none⟩ = some (.pointer (some ⟨b, 0, none⟩)) := by rw [Lib.cell_of_heap hb2]; rfl
  have d1 : w2.cell? ⟨b, 1, none⟩ = some v := by rw [Lib.cell_of_heap hb2]; rfl
  have f1 : w2.frozen? ⟨b, 1, none⟩ = false := Lib.frozen_of_heap hb2 1
  obtain ⟨ao, n', cap, rfl⟩ : ∃ ao n' cap, v' = .slice ao n' cap := by
    rcases hown'.2 with ⟨hv, _⟩ | ⟨g, cap, cur, fz, hv, _⟩
    · exact ⟨_, _, _, hv⟩
    · exact ⟨_, _, _, hv⟩
  go_wp2
  go_ret2
  have hbn : Below B w1 (w2.setCell ⟨b, 1, none⟩ (.slice ao n' cap)) := ((Below.refl B w1).grown hgrow (by have := hb1.size; omega) (fun k hk => (hown.lt k hk).1)).setCell (p := ⟨b, 1, none⟩) hB _
  refine ⟨rfl, ⟨Nat.le_trans hBw (Nat.le_trans hb1.size hbn.size), bs ++ Lib.strCells s, ?_, .inr ?_⟩, hk1.trans ⟨hbn, ?_⟩⟩
  · simp [hl, Lib.strCells_length]
  · exact Lib.BuilderAtF.put (T := 165) (e := 5) hB hb2 (bs' := bs ++ Lib.strCells s) (by simpa [Lib.strCells_length, hl] using hown') (by decide)
  · exact ((Lib.OthersKept.refl _ _ w1).grown hgrow (Lib.ownsRowF_kind hown)).setCell ⟨b, 1, none⟩ rfl _

set_option maxHeartbeats 1000000 in
set_option maxRecDepth 100000 in
theorem writerLen (B b n : Nat) (w : World) (h : WrAt w B b n) : Calls Tryz.prog 85 #[.pointer (some ⟨b, 0, none⟩)] w fun e w' => e = .returned (.int .i64 n) ∧ w = w' := by
  obtain ⟨hBw, bs, rfl, hb⟩ := h
  obtain ⟨p, hB, v, hbk, hown, hne⟩ : ∃ p, Lib.BuilderAtF 165 5 B b p bs w := by
    rcases hb with h | h
    · exact ⟨_, h⟩
    · exact ⟨_, h⟩
  obtain ⟨ao, cap, rfl⟩ : ∃ ao cap, v = .slice ao bs.length cap := by
    rcases hown.2 with ⟨hv, h0⟩ | ⟨g, cap, cur, fz, hv, _⟩
    · exact ⟨none, 0, by rw [hv, h0]⟩
    · exact ⟨_, _, hv⟩
  have c1 : w.cell? ⟨b, 1, none⟩ = some (.slice ao bs.length cap) := by rw [Lib.cell_of_heap hbk]; rfl
  go_enter Tryz.func85, Tryz.ntmps85
  go_wp2
  go_ret
  exact ⟨rfl, rfl⟩

end Go.Proofs.YtbgfmbmcabekeaaGreatDoor

/-
  package wire: PutString at strings of one group; package message: text, ints, query, row.
-/
namespace Go.Proofs.YtbgfmbmcabekeaaGreatDoor
open Go.RowKit Go.Shelf

theorem WrAt.blk {w : World} {B b n : Nat} (h : WrAt w B b n) : ∃ p v, w.heap[b]? = some (.cells #[p, v] 165 (0, 0)) := by
  obtain ⟨_, bs, _, h | h⟩ := h
  · obtain ⟨_, v, h, _⟩ := h; exact ⟨_, v, h⟩
  · obtain ⟨_, v, h, _⟩ := h; exact ⟨_, v, h⟩
theorem WrAt.ne {w : World} {B b n g : Nat} {t : TypeId} {cs : Array Value} (h : WrAt w B b n) (hg : Blk w g t cs) (ht : t ≠ 165) : g ≠ b := by
  rintro rfl
  obtain ⟨p, v, hb⟩ := h.blk
  unfold Blk at hg
  rw [hg] at hb
  injection hb with hb
  injection hb with _ hb _
  exact ht hb
set_option maxHeartbeats 1000000 in
theorem putString_any (s : ByteArray) (hs : s.size < 64) (w : World) :
    Calls Tryz.prog 200 #[.string s] w fun e w' => e = .returned (.tuple #[.string (byteS (2 * s.size) ++ s), .int .i64 0]) ∧ Below w.heap.size w w' := by
  have d1 : decide ((65536 : Int) < (s.size : Int)) = false := decide_eq_false (by omega)
  have d2 : (byteS (2 * s.size)).size + s.size ≤ 9223372036854775807 := by show 1 + s.size ≤ _; omega
  go_enter Tryz.func200, Tryz.ntmps200
  go_wp2_with (go_at_call 103; refine (putInt_any s.size hs _).mono ?_; rintro e W1 ⟨rfl, hb1⟩)
  go_ret2
  exact ⟨rfl, hb1⟩

set_option maxHeartbeats 1000000 in
theorem textW (B b n : Nat) (s : ByteArray) (hs : s.size < 64) (hn : n ≤ 90000) (w : World) (h : WrAt w B b n) :
    Calls Tryz.prog 174 #[.pointer (some ⟨b, 0, none⟩), .string s] w fun e w' => e = .returned (.tuple #[]) ∧ WrAt w' B b (n + (1 + s.size)) ∧ WrKept B b w w' := by
  have H := Lib.hid h
  have hsz : (byteS (2 * s.size) ++ s).size = 1 + s.size := by rw [ByteArray.size_append]; rfl
  obtain ⟨t, ht⟩ : ∃ t, t = byteS (2 * s.size) ++ s := ⟨_, rfl⟩
  have HP := Lib.hid (putString_any s hs)
  rw [← ht] at HP hsz
  clear h ht
  go_enter Tryz.func174, Tryz.ntmps174
  go_wp2_with fail
  refine (HP.out _).mono ?_
  rintro e W1 ⟨rfl, hb1⟩
  have H1 := Lib.hid (H.out.ext hb1)
  have K1 := Lib.hid (WrKept.of_ext (b := b) hb1 H.out.1)
  clear hb1
  go_wp2_with fail
  refine (writeStr B b n t _ H1.out (by omega) (by omega)).mono ?_
  rintro e W2 ⟨rfl, h2, k2⟩
  have H2 := Lib.hid h2
  have K2 := Lib.hid k2
  clear h2 k2
  go_wp2
  go_end0
  exact ⟨rfl, by rw [← hsz]; exact H2.out, K1.out.trans K2.out⟩

set_option maxRecDepth 100000 in
set_option maxHeartbeats 1000000 in
theorem intsW (B b n g c : Nat) (ns : List Nat) (hns : ∀ x ∈ ns, x < 64) (hl : ns.length ≤ 100) (hn : n ≤ 90000) (w : World) (h : WrAt w B b n) (hg : Blk w g 3 (ns.map fun n : Nat => Value.int .i64 (n : Int)).toArray) :
    Calls Tryz.prog 131 #[.pointer (some ⟨b, 0, none⟩), .slice (some ⟨g, 0, none⟩) ns.length c] w fun e w' => e = .returned (.tuple #[]) ∧ WrAt w' B b (n + ns.length) ∧ WrKept B b w w' := by
  have H := Lib.hid h
  have HG := Lib.hid hg
  have HNS := Lib.hid hns
  clear h hg hns
  go_enter Tryz.func131, Tryz.ntmps131
  go_wp2_with fail
  go_loopw [5, 6, 7, 10] (fun _ _ _ i W => ∃ k : Nat, k ≤ ns.length ∧ i = .int .i64 k ∧ WrAt W B b (n + k) ∧ WrKept B b w W) (fun _ _ _ i _ => ns.length - (intOf i).toNat)
  case atStart => exact ⟨0, Nat.zero_le _, rfl, H.out, .refl B b w⟩
  case round =>
    obtain ⟨k, hk, rfl, hA, hK⟩ := hrel
    have HA := Lib.hid hA
    have HK := Lib.hid hK
    clear hA hK
    by_cases hlt : k < ns.length
    · obtain ⟨x, hx⟩ : ∃ x, ns[k]? = some x := ⟨_, List.getElem?_eq_getElem hlt⟩
      have hx64 : x < 64 := HNS.out x (List.mem_of_getElem? hx)
      have hG := HK.out.blk HG.out (by decide) (H.out.ne HG.out (by decide))
      have x0 : wr.cell? ⟨g, k, none⟩ = some (.int .i64 (x : Int)) := by
        refine (hG.cell k).trans ?_
        simp [hx]
      have e2 : IntKind.i64.wrap ((k : Int) + 1) = (k : Int) + 1 := by rw [IntWalk.i64_in _ (by omega)]
      have d1 : decide ((k : Int) < (ns.length : Int)) = true := by simp; omega
      have q0 : (0 : Int) ≤ (k : Int) := by omega
      have q1 : (k : Int) < (ns.length : Int) := by omega
      clear hx hG
      go_wp2_with fail
      refine (putInt_any x hx64 _).mono ?_
      rintro e W1 ⟨rfl, hb1⟩
      have HA1 := Lib.hid (HA.out.ext hb1)
      have HK1 := Lib.hid (HK.out.ext hb1 H.out.1)
      clear hb1 x0
      go_wp2_with fail
      refine (writeStr B b (n + k) (byteS (2 * x)) _ HA1.out (by omega) (by show 1 ≤ _; omega)).mono ?_
      rintro e W2 ⟨rfl, h2, k2⟩
      have HA2 := Lib.hid h2
      have HK2 := Lib.hid (HK1.out.trans k2)
      clear h2 k2
      go_wp2
      go_roundw
      case rel => exact ⟨k + 1, by omega, by go_num, HA2.out, HK2.out⟩
      case measure => simp [intOf]; omega
    · obtain rfl : k = ns.length := by omega
      have d1 : decide ((ns.length : Int) < (ns.length : Int)) = false := by simp
      go_wp2
      go_end0
      exact ⟨rfl, HA.out, HK.out⟩

end Go.Proofs.YtbgfmbmcabekeaaGreatDoor

/-
  package statetree: the index functions of Prove.
-/
namespace Go.Proofs.YtbgfmbmcabekeaaGreatDoor
open Go.RowKit
attribute [local go_sem ↓] Go.wp_at_zero Go.wp_at_succ

theorem prGeq (bl : Nat) (w : World) (h : Blk w bl 3 #[.int .i64 5]) : Calls Tryz.prog 204 #[.int .i64 5, .pointer (some ⟨bl, 0, none⟩)] w fun e w' => e = .returned (.bool true) ∧ w = w' := by
  have c0 := h.cell 0
  clear h
  go_enter Tryz.func204, Tryz.ntmps204
  go_wp2
  go_ret
  exact ⟨rfl, rfl⟩
theorem prGtr (bl : Nat) (w : World) (h : Blk w bl 3 #[.int .i64 5]) : Calls Tryz.prog 205 #[.int .i64 5, .pointer (some ⟨bl, 0, none⟩)] w fun e w' => e = .returned (.bool false) ∧ w = w' := by
  have c0 := h.cell 0
  clear h
  go_enter Tryz.func205, Tryz.ntmps205
  go_wp2
  go_ret
  exact ⟨rfl, rfl⟩

/-- the boxes of the innermost closure -/
def AtBoxes (f : Nat) (W : World) (bi bc bl : Nat) : Prop := Blk W bi 203 #[.func (.func f) #[] #[.pointer (some ⟨bl, 0, none⟩)]] ∧ Blk W bc 3 #[.int .i64 0] ∧ Blk W bl 3 #[.int .i64 5]
theorem AtBoxes.ext {f : Nat} {w W : World} {bi bc bl : Nat} (h : AtBoxes f w bi bc bl) (k : Below w.heap.size w W) : AtBoxes f W bi bc bl := ⟨h.1.ext k, h.2.1.ext k, h.2.2.ext k⟩
theorem AtBoxes.lo {f : Nat} {W : World} {bi bc bl : Nat} (h : AtBoxes f W bi bc bl) : Blk W bl 3 #[.int .i64 5] := h.2.2
theorem row_value0 (w : World) : Calls Tryz.prog 166 #[.agg #[.int .i64 0, .int .i64 5, .int .i64 1, .int .i64 2, .int .i64 3], .int .i64 0] w fun e w' => e = .returned (.int .i64 5) ∧ Below w.heap.size w w' := value_row 0 (by omega) w

set_option maxRecDepth 100000 in
set_option maxHeartbeats 1000000 in
theorem at_Geq (bi bc bl : Nat) (w : World) (hB : AtBoxes 204 w bi bc bl) :
    Calls Tryz.prog 203 #[.agg #[.int .i64 0, .int .i64 5, .int .i64 1, .int .i64 2, .int .i64 3], .pointer (some ⟨bi, 0, none⟩), .pointer (some ⟨bc, 0, none⟩)] w fun e w' => e = .returned (.bool true) ∧ Below w.heap.size w w' := by
  have HB := Lib.hid (hB.ext (ext_new w (.cells #[.int .i64 0, .int .i64 5, .int .i64 1, .int .i64 2, .int .i64 3] 77)))
  have HR := Lib.hid (Blk.new w 77 #[.int .i64 0, .int .i64 5, .int .i64 1, .int .i64 2, .int .i64 3])
  have i0 := HB.out.1.cell 0
  have k0 := HB.out.2.1.cell 0
  have c0 := HR.out.cell 0; have c1 := HR.out.cell 1; have c2 := HR.out.cell 2; have c3 := HR.out.cell 3; have c4 := HR.out.cell 4
  have il := hB.1.lt
  have kl := hB.2.1.lt
  clear hB
  go_enter Tryz.func203, Tryz.ntmps203
  go_wp2
  go_region_with (first
    | (go_at_call 166; (with_reducible refine (row_value0 _).mono ?_); rintro e W1 ⟨rfl, hb1⟩; have HB1 := Lib.hid (HB.out.ext (undrew hb1)); have HE1 := Lib.hid (ext_call (ext_new w _) (undrew hb1)); have hj0 := HB1.out.1.cell 0; clear hb1)
    | (go_at_call 204; (with_reducible refine (prGeq bl _ HB1.out.lo).mono ?_); rintro e W2 ⟨rfl, rfl⟩))
  all_goals
    go_wp2
    go_ret
    exact ⟨rfl, HE1.out⟩

set_option maxRecDepth 100000 in
set_option maxHeartbeats 1000000 in
theorem at_Gtr (bi bc bl : Nat) (w : World) (hB : AtBoxes 205 w bi bc bl) :
    Calls Tryz.prog 203 #[.agg #[.int .i64 0, .int .i64 5, .int .i64 1, .int .i64 2, .int .i64 3], .pointer (some ⟨bi, 0, none⟩), .pointer (some ⟨bc, 0, none⟩)] w fun e w' => e = .returned (.bool false) ∧ Below w.heap.size w w' := by
  have HB := Lib.hid (hB.ext (ext_new w (.cells #[.int .i64 0, .int .i64 5, .int .i64 1, .int .i64 2, .int .i64 3] 77)))
  have HR := Lib.hid (Blk.new w 77 #[.int .i64 0, .int .i64 5, .int .i64 1, .int .i64 2, .int .i64 3])
  have i0 := HB.out.1.cell 0
  have k0 := HB.out.2.1.cell 0
  have c0 := HR.out.cell 0; have c1 := HR.out.cell 1; have c2 := HR.out.cell 2; have c3 := HR.out.cell 3; have c4 := HR.out.cell 4
  have il := hB.1.lt
  have kl := hB.2.1.lt
  clear hB
  go_enter Tryz.func203, Tryz.ntmps203
  go_wp2
  go_region_with (first
    | (go_at_call 166; (with_reducible refine (row_value0 _).mono ?_); rintro e W1 ⟨rfl, hb1⟩; have HB1 := Lib.hid (HB.out.ext (undrew hb1)); have HE1 := Lib.hid (ext_call (ext_new w _) (undrew hb1)); have hj0 := HB1.out.1.cell 0; clear hb1)
    | (go_at_call 205; (with_reducible refine (prGtr bl _ HB1.out.lo).mono ?_); rintro e W2 ⟨rfl, rfl⟩))
  all_goals
    go_wp2
    go_ret
    exact ⟨rfl, HE1.out⟩

end Go.Proofs.YtbgfmbmcabekeaaGreatDoor

/-
  package statetree: the index function of Prove; IndexFunc over the rows.
-/
namespace Go.Proofs.YtbgfmbmcabekeaaGreatDoor
open Go.RowKit
attribute [local go_sem ↓] Go.wp_at_zero Go.wp_at_succ

set_option maxRecDepth 100000 in
set_option maxHeartbeats 1000000 in
theorem idx_Geq (g c bi bc bl : Nat) (zs : Array Value) (w : World) (hg : Blk w g 77 (#[.int .i64 0, .int .i64 5, .int .i64 1, .int .i64 2, .int .i64 3] ++ zs)) (hB : AtBoxes 204 w bi bc bl) :
    Calls Tryz.prog 129 #[.slice (some ⟨g, 0, none⟩) 1 c, .func (.func 203) #[] #[.pointer (some ⟨bi, 0, none⟩), .pointer (some ⟨bc, 0, none⟩)]] w fun e w' => e = .returned (.int .i64 0) ∧ Below w.heap.size w w' := by
  have HB := Lib.hid hB
  obtain ⟨r0, r1, r2, r3, r4⟩ := row_cells hg
  have gl := hg.lt
  clear hB hg
  go_enter Tryz.func129, Tryz.ntmps129
  go_wp2
  refine wp_loop_rounds 2 ?_
  rw [rounds_succ]
  go_wp2_with fail
  refine (at_Geq bi bc bl _ HB.out).mono ?_
  rintro e W1 ⟨rfl, hb1⟩
  have HE1 := Lib.hid hb1
  clear hb1
  go_wp2
  go_ret
  exact ⟨rfl, HE1.out⟩

set_option maxRecDepth 100000 in
set_option maxHeartbeats 1000000 in
theorem idx_Gtr (g c bi bc bl : Nat) (zs : Array Value) (w : World) (hg : Blk w g 77 (#[.int .i64 0, .int .i64 5, .int .i64 1, .int .i64 2, .int .i64 3] ++ zs)) (hB : AtBoxes 205 w bi bc bl) :
    Calls Tryz.prog 129 #[.slice (some ⟨g, 0, none⟩) 1 c, .func (.func 203) #[] #[.pointer (some ⟨bi, 0, none⟩), .pointer (some ⟨bc, 0, none⟩)]] w fun e w' => e = .returned (.int .i64 (-1)) ∧ Below w.heap.size w w' := by
  have HB := Lib.hid hB
  obtain ⟨r0, r1, r2, r3, r4⟩ := row_cells hg
  have gl := hg.lt
  clear hB hg
  go_enter Tryz.func129, Tryz.ntmps129
  go_wp2
  refine wp_loop_rounds 2 ?_
  rw [rounds_succ]
  go_wp2_with fail
  refine (at_Gtr bi bc bl _ HB.out).mono ?_
  rintro e W1 ⟨rfl, hb1⟩
  have HE1 := Lib.hid hb1
  clear hb1
  go_wp2
  rw [rounds_succ]
  go_wp2
  go_ret
  exact ⟨rfl, HE1.out⟩

set_option maxRecDepth 100000 in
set_option maxHeartbeats 1000000 in
theorem index_Geq (bo bc bl : Nat) (v1 v2 : Value) (w : World) (ho : Blk w bo 184 #[v1, v2]) (hr : RowsAt w true v1) (hc : Blk w bc 3 #[.int .i64 0]) (hl : Blk w bl 3 #[.int .i64 5]) :
    Calls Tryz.prog 202 #[.func (.func 204) #[] #[.pointer (some ⟨bl, 0, none⟩)], .pointer (some ⟨bo, 0, none⟩), .pointer (some ⟨bc, 0, none⟩)] w fun e w' => e = .returned (.int .i64 0) ∧ Below w.heap.size w w' := by
  have hmf : ∀ (fn : Fn) (first cap : Array Value) (w : World), (Instr.makeFunc fn first cap).run Tryz.prog w = .ok (.func fn first cap) w := fun _ _ _ _ => rfl
  obtain ⟨h, _⟩ | ⟨_, g, c, zs, rfl, hcap, hg⟩ := hr
  · cases h
  have HB0 := Lib.hid (show AtBoxes 204 (w.alloc (.cells #[.func (.func 204) #[] #[.pointer (some ⟨bl, 0, none⟩)]] 203)) w.heap.size bc bl from ⟨Blk.new _ _ _, hc.alloc _, hl.alloc _⟩)
  have HG0 := Lib.hid (hg.ext (ext_new w (.cells #[.func (.func 204) #[] #[.pointer (some ⟨bl, 0, none⟩)]] 203)))
  have HO0 := Lib.hid (ho.ext (ext_new w (.cells #[.func (.func 204) #[] #[.pointer (some ⟨bl, 0, none⟩)]] 203)))
  have o0 := HO0.out.cell 0
  have ol := ho.lt
  clear ho hc hl hg hcap
  go_enter Tryz.func202, Tryz.ntmps202
  go_wp2_with fail
  refine (idx_Geq g c w.heap.size bc bl zs _ HG0.out HB0.out).mono ?_
  rintro e W1 ⟨rfl, hb1⟩
  have HE1 := Lib.hid (ext_call (ext_new w _) hb1)
  have hO1 := HO0.out.ext hb1
  have p0 := hO1.cell 0
  clear hb1 o0 hO1
  go_wp2
  go_ret
  exact ⟨rfl, HE1.out⟩

set_option maxRecDepth 100000 in
set_option maxHeartbeats 1000000 in
theorem index_Gtr (bo bc bl : Nat) (v1 v2 : Value) (w : World) (ho : Blk w bo 184 #[v1, v2]) (hr : RowsAt w true v1) (hc : Blk w bc 3 #[.int .i64 0]) (hl : Blk w bl 3 #[.int .i64 5]) :
    Calls Tryz.prog 202 #[.func (.func 205) #[] #[.pointer (some ⟨bl, 0, none⟩)], .pointer (some ⟨bo, 0, none⟩), .pointer (some ⟨bc, 0, none⟩)] w fun e w' => e = .returned (.int .i64 1) ∧ Below w.heap.size w w' := by
  have hmf : ∀ (fn : Fn) (first cap : Array Value) (w : World), (Instr.makeFunc fn first cap).run Tryz.prog w = .ok (.func fn first cap) w := fun _ _ _ _ => rfl
  obtain ⟨h, _⟩ | ⟨_, g, c, zs, rfl, hcap, hg⟩ := hr
  · cases h
  have HB0 := Lib.hid (show AtBoxes 205 (w.alloc (.cells #[.func (.func 205) #[] #[.pointer (some ⟨bl, 0, none⟩)]] 203)) w.heap.size bc bl from ⟨Blk.new _ _ _, hc.alloc _, hl.alloc _⟩)
  have HG0 := Lib.hid (hg.ext (ext_new w (.cells #[.func (.func 205) #[] #[.pointer (some ⟨bl, 0, none⟩)]] 203)))
  have HO0 := Lib.hid (ho.ext (ext_new w (.cells #[.func (.func 205) #[] #[.pointer (some ⟨bl, 0, none⟩)]] 203)))
  have o0 := HO0.out.cell 0
  have ol := ho.lt
  clear ho hc hl hg hcap
  go_enter Tryz.func202, Tryz.ntmps202
  go_wp2_with fail
  refine (idx_Gtr g c w.heap.size bc bl zs _ HG0.out HB0.out).mono ?_
  rintro e W1 ⟨rfl, hb1⟩
  have HE1 := Lib.hid (ext_call (ext_new w _) hb1)
  have hO1 := HO0.out.ext hb1
  have p0 := hO1.cell 0
  clear hb1 o0 hO1
  go_wp2
  go_ret
  exact ⟨rfl, HE1.out⟩

set_option maxRecDepth 100000 in
set_option maxHeartbeats 1000000 in
theorem idx_none (a : Option Addr) (c : Nat) (f : Value) (w : World) :
    Calls Tryz.prog 129 #[.slice a 0 c, f] w fun e w' => e = .returned (.int .i64 (-1)) ∧ w = w' := by
  go_enter Tryz.func129, Tryz.ntmps129
  go_wp2
  refine wp_loop_rounds 1 ?_
  rw [rounds_succ]
  go_wp2
  go_ret
  exact ⟨rfl, rfl⟩

set_option maxRecDepth 100000 in
set_option maxHeartbeats 1000000 in
theorem index_none (bo bc n bl : Nat) (v2 : Value) (w : World) (ho : Blk w bo 184 #[.slice none 0 0, v2]) :
    Calls Tryz.prog 202 #[.func (.func n) #[] #[.pointer (some ⟨bl, 0, none⟩)], .pointer (some ⟨bo, 0, none⟩), .pointer (some ⟨bc, 0, none⟩)] w fun e w' => e = .returned (.int .i64 0) ∧ Below w.heap.size w w' := by
  have hmf : ∀ (fn : Fn) (first cap : Array Value) (w : World), (Instr.makeFunc fn first cap).run Tryz.prog w = .ok (.func fn first cap) w := fun _ _ _ _ => rfl
  have hO0 := ho.ext (ext_new w (.cells #[.func (.func n) #[] #[.pointer (some ⟨bl, 0, none⟩)]] 203))
  have o0 := hO0.cell 0
  clear ho hO0
  go_enter Tryz.func202, Tryz.ntmps202
  go_wp2_with (go_at_call 129; refine (idx_none _ _ _ _).mono ?_; rintro e w' ⟨rfl, rfl⟩)
  go_ret
  exact ⟨rfl, ext_new _ _⟩

end Go.Proofs.YtbgfmbmcabekeaaGreatDoor

/-
  package statetree: Prove.
-/
namespace Go.Proofs.YtbgfmbmcabekeaaGreatDoor
open Go.RowKit
attribute [local go_sem ↓] Go.wp_at_zero Go.wp_at_succ

theorem keepC1 {X W W' : World} {p : Addr} {u : Value} (h : W.cell? p = some u ∧ Below X.heap.size X W) (hb : Below W.heap.size W W') : W'.cell? p = some u ∧ Below X.heap.size X W' := ⟨cell_ext h.1 hb, ext_call h.2 hb⟩
theorem keepC1B {X W : World} {p : Addr} {u : Value} (h : W.cell? p = some u ∧ Below X.heap.size X W) : Below X.heap.size X W := h.2
theorem keepC4 {X W W' : World} {p q r s : Addr} {u v x y : Value} (h : W.cell? p = some u ∧ W.cell? q = some v ∧ W.cell? r = some x ∧ W.cell? s = some y ∧ Below X.heap.size X W) (hb : Below W.heap.size W W') :
    W'.cell? p = some u ∧ W'.cell? q = some v ∧ W'.cell? r = some x ∧ W'.cell? s = some y ∧ Below X.heap.size X W' := ⟨cell_ext h.1 hb, cell_ext h.2.1 hb, cell_ext h.2.2.1 hb, cell_ext h.2.2.2.1 hb, ext_call h.2.2.2.2 hb⟩
theorem keepC4B {X W : World} {p q r s : Addr} {u v x y : Value} (h : W.cell? p = some u ∧ W.cell? q = some v ∧ W.cell? r = some x ∧ W.cell? s = some y ∧ Below X.heap.size X W) : Below X.heap.size X W := h.2.2.2.2

theorem blk_set9 {W : World} {g : Nat} {ty : TypeId} {a0 a1 a2 a3 a4 a5 a6 a7 a8 u0 u1 u2 u3 u4 u5 u6 u7 u8 : Value} (h : Blk W g ty #[a0, a1, a2, a3, a4, a5, a6, a7, a8]) : Blk (((((((((W.setCell ⟨g, 0, none⟩ u0).setCell ⟨g, 1, none⟩ u1).setCell ⟨g, 2, none⟩ u2).setCell ⟨g, 3, none⟩ u3).setCell ⟨g, 4, none⟩ u4).setCell ⟨g, 5, none⟩ u5).setCell ⟨g, 6, none⟩ u6).setCell ⟨g, 7, none⟩ u7).setCell ⟨g, 8, none⟩ u8) g ty #[u0, u1, u2, u3, u4, u5, u6, u7, u8] := by
  have h9 := ((((((((h.set_ 0 u0).set_ 1 u1).set_ 2 u2).set_ 3 u3).set_ 4 u4).set_ 5 u5).set_ 6 u6).set_ 7 u7).set_ 8 u8
  simpa using h9
theorem ext_set9 {w W : World} {g : Nat} {u0 u1 u2 u3 u4 u5 u6 u7 u8 : Value} (h : Below w.heap.size w W) (hg : w.heap.size ≤ g) : Below w.heap.size w (((((((((W.setCell ⟨g, 0, none⟩ u0).setCell ⟨g, 1, none⟩ u1).setCell ⟨g, 2, none⟩ u2).setCell ⟨g, 3, none⟩ u3).setCell ⟨g, 4, none⟩ u4).setCell ⟨g, 5, none⟩ u5).setCell ⟨g, 6, none⟩ u6).setCell ⟨g, 7, none⟩ u7).setCell ⟨g, 8, none⟩ u8) := ext_set (ext_set (ext_set (ext_set (ext_set (ext_set (ext_set (ext_set (ext_set h hg _) hg _) hg _) hg _) hg _) hg _) hg _) hg _) hg _
theorem heap_set9 {W : World} {g k : Nat} {u0 u1 u2 u3 u4 u5 u6 u7 u8 : Value} (h : k ≠ g) : (((((((((W.setCell ⟨g, 0, none⟩ u0).setCell ⟨g, 1, none⟩ u1).setCell ⟨g, 2, none⟩ u2).setCell ⟨g, 3, none⟩ u3).setCell ⟨g, 4, none⟩ u4).setCell ⟨g, 5, none⟩ u5).setCell ⟨g, 6, none⟩ u6).setCell ⟨g, 7, none⟩ u7).setCell ⟨g, 8, none⟩ u8).heap[k]? = W.heap[k]? := by
  rw [Below.heap_setCell _ _ _ _ h, Below.heap_setCell _ _ _ _ h, Below.heap_setCell _ _ _ _ h, Below.heap_setCell _ _ _ _ h, Below.heap_setCell _ _ _ _ h, Below.heap_setCell _ _ _ _ h, Below.heap_setCell _ _ _ _ h, Below.heap_setCell _ _ _ _ h, Below.heap_setCell _ _ _ _ h]
theorem existsYes (w : World) : Calls Tryz.prog 196 #[.int .i64 0, .int .i64 0] w fun e w' => e = .returned (.bool true) ∧ w = w' := by
  go_enter Tryz.func196, Tryz.ntmps196
  go_wp2
  go_ret
  exact ⟨rfl, rfl⟩

theorem strs_slice' {S : Nat → Prop} {w : World} {v : Value} {l : List ByteArray} (h : Strs S w v l) : ∃ A n c, v = .slice A n c := by
  obtain ⟨A, c, rfl, _⟩ := h
  exact ⟨_, _, _, rfl⟩
theorem rows_none {W : World} {v : Value} (h : RowsAt W false v) : v = .slice none 0 0 := by
  rcases h with ⟨_, h⟩ | ⟨h, _⟩
  · exact h
  · cases h
theorem rows_one {W : World} {v : Value} (h : RowsAt W true v) : ∃ g c zs, v = .slice (some ⟨g, 0, none⟩) 1 c ∧ 1 ≤ c ∧ Blk W g 77 (#[.int .i64 0, .int .i64 5, .int .i64 1, .int .i64 2, .int .i64 3] ++ zs) := by
  rcases h with ⟨h, _⟩ | ⟨_, h⟩
  · cases h
  · exact h
theorem order0 (gs gm : Nat) (pos : Int) (w : World) (hS : StateIs w false gs gm pos) :
    Calls Tryz.prog 149 #[.pointer (some ⟨gs, 0, none⟩), .int .i64 0, .int .i64 0] w fun e w' => ∃ A n c, e = .returned (.agg #[.slice none 0 0, .slice A n c]) ∧ Below w.heap.size w w' := by
  refine (orderOf_any false gs gm 0 pos 0 (by omega) w hS).mono ?_
  rintro e W1 ⟨v1, v2, rfl, ho, hb1⟩
  obtain ⟨A1, n1, c1, A2, n2, c2, rfl, rfl⟩ := order_slices ho
  have h1 := rows_none (v := .slice A1 n1 c1) (W := W1) ho.1
  injection h1 with a b c
  subst a b c
  exact ⟨_, _, _, rfl, hb1⟩
theorem order1 (gs gm : Nat) (pos : Int) (w : World) (hS : StateIs w true gs gm pos) :
    Calls Tryz.prog 149 #[.pointer (some ⟨gs, 0, none⟩), .int .i64 0, .int .i64 0] w fun e w' =>
      ∃ g k zs A n c, e = .returned (.agg #[.slice (some ⟨g, 0, none⟩) 1 k, .slice A n c]) ∧ 1 ≤ k ∧ Blk w' g 77 (#[.int .i64 0, .int .i64 5, .int .i64 1, .int .i64 2, .int .i64 3] ++ zs) ∧ Strs (fun _ => True) w' (.slice A n c) [rowEnc] ∧ Below w.heap.size w w' := by
  refine (orderOf_any true gs gm 0 pos 0 (by omega) w hS).mono ?_
  rintro e W1 ⟨v1, v2, rfl, ho, hb1⟩
  obtain ⟨A1, n1, c1, A2, n2, c2, rfl, rfl⟩ := order_slices ho
  obtain ⟨g, k, zs, h1, h2, h3⟩ := rows_one (v := .slice A1 n1 c1) (W := W1) ho.1
  injection h1 with a b c
  subst a b c
  exact ⟨_, _, _, _, _, _, rfl, h2, h3, ho.2, hb1⟩

theorem sumsAny (one : Bool) (gs gm : Nat) (pos : Int) (w : World) (hS : StateIs w one gs gm pos) (hR : RoundOK w) :
    Calls Tryz.prog 59 #[.pointer (some ⟨gs, 0, none⟩)] w fun e w' => ∃ A n c, e = .returned (.slice A n c) ∧ Strs (fun b => w.heap.size ≤ b) w' (.slice A n c) (sums one 16) ∧ Below w.heap.size w w' := by
  refine (summaries_any one gs gm pos w hS hR).mono ?_
  rintro e W1 ⟨v, rfl, hs, hb⟩
  obtain ⟨A, n, c, rfl⟩ := strs_slice' hs
  exact ⟨A, n, c, rfl, hs, hb⟩

set_option maxRecDepth 100000 in
set_option maxHeartbeats 1000000 in
theorem prove0 (gs gm : Nat) (pos : Int) (w : World) (hS : StateIs w false gs gm pos) (hR : RoundOK w) :
    Calls Tryz.prog 179 #[.pointer (some ⟨gs, 0, none⟩), .int .i64 0, .int .i64 0, .int .i64 5, .int .i64 5] w
      fun e w' => ∃ A n c, e = .returned (.tuple #[.agg #[.int .i64 0, .int .i64 0, .int .i64 5, .int .i64 5, .int .i64 0, .int .i64 0, .slice none 0 0, .slice none 0 0, .slice A n c], .int .i64 0]) ∧ Strs (fun _ => True) w' (.slice A n c) (sums false 16) ∧ Below w.heap.size w w' := by
  have hmf : ∀ (fn : Fn) (first cap : Array Value) (w : World), (Instr.makeFunc fn first cap).run Tryz.prog w = .ok (.func fn first cap) w := fun _ _ _ _ => rfl
  obtain ⟨W0, hW0⟩ : ∃ W0, W0 = (((w.alloc (.cells #[.int .i64 0] 3)).alloc (.cells #[.int .i64 5] 3)).alloc (.cells #[.int .i64 5] 3)).alloc (.cells #[.int .i64 0, .int .i64 0, .int .i64 0, .int .i64 0, .int .i64 0, .int .i64 0, .slice none 0 0, .slice none 0 0, .slice none 0 0] 207) := ⟨_, rfl⟩
  have HE0 := Lib.hid (show Below w.heap.size w W0 by rw [hW0]; exact ext_alloc (ext_alloc (ext_alloc (ext_new _ _) _) _) _)
  have HC0 := Lib.hid (show Blk W0 w.heap.size 3 #[.int .i64 0] by rw [hW0]; exact (((Blk.new _ _ _).alloc _).alloc _).alloc _)
  have HL0 := Lib.hid (show Blk W0 (w.heap.size + 1) 3 #[.int .i64 5] by rw [hW0]; exact ((Blk.new' _ _ _ (by simp)).alloc _).alloc _)
  have HH0 := Lib.hid (show Blk W0 (w.heap.size + 1 + 1) 3 #[.int .i64 5] by rw [hW0]; exact (Blk.new' _ _ _ (by simp)).alloc _)
  have HP0 := Lib.hid (show Blk W0 (w.heap.size + 1 + 1 + 1) 207 #[.int .i64 0, .int .i64 0, .int .i64 0, .int .i64 0, .int .i64 0, .int .i64 0, .slice none 0 0, .slice none 0 0, .slice none 0 0] by rw [hW0]; exact Blk.new' _ _ _ (by simp))
  have HS := Lib.hid hS
  have HR := Lib.hid hR
  have HW0 := Lib.hid hW0
  clear hW0 hS hR
  go_enter Tryz.func179, Tryz.ntmps179
  go_wp2_with (go_at_call 196; refine (existsYes _).mono ?_; rintro e w' ⟨rfl, rfl⟩)
  rw [← HW0.out]
  refine (order0 gs gm pos W0 (HS.out.ext HE0.out)).mono ?_
  rintro e W1 ⟨A, n, c, rfl, hb1⟩
  have HE1 := Lib.hid (ext_call HE0.out hb1)
  have HC1 := Lib.hid (HC0.out.ext hb1)
  have HL1 := Lib.hid (HL0.out.ext hb1)
  have HH1 := Lib.hid (HH0.out.ext hb1)
  have HP1 := Lib.hid (HP0.out.ext hb1)
  clear hb1
  go_wp2_with fail
  refine (index_none W1.heap.size w.heap.size 204 (w.heap.size + 1) (.slice A n c) _ (Blk.new _ _ _)).mono ?_
  rintro e X ⟨rfl, hbx⟩
  have hEx := ext_call (ext_alloc HE1.out _) hbx
  have HCx := Lib.hid ((HC1.out.alloc _).ext hbx)
  have HLx := Lib.hid ((HL1.out.alloc _).ext hbx)
  have HHx := Lib.hid ((HH1.out.alloc _).ext hbx)
  have HPx := Lib.hid ((HP1.out.alloc _).ext hbx)
  have HOx := Lib.hid ((Blk.new W1 184 #[.slice none 0 0, .slice A n c]).ext hbx)
  have HBo := Lib.hid (show w.heap.size + 1 + 1 + 1 < W1.heap.size from HP1.out.lt)
  have HEx := Lib.hid hEx
  clear hbx hEx HC1 HL1 HH1 HP1 HE1 HC0 HL0 HH0 HP0
  generalize W1.heap.size = bo at *
  have o0 := HOx.out.cell 0
  have hmx : max (-1 : Int) 0 = 0 := by decide
  have hmn : min (IntKind.i64.wrap 1) 0 = 0 := by decide
  have HK0 := Lib.hid (show X.cell? ⟨bo, 0, none⟩ = some (.slice none 0 0) ∧ Below X.heap.size X X from ⟨o0, ext_refl X⟩)
  go_wp2
  go_region_held3 (fun w' => w'.cell? ⟨bo, 0, none⟩ = some (.slice none 0 0) ∧ Below X.heap.size X w')
    (first | exact keepC1 HK0.out (ext_refl X).drew | assumption | exact keepC1 (by assumption) (by assumption))
    (first | (go_at_call 202; (with_reducible refine (index_none bo w.heap.size 205 (w.heap.size + 1 + 1) (.slice A n c) _ ?_).mono ?_); (exact HOx.out.ext (keepC1B (by assumption))); rintro e Y ⟨rfl, hb'⟩))
  have HEy := Lib.hid (ext_call HEx.out (undrew hb'))
  have HCy := Lib.hid (HCx.out.ext (undrew hb'))
  have HLy := Lib.hid (HLx.out.ext (undrew hb'))
  have HHy := Lib.hid (HHx.out.ext (undrew hb'))
  have HPy := Lib.hid (HPx.out.ext (undrew hb'))
  have HOy := Lib.hid (HOx.out.ext (undrew hb'))
  have HSy := Lib.hid (HS.out.ext HEy.out)
  have HRy := Lib.hid (HR.out.below HEy.out)
  clear hb' o0 HCx HLx HHx HPx HOx HEx HK0
  have k0 := HCy.out.cell 0
  have l0 := HLy.out.cell 0
  have h0 := HHy.out.cell 0
  have o0 := HOy.out.cell 0
  have HK1 := Lib.hid (show Y.cell? ⟨w.heap.size, 0, none⟩ = some (.int .i64 0) ∧ Y.cell? ⟨w.heap.size + 1, 0, none⟩ = some (.int .i64 5) ∧ Y.cell? ⟨w.heap.size + 1 + 1, 0, none⟩ = some (.int .i64 5) ∧ Y.cell? ⟨bo, 0, none⟩ = some (.slice none 0 0) ∧ Below Y.heap.size Y Y from ⟨k0, l0, h0, o0, ext_refl Y⟩)
  go_wp2
  go_region_held3 (fun w' => w'.cell? ⟨w.heap.size, 0, none⟩ = some (.int .i64 0) ∧ w'.cell? ⟨w.heap.size + 1, 0, none⟩ = some (.int .i64 5) ∧ w'.cell? ⟨w.heap.size + 1 + 1, 0, none⟩ = some (.int .i64 5) ∧ w'.cell? ⟨bo, 0, none⟩ = some (.slice none 0 0) ∧ Below Y.heap.size Y w')
    (first | with_reducible assumption | exact keepC4 HK1.out (by repeat (first | with_reducible refine ext_alloc ?_ _ | with_reducible refine Below.drew ?_ | with_reducible assumption | with_reducible exact ext_refl _ | refine ext_set ?_ (Nat.le_refl _) _)))
    (first | (go_at_call 59; (with_reducible refine (sumsAny false gs gm pos _ ?_ ?_).mono ?_); (exact HSy.out.ext (keepC4B (by assumption))); (exact HRy.out.below (keepC4B (by assumption))); rintro e Z ⟨B, m, d, rfl, hs', hb'⟩; have hYZ := ext_call (keepC4B (by assumption)) hb'; try (have hbx := (show Blk Z Y.heap.size 207 #[.int .i64 0, .int .i64 0, .int .i64 0, .int .i64 0, .int .i64 0, .int .i64 0, .slice none 0 0, .slice none 0 0, .slice none 0 0] from ((Blk.new Y _ _).drew).ext hb'); have bx0 := hbx.cell 0; have bf0 := hbx.frozen 0; have bx1 := hbx.cell 1; have bf1 := hbx.frozen 1; have bx2 := hbx.cell 2; have bf2 := hbx.frozen 2; have bx3 := hbx.cell 3; have bf3 := hbx.frozen 3; have bx4 := hbx.cell 4; have bf4 := hbx.frozen 4; have bx5 := hbx.cell 5; have bf5 := hbx.frozen 5; have bx6 := hbx.cell 6; have bf6 := hbx.frozen 6; have bx7 := hbx.cell 7; have bf7 := hbx.frozen 7; have bx8 := hbx.cell 8; have bf8 := hbx.frozen 8; have HBX := Lib.hid hbx; clear hbx)))
  all_goals
    first
    | (generalize hV : (World.setCell (World.setCell (World.setCell (World.setCell (World.setCell (World.setCell (World.setCell (World.setCell (World.setCell Z ⟨Y.heap.size, 0, none⟩ (.int .i64 0)) ⟨Y.heap.size, 1, none⟩ (.int .i64 0)) ⟨Y.heap.size, 2, none⟩ (.int .i64 5)) ⟨Y.heap.size, 3, none⟩ (.int .i64 5)) ⟨Y.heap.size, 4, none⟩ (.int .i64 0)) ⟨Y.heap.size, 5, none⟩ (.int .i64 0)) ⟨Y.heap.size, 6, none⟩ (.slice none 0 0)) ⟨Y.heap.size, 7, none⟩ (.slice none 0 0)) ⟨Y.heap.size, 8, none⟩ (.slice B m d)) = V
       have HPv := Lib.hid (show Blk V Y.heap.size 207 #[.int .i64 0, .int .i64 0, .int .i64 5, .int .i64 5, .int .i64 0, .int .i64 0, .slice none 0 0, .slice none 0 0, .slice B m d] by subst hV; exact blk_set9 HBX.out)
       have HEv := Lib.hid (show Below Y.heap.size Y V by subst hV; exact ext_set9 hYZ (Nat.le_refl _))
       have HSv := Lib.hid (show Strs (fun b => w.heap.size + 1 + 1 + 1 < b) V (.slice B m d) (sums false 16) by subst hV; exact (hs'.keep (fun k hk _ => heap_set9 (by simp at hk; omega))).mono (fun _ hk _ => by have := HPy.out.lt; simp at hk; omega))
       clear bx0 bf0 bx1 bf1 bx2 bf2 bx3 bf3 bx4 bf4 bx5 bf5 bx6 bf6 bx7 bf7 bx8 bf8 hV HBX hb' hs' hYZ
       generalize Y.heap.size = bp at HPv ⊢)
    | (generalize hV : World.alloc Z (.cells #[.int .i64 0, .int .i64 0, .int .i64 5, .int .i64 5, .int .i64 0, .int .i64 0, .slice none 0 0, .slice none 0 0, .slice B m d] 207) = V
       have HPv := Lib.hid (show Blk V Z.heap.size 207 #[.int .i64 0, .int .i64 0, .int .i64 5, .int .i64 5, .int .i64 0, .int .i64 0, .slice none 0 0, .slice none 0 0, .slice B m d] by subst hV; exact Blk.new _ _ _)
       have HEv := Lib.hid (show Below Y.heap.size Y V by subst hV; exact ext_alloc hYZ _)
       have HSv := Lib.hid (show Strs (fun b => w.heap.size + 1 + 1 + 1 < b) V (.slice B m d) (sums false 16) by subst hV; exact (hs'.below (ext_new _ _)).mono (fun _ hk _ => by have := HPy.out.lt; simp at hk; omega))
       clear hV hb' hs' hYZ
       generalize Z.heap.size = bp at HPv ⊢)
  all_goals
    have HRv := Lib.hid (HPy.out.ext HEv.out)
    have HEw := Lib.hid (ext_call HEy.out HEv.out)
    clear k0 l0 h0 o0 HK1 HCy HLy HHy HPy HOy HSy HRy HEy HEv hmx hmn
    have r0 := HRv.out.cell 0; have r1 := HRv.out.cell 1; have r2 := HRv.out.cell 2; have r3 := HRv.out.cell 3; have r4 := HRv.out.cell 4; have r5 := HRv.out.cell 5; have r6 := HRv.out.cell 6; have r7 := HRv.out.cell 7; have r8 := HRv.out.cell 8
    have q0 := HPv.out.cell 0; have q1 := HPv.out.cell 1; have q2 := HPv.out.cell 2; have q3 := HPv.out.cell 3; have q4 := HPv.out.cell 4; have q5 := HPv.out.cell 5; have q6 := HPv.out.cell 6; have q7 := HPv.out.cell 7; have q8 := HPv.out.cell 8
    have f0 := HRv.out.frozen 0; have f1 := HRv.out.frozen 1; have f2 := HRv.out.frozen 2; have f3 := HRv.out.frozen 3; have f4 := HRv.out.frozen 4; have f5 := HRv.out.frozen 5; have f6 := HRv.out.frozen 6; have f7 := HRv.out.frozen 7; have f8 := HRv.out.frozen 8
    go_wp2
    refine wp_loop_rounds 1 ?_
    rw [rounds_succ]
    go_wp2
    have hBf := blk_set9 (u0 := .int .i64 0) (u1 := .int .i64 0) (u2 := .int .i64 5) (u3 := .int .i64 5) (u4 := .int .i64 0) (u5 := .int .i64 0) (u6 := .slice none 0 0) (u7 := .slice none 0 0) (u8 := .slice B m d) HRv.out
    have y0 := hBf.cell 0; have y1 := hBf.cell 1; have y2 := hBf.cell 2; have y3 := hBf.cell 3; have y4 := hBf.cell 4; have y5 := hBf.cell 5; have y6 := hBf.cell 6; have y7 := hBf.cell 7; have y8 := hBf.cell 8
    refine bodyPost_ret (v := .tuple #[.agg #[.int .i64 0, .int .i64 0, .int .i64 5, .int .i64 5, .int .i64 0, .int .i64 0, .slice none 0 0, .slice none 0 0, .slice B m d], .int .i64 0]) (by simp [results, Tryz.results179, go_sem, y0, y1, y2, y3, y4, y5, y6, y7, y8]) rfl ⟨B, m, d, rfl, ?_, ?_⟩
    · exact (HSv.out.keep (fun k hk _ => heap_set9 (by omega))).mono (fun _ _ _ => trivial)
    · exact ext_set9 HEw.out (by omega)

end Go.Proofs.YtbgfmbmcabekeaaGreatDoor

/-
  digest.Proof at the lists that the law hands to it: one entry, two entries.
-/
namespace Go.Proofs.YtbgfmbmcabekeaaGreatDoor
open Go.RowKit Go.Shelf
attribute [local go_sem ↓] Go.wp_at_zero Go.wp_at_succ

/-- what digest.Proof gives: a new list -/
def ProofPost (w : World) (l : List ByteArray) (e : Ending) (w' : World) : Prop :=
  ∃ v, e = .returned (.tuple #[v, .int .i64 0]) ∧ Strs (fun b => w.heap.size ≤ b) w' v l ∧ Below w.heap.size w w'

set_option maxHeartbeats 1000000 in
set_option maxRecDepth 100000 in
theorem proof1_any (S : Nat → Prop) (v : Value) (x : ByteArray) (w : World) (hv : Strs S w v [x]) :
    Calls Tryz.prog 104 #[v, .int .i64 0] w (ProofPost w []) := by
  obtain ⟨A, c, rfl, hc, _⟩ := hv
  have hc2 : 1 ≤ c := by simpa using hc
  clear hc
  go_enter Tryz.func104, Tryz.ntmps104
  go_wp2
  go_step3
  go_wp2
  go_step3
  go_wp2
  refine wp_loop_rounds 1 ?_
  rw [rounds_succ]
  go_wp2_with (go_at_call 152; refine (Tryz.slices_Reverse_string_empty none 0 w).mono ?_; rintro e W3 ⟨rfl, rfl⟩)
  rw [Exit.noGoto_ret]
  go_ret2
  exact ⟨_, rfl, Strs.nil_ _ _, Below.refl _ _⟩

end Go.Proofs.YtbgfmbmcabekeaaGreatDoor

/-
  package statetree: Prove at one row.
-/
namespace Go.Proofs.YtbgfmbmcabekeaaGreatDoor
open Go.RowKit
attribute [local go_sem ↓] Go.wp_at_zero Go.wp_at_succ

/-- a list of one empty path -/
def PathsAt (W : World) (v : Value) : Prop := ∃ g c A0 c0 ys, v = .slice (some ⟨g, 0, none⟩) 1 c ∧ 1 ≤ c ∧ Blk W g 89 (#[.slice A0 0 c0] ++ ys)
theorem PathsAt.ext {w W : World} {v : Value} (h : PathsAt w v) (k : Below w.heap.size w W) : PathsAt W v := by
  obtain ⟨g, c, A0, c0, ys, h1, h2, h3⟩ := h
  exact ⟨g, c, A0, c0, ys, h1, h2, h3.ext k⟩
/-- a proof of the law's row -/
def RP1 (W : World) (va : Array Value) : Prop := ∃ v6 v7 v8, va = #[.int .i64 0, .int .i64 0, .int .i64 5, .int .i64 5, .int .i64 1, .int .i64 0, v6, v7, v8] ∧ RowsAt W true v6 ∧ PathsAt W v7 ∧ Strs (fun _ => True) W v8 (sums true 16)
theorem RP1.ext {w W : World} {va : Array Value} (h : RP1 w va) (k : Below w.heap.size w W) : RP1 W va := by
  obtain ⟨v6, v7, v8, h1, h2, h3, h4⟩ := h
  exact ⟨v6, v7, v8, h1, h2.ext k, h3.ext k, h4.below k⟩

/-- what is known when the round is over -/
def PrT (w : World) (bp br : Nat) (v8 : Value) (T : World) : Prop := ∃ g1 k1 zs g2 k2 A0 c0 ys, Blk T bp 207 #[.int .i64 0, .int .i64 0, .int .i64 5, .int .i64 5, .int .i64 1, .int .i64 0, .slice (some ⟨g1, 0, none⟩) 1 k1, .slice (some ⟨g2, 0, none⟩) 1 k2, v8] ∧ 1 ≤ k1 ∧ 1 ≤ k2 ∧
  Blk T g1 77 (#[.int .i64 0, .int .i64 5, .int .i64 1, .int .i64 2, .int .i64 3] ++ zs) ∧ Blk T g2 89 (#[.slice A0 0 c0] ++ ys) ∧ Blk T br 207 #[.int .i64 0, .int .i64 0, .int .i64 0, .int .i64 0, .int .i64 0, .int .i64 0, .slice none 0 0, .slice none 0 0, .slice none 0 0] ∧ br < g1 ∧ br < g2 ∧ Strs (fun b => br < b) T v8 (sums true 16) ∧ Below w.heap.size w T
theorem rounds_name {P : Program} {c : Code} {Q : Exit → Act → World → Prop} {n : Nat} {a : Act} {W : World} (F : World → Prop) (hF : F W) (h : ∀ T, F T → Code.rounds P c Q n a T) : Code.rounds P c Q n a W := h W hF
theorem blk_set67 {W : World} {g : Nat} {ty : TypeId} {a0 a1 a2 a3 a4 a5 a6 a7 a8 u v : Value} (h : Blk W g ty #[a0, a1, a2, a3, a4, a5, a6, a7, a8]) : Blk ((W.setCell ⟨g, 6, none⟩ u).setCell ⟨g, 7, none⟩ v) g ty #[a0, a1, a2, a3, a4, a5, u, v, a8] := by
  have h9 := (h.set_ 6 u).set_ 7 v
  simpa using h9
theorem path_info : (Tryz.prog.info? 89).map (fun i => (i.zero, i.size, i.bytes)) = some (some (.slice none 0 0), 1, 24) := by kernel_rfl
theorem prF {X W : World} {bo g bp : Nat} {a b : Value} {zs : Array Value} (h : Blk X bo 184 #[a, b] ∧ Blk X g 77 (#[.int .i64 0, .int .i64 5, .int .i64 1, .int .i64 2, .int .i64 3] ++ zs) ∧ bo ≠ bp ∧ g ≠ bp) (k : Ext2 bp bp X W) :
    W.cell? ⟨bo, 0, none⟩ = some a ∧ W.cell? ⟨g, 0, none⟩ = some (.int .i64 0) ∧ W.cell? ⟨g, 1, none⟩ = some (.int .i64 5) ∧ W.cell? ⟨g, 2, none⟩ = some (.int .i64 1) ∧ W.cell? ⟨g, 3, none⟩ = some (.int .i64 2) ∧ W.cell? ⟨g, 4, none⟩ = some (.int .i64 3) ∧ Ext2 bp bp X W := by
  obtain ⟨r0, r1, r2, r3, r4⟩ := row_cells (h.2.1.ext2 k h.2.2.2 h.2.2.2)
  exact ⟨(h.1.ext2 k h.2.2.1 h.2.2.1).cell 0, r0, r1, r2, r3, r4, k⟩
theorem prG {X W : World} {bp : Nat} {a0 a1 a2 a3 a4 a5 a8 : Value} (h : Blk X bp 207 #[a0, a1, a2, a3, a4, a5, .slice none 0 0, .slice none 0 0, a8]) (k : Below X.heap.size X W) : W.cell? ⟨bp, 6, none⟩ = some (.slice none 0 0) ∧ W.cell? ⟨bp, 7, none⟩ = some (.slice none 0 0) := ⟨(h.ext k).cell 6, (h.ext k).cell 7⟩

set_option maxRecDepth 100000 in
set_option maxHeartbeats 4000000 in
theorem prove1 (gs gm : Nat) (pos : Int) (w : World) (hS : StateIs w true gs gm pos) (hR : RoundOK w) :
    Calls Tryz.prog 179 #[.pointer (some ⟨gs, 0, none⟩), .int .i64 0, .int .i64 0, .int .i64 5, .int .i64 5] w
      fun e w' => ∃ va, e = .returned (.tuple #[.agg va, .int .i64 0]) ∧ RP1 w' va ∧ Below w.heap.size w w' := by
  obtain ⟨ir, hir, hzr0, hzr1, hzr2⟩ := info_parts row_info
  obtain ⟨ip, hip, hzp0, hzp1, hzp2⟩ := info_parts path_info
  have hmf : ∀ (fn : Fn) (first cap : Array Value) (w : World), (Instr.makeFunc fn first cap).run Tryz.prog w = .ok (.func fn first cap) w := fun _ _ _ _ => rfl
  obtain ⟨W0, hW0⟩ : ∃ W0, W0 = (((w.alloc (.cells #[.int .i64 0] 3)).alloc (.cells #[.int .i64 5] 3)).alloc (.cells #[.int .i64 5] 3)).alloc (.cells #[.int .i64 0, .int .i64 0, .int .i64 0, .int .i64 0, .int .i64 0, .int .i64 0, .slice none 0 0, .slice none 0 0, .slice none 0 0] 207) := ⟨_, rfl⟩
  have HE0 := Lib.hid (show Below w.heap.size w W0 by rw [hW0]; exact ext_alloc (ext_alloc (ext_alloc (ext_new _ _) _) _) _)
  have HC0 := Lib.hid (show Blk W0 w.heap.size 3 #[.int .i64 0] by rw [hW0]; exact (((Blk.new _ _ _).alloc _).alloc _).alloc _)
  have HL0 := Lib.hid (show Blk W0 (w.heap.size + 1) 3 #[.int .i64 5] by rw [hW0]; exact ((Blk.new' _ _ _ (by simp)).alloc _).alloc _)
  have HH0 := Lib.hid (show Blk W0 (w.heap.size + 1 + 1) 3 #[.int .i64 5] by rw [hW0]; exact (Blk.new' _ _ _ (by simp)).alloc _)
  have HP0 := Lib.hid (show Blk W0 (w.heap.size + 1 + 1 + 1) 207 #[.int .i64 0, .int .i64 0, .int .i64 0, .int .i64 0, .int .i64 0, .int .i64 0, .slice none 0 0, .slice none 0 0, .slice none 0 0] by rw [hW0]; exact Blk.new' _ _ _ (by simp))
  have HS := Lib.hid hS
  have HR := Lib.hid hR
  have HW0 := Lib.hid hW0
  clear hW0 hS hR
  go_enter Tryz.func179, Tryz.ntmps179
  go_wp2_with (go_at_call 196; refine (existsYes _).mono ?_; rintro e w' ⟨rfl, rfl⟩)
  rw [← HW0.out]
  refine (order1 gs gm pos W0 (HS.out.ext HE0.out)).mono ?_
  rintro e W1 ⟨g, k, zs, A, n, c, rfl, hk, hg, ht, hb1⟩
  have HK1' := Lib.hid hk
  have HG1 := Lib.hid hg
  have HT1 := Lib.hid ht
  have HE1 := Lib.hid (ext_call HE0.out hb1)
  have HC1 := Lib.hid (HC0.out.ext hb1)
  have HL1 := Lib.hid (HL0.out.ext hb1)
  have HH1 := Lib.hid (HH0.out.ext hb1)
  have HP1 := Lib.hid (HP0.out.ext hb1)
  clear hb1 hk hg ht
  go_wp2_with fail
  refine (index_Geq W1.heap.size w.heap.size (w.heap.size + 1) (.slice (some ⟨g, 0, none⟩) 1 k) (.slice A n c) _ (Blk.new _ _ _) (.inr ⟨rfl, g, k, zs, rfl, HK1'.out, HG1.out.alloc _⟩) (HC1.out.alloc _) (HL1.out.alloc _)).mono ?_
  rintro e X ⟨rfl, hbx⟩
  have hEx := ext_call (ext_alloc HE1.out _) hbx
  have HCx := Lib.hid ((HC1.out.alloc _).ext hbx)
  have HLx := Lib.hid ((HL1.out.alloc _).ext hbx)
  have HHx := Lib.hid ((HH1.out.alloc _).ext hbx)
  have HPx := Lib.hid ((HP1.out.alloc _).ext hbx)
  have HOx := Lib.hid ((Blk.new W1 184 #[.slice (some ⟨g, 0, none⟩) 1 k, .slice A n c]).ext hbx)
  have HGx := Lib.hid ((HG1.out.alloc _).ext hbx)
  have HTx := Lib.hid ((HT1.out.below (ext_new _ _)).below hbx)
  have HBo := Lib.hid (show w.heap.size + 1 + 1 + 1 < W1.heap.size from HP1.out.lt)
  have HEx := Lib.hid hEx
  clear hbx hEx HG1 HT1 HC1 HL1 HH1 HP1 HE1 HC0 HL0 HH0 HP0
  generalize W1.heap.size = bo at *
  have o0 := HOx.out.cell 0
  have hmx : max (-1 : Int) 0 = 0 := by decide
  have hmn : min (IntKind.i64.wrap 2) 1 = 1 := by decide
  have HK0 := Lib.hid (show X.cell? ⟨bo, 0, none⟩ = some (.slice (some ⟨g, 0, none⟩) 1 k) ∧ Below X.heap.size X X from ⟨o0, ext_refl X⟩)
  go_wp2
  go_region_held3 (fun w' => w'.cell? ⟨bo, 0, none⟩ = some (.slice (some ⟨g, 0, none⟩) 1 k) ∧ Below X.heap.size X w')
    (first | exact keepC1 HK0.out (ext_refl X).drew | assumption | exact keepC1 (by assumption) (by assumption))
    (first | (go_at_call 202; (with_reducible refine (index_Gtr bo w.heap.size (w.heap.size + 1 + 1) (.slice (some ⟨g, 0, none⟩) 1 k) (.slice A n c) _ ?_ ?_ ?_ ?_).mono ?_); (exact HOx.out.ext (keepC1B (by assumption))); (exact .inr ⟨rfl, g, k, zs, rfl, HK1'.out, HGx.out.ext (keepC1B (by assumption))⟩); (exact HCx.out.ext (keepC1B (by assumption))); (exact HHx.out.ext (keepC1B (by assumption))); rintro e Y ⟨rfl, hb'⟩))
  have HEy := Lib.hid (ext_call HEx.out (undrew hb'))
  have HCy := Lib.hid (HCx.out.ext (undrew hb'))
  have HLy := Lib.hid (HLx.out.ext (undrew hb'))
  have HHy := Lib.hid (HHx.out.ext (undrew hb'))
  have HPy := Lib.hid (HPx.out.ext (undrew hb'))
  have HOy := Lib.hid (HOx.out.ext (undrew hb'))
  have HGy := Lib.hid (HGx.out.ext (undrew hb'))
  have HTy := Lib.hid (HTx.out.below (undrew hb'))
  have HSy := Lib.hid (HS.out.ext HEy.out)
  have HRy := Lib.hid (HR.out.below HEy.out)
  clear hb' o0 HCx HLx HHx HPx HOx HEx HGx HTx HK0
  have k0 := HCy.out.cell 0
  have l0 := HLy.out.cell 0
  have h0 := HHy.out.cell 0
  have o0 := HOy.out.cell 0
  have HK1 := Lib.hid (show Y.cell? ⟨w.heap.size, 0, none⟩ = some (.int .i64 0) ∧ Y.cell? ⟨w.heap.size + 1, 0, none⟩ = some (.int .i64 5) ∧ Y.cell? ⟨w.heap.size + 1 + 1, 0, none⟩ = some (.int .i64 5) ∧ Y.cell? ⟨bo, 0, none⟩ = some (.slice (some ⟨g, 0, none⟩) 1 k) ∧ Below Y.heap.size Y Y from ⟨k0, l0, h0, o0, ext_refl Y⟩)
  go_wp2
  go_region_held3 (fun w' => w'.cell? ⟨w.heap.size, 0, none⟩ = some (.int .i64 0) ∧ w'.cell? ⟨w.heap.size + 1, 0, none⟩ = some (.int .i64 5) ∧ w'.cell? ⟨w.heap.size + 1 + 1, 0, none⟩ = some (.int .i64 5) ∧ w'.cell? ⟨bo, 0, none⟩ = some (.slice (some ⟨g, 0, none⟩) 1 k) ∧ Below Y.heap.size Y w')
    (first | with_reducible assumption | exact keepC4 HK1.out (by repeat (first | with_reducible refine ext_alloc ?_ _ | with_reducible refine Below.drew ?_ | with_reducible assumption | with_reducible exact ext_refl _ | refine ext_set ?_ (Nat.le_refl _) _)))
    (first | (go_at_call 59; (with_reducible refine (sumsAny true gs gm pos _ ?_ ?_).mono ?_); (exact HSy.out.ext (keepC4B (by assumption))); (exact HRy.out.below (keepC4B (by assumption))); rintro e Z ⟨B, m, d, rfl, hs', hb'⟩; have hYZ := ext_call (keepC4B (by assumption)) hb'; try (have hbx := (show Blk Z Y.heap.size 207 #[.int .i64 0, .int .i64 0, .int .i64 0, .int .i64 0, .int .i64 0, .int .i64 0, .slice none 0 0, .slice none 0 0, .slice none 0 0] from ((Blk.new Y _ _).drew).ext hb'); have bx0 := hbx.cell 0; have bf0 := hbx.frozen 0; have bx1 := hbx.cell 1; have bf1 := hbx.frozen 1; have bx2 := hbx.cell 2; have bf2 := hbx.frozen 2; have bx3 := hbx.cell 3; have bf3 := hbx.frozen 3; have bx4 := hbx.cell 4; have bf4 := hbx.frozen 4; have bx5 := hbx.cell 5; have bf5 := hbx.frozen 5; have bx6 := hbx.cell 6; have bf6 := hbx.frozen 6; have bx7 := hbx.cell 7; have bf7 := hbx.frozen 7; have bx8 := hbx.cell 8; have bf8 := hbx.frozen 8; have HBX := Lib.hid hbx; clear hbx)))
  all_goals
    first
    | (generalize hV : (World.setCell (World.setCell (World.setCell (World.setCell (World.setCell (World.setCell (World.setCell (World.setCell (World.setCell Z ⟨Y.heap.size, 0, none⟩ (.int .i64 0)) ⟨Y.heap.size, 1, none⟩ (.int .i64 0)) ⟨Y.heap.size, 2, none⟩ (.int .i64 5)) ⟨Y.heap.size, 3, none⟩ (.int .i64 5)) ⟨Y.heap.size, 4, none⟩ (.int .i64 1)) ⟨Y.heap.size, 5, none⟩ (.int .i64 0)) ⟨Y.heap.size, 6, none⟩ (.slice none 0 0)) ⟨Y.heap.size, 7, none⟩ (.slice none 0 0)) ⟨Y.heap.size, 8, none⟩ (.slice B m d)) = V
       have HPv := Lib.hid (show Blk V Y.heap.size 207 #[.int .i64 0, .int .i64 0, .int .i64 5, .int .i64 5, .int .i64 1, .int .i64 0, .slice none 0 0, .slice none 0 0, .slice B m d] by subst hV; exact blk_set9 HBX.out)
       have HEv := Lib.hid (show Below Y.heap.size Y V by subst hV; exact ext_set9 hYZ (Nat.le_refl _))
       have HSv := Lib.hid (show Strs (fun b => w.heap.size + 1 + 1 + 1 < b ∧ b ≠ Y.heap.size) V (.slice B m d) (sums true 16) by subst hV; exact (hs'.keep (fun k hk _ => heap_set9 (by simp at hk; omega))).mono (fun _ hk _ => by have := HPy.out.lt; simp at hk; omega))
       clear bx0 bf0 bx1 bf1 bx2 bf2 bx3 bf3 bx4 bf4 bx5 bf5 bx6 bf6 bx7 bf7 bx8 bf8 hV HBX hb' hs' hYZ
       generalize hbp : Y.heap.size = bp at HPv HSv ⊢
       have HLe := Lib.hid (show Y.heap.size ≤ bp by omega)
       clear hbp)
    | (generalize hV : World.alloc Z (.cells #[.int .i64 0, .int .i64 0, .int .i64 5, .int .i64 5, .int .i64 1, .int .i64 0, .slice none 0 0, .slice none 0 0, .slice B m d] 207) = V
       have HPv := Lib.hid (show Blk V Z.heap.size 207 #[.int .i64 0, .int .i64 0, .int .i64 5, .int .i64 5, .int .i64 1, .int .i64 0, .slice none 0 0, .slice none 0 0, .slice B m d] by subst hV; exact Blk.new _ _ _)
       have HEv := Lib.hid (show Below Y.heap.size Y V by subst hV; exact ext_alloc hYZ _)
       have HSv := Lib.hid (show Strs (fun b => w.heap.size + 1 + 1 + 1 < b ∧ b ≠ Z.heap.size) V (.slice B m d) (sums true 16) by subst hV; exact (hs'.mono (fun b hk hlt => by have := HPy.out.lt; simp at hk; omega)).below (ext_new _ _))
       have hle := hYZ.size
       clear hV hb' hs' hYZ
       generalize hbp : Z.heap.size = bp at HPv HSv ⊢
       have HLe := Lib.hid (show Y.heap.size ≤ bp by omega)
       clear hbp hle)
  all_goals
    have HRv := Lib.hid (HPy.out.ext HEv.out)
    have HOv := Lib.hid (HOy.out.ext HEv.out)
    have HGv := Lib.hid (HGy.out.ext HEv.out)
    have HTv := Lib.hid (HTy.out.below HEv.out)
    have HEw := Lib.hid (ext_call HEy.out HEv.out)
    have HNe := Lib.hid (show bo ≠ bp ∧ g ≠ bp ∧ w.heap.size + 1 + 1 + 1 ≠ bp by have := HOy.out.lt; have := HGy.out.lt; have := HPy.out.lt; have := HLe.out; omega)
    have HLw := Lib.hid (show w.heap.size ≤ bp by have := HPy.out.lt; have := HLe.out; omega)
    clear HLe k0 l0 h0 o0 HK1 HCy HLy HHy HPy HOy HSy HRy HEy HEv HGy HTy hmx hmn
    have o0 := HOv.out.cell 0; have o1 := HOv.out.cell 1
    go_wp2
    refine wp_loop_rounds 2 ?_
    rw [rounds_succ]
    go_wp2_with fail
    refine (proof1_any (fun _ => True) (.slice A n c) rowEnc _ HTv.out).mono ?_
    rintro e U ⟨pv, rfl, hp, hbu⟩
    obtain ⟨A0, c0, hpv, _, _⟩ := hp
    obtain rfl : pv = .slice A0 0 c0 := hpv
    have HPu := Lib.hid (HPv.out.ext hbu)
    have HRu := Lib.hid (HRv.out.ext hbu)
    have HOu := Lib.hid (HOv.out.ext hbu)
    have HGu := Lib.hid (HGv.out.ext hbu)
    have HSu := Lib.hid (HSv.out.below hbu)
    have HEu := Lib.hid (ext_call HEw.out hbu)
    clear hbu HPv HRv HOv HGv HSv HEw HTv o0 o1
    have HSX := Lib.hid (And.intro HOu.out (And.intro HGu.out (And.intro HNe.out.1 HNe.out.2.1)))
    have p6 := HPu.out.cell 6
    have p7 := HPu.out.cell 7
    have o0 := HOu.out.cell 0; have o1 := HOu.out.cell 1
    obtain ⟨g0, g1, g2, g3, g4⟩ := row_cells HGu.out
    have pf6 := HPu.out.frozen 6
    have pf7 := HPu.out.frozen 7
    have hpl := HPu.out.lt
    have hol := HOu.out.lt
    have hgl := HGu.out.lt
    have hpl1 : bp < U.heap.size + 1 := by omega
    have hpl2 : bp < U.heap.size + 1 + 1 := by omega
    have hpl3 : bp < U.heap.size + 1 + 1 + 1 := by omega
    go_wp2
    refine wp_region_L (fun w' => w'.cell? ⟨bo, 0, none⟩ = some (.slice (some ⟨g, 0, none⟩) 1 k) ∧ w'.cell? ⟨g, 0, none⟩ = some (.int .i64 0) ∧ w'.cell? ⟨g, 1, none⟩ = some (.int .i64 5) ∧ w'.cell? ⟨g, 2, none⟩ = some (.int .i64 1) ∧ w'.cell? ⟨g, 3, none⟩ = some (.int .i64 2) ∧ w'.cell? ⟨g, 4, none⟩ = some (.int .i64 3) ∧ Ext2 bp bp U w')
      (fun w' => w'.cell? ⟨bp, 6, none⟩ = some (.slice none 0 0) ∧ w'.cell? ⟨bp, 7, none⟩ = some (.slice none 0 0)) [15, 17] (by kernel_rfl) ?_
    refine takeF 0 (v := ?_) rfl (by kernel_rfl) (by kernel_rfl) (by kernel_rfl) (by kernel_rfl) (fun _ _ _ h => h) (Or.inl ⟨by rfl, ?_⟩) (prF HSX.out (by repeat (first | with_reducible refine Ext2.alloc ?_ _ | with_reducible refine Ext2.drew1 ?_ | with_reducible refine Ext2.setA ?_ _ _ | with_reducible assumption | with_reducible exact Ext2.refl _ _ _))) (fun _ => (prG HPu.out (by repeat (first | with_reducible refine ext_alloc ?_ _ | with_reducible refine Below.drew ?_ | with_reducible assumption | with_reducible exact ext_refl _)))) ?_
    rotate_left 1
    · (rintro w' ⟨f0, f1, f2, f3, f4, f5, _⟩; go_simp; with_reducible rfl)
    refine takeG 1 (v := ?_) rfl (by kernel_rfl) (by kernel_rfl) (by kernel_rfl) (by kernel_rfl) (by kernel_rfl) (by kernel_rfl) (fun _ _ _ h => h) (Or.inl ⟨by rfl, ?_⟩) (prF HSX.out (by repeat (first | with_reducible refine Ext2.alloc ?_ _ | with_reducible refine Ext2.drew1 ?_ | with_reducible refine Ext2.setA ?_ _ _ | with_reducible assumption | with_reducible exact Ext2.refl _ _ _))) (prG HPu.out (by repeat (first | with_reducible refine ext_alloc ?_ _ | with_reducible refine Below.drew ?_ | with_reducible assumption | with_reducible exact ext_refl _))) ?_
    rotate_left 1
    · (rintro w' ⟨f0, f1⟩; go_simp; with_reducible rfl)
    refine takeF 2 (v := ?_) rfl (by kernel_rfl) (by kernel_rfl) (by kernel_rfl) (by kernel_rfl) (fun _ _ _ h => h) (Or.inl ⟨by rfl, ?_⟩) (prF HSX.out (by repeat (first | with_reducible refine Ext2.alloc ?_ _ | with_reducible refine Ext2.drew1 ?_ | with_reducible refine Ext2.setA ?_ _ _ | with_reducible assumption | with_reducible exact Ext2.refl _ _ _))) (fun _ => (prG HPu.out (by repeat (first | with_reducible refine ext_alloc ?_ _ | with_reducible refine Below.drew ?_ | with_reducible assumption | with_reducible exact ext_refl _)))) ?_
    rotate_left 1
    · (rintro w' ⟨f0, f1, f2, f3, f4, f5, _⟩; go_simp; with_reducible rfl)
    refine takeF 3 (v := ?_) rfl (by kernel_rfl) (by kernel_rfl) (by kernel_rfl) (by kernel_rfl) (fun _ _ _ h => h) (Or.inl ⟨by rfl, ?_⟩) (prF HSX.out (by repeat (first | with_reducible refine Ext2.alloc ?_ _ | with_reducible refine Ext2.drew1 ?_ | with_reducible refine Ext2.setA ?_ _ _ | with_reducible assumption | with_reducible exact Ext2.refl _ _ _))) (fun _ => (prG HPu.out (by repeat (first | with_reducible refine ext_alloc ?_ _ | with_reducible refine Below.drew ?_ | with_reducible assumption | with_reducible exact ext_refl _)))) ?_
    rotate_left 1
    · (rintro w' ⟨f0, f1, f2, f3, f4, f5, _⟩; go_simp; with_reducible rfl)
    refine takeF 4 (v := ?_) rfl (by kernel_rfl) (by kernel_rfl) (by kernel_rfl) (by kernel_rfl) (fun _ _ _ h => h) (Or.inl ⟨by rfl, ?_⟩) (prF HSX.out (by repeat (first | with_reducible refine Ext2.alloc ?_ _ | with_reducible refine Ext2.drew1 ?_ | with_reducible refine Ext2.setA ?_ _ _ | with_reducible assumption | with_reducible exact Ext2.refl _ _ _))) (fun _ => (prG HPu.out (by repeat (first | with_reducible refine ext_alloc ?_ _ | with_reducible refine Below.drew ?_ | with_reducible assumption | with_reducible exact ext_refl _)))) ?_
    rotate_left 1
    · (rintro w' ⟨f0, f1, f2, f3, f4, f5, _⟩; go_simp; with_reducible rfl)
    refine takeF 5 (v := ?_) rfl (by kernel_rfl) (by kernel_rfl) (by kernel_rfl) (by kernel_rfl) (fun _ _ _ h => h) (Or.inl ⟨by rfl, ?_⟩) (prF HSX.out (by repeat (first | with_reducible refine Ext2.alloc ?_ _ | with_reducible refine Ext2.drew1 ?_ | with_reducible refine Ext2.setA ?_ _ _ | with_reducible assumption | with_reducible exact Ext2.refl _ _ _))) (fun _ => (prG HPu.out (by repeat (first | with_reducible refine ext_alloc ?_ _ | with_reducible refine Below.drew ?_ | with_reducible assumption | with_reducible exact ext_refl _)))) ?_
    rotate_left 1
    · (rintro w' ⟨f0, f1, f2, f3, f4, f5, _⟩; go_simp; with_reducible rfl)
    refine takeF 6 (v := ?_) rfl (by kernel_rfl) (by kernel_rfl) (by kernel_rfl) (by kernel_rfl) (fun _ _ _ h => h) (Or.inl ⟨by rfl, ?_⟩) (prF HSX.out (by repeat (first | with_reducible refine Ext2.alloc ?_ _ | with_reducible refine Ext2.drew1 ?_ | with_reducible refine Ext2.setA ?_ _ _ | with_reducible assumption | with_reducible exact Ext2.refl _ _ _))) (fun _ => (prG HPu.out (by repeat (first | with_reducible refine ext_alloc ?_ _ | with_reducible refine Below.drew ?_ | with_reducible assumption | with_reducible exact ext_refl _)))) ?_
    rotate_left 1
    · (rintro w' ⟨f0, f1, f2, f3, f4, f5, _⟩; go_simp; with_reducible rfl)
    refine takeF 9 (v := ?_) rfl (by kernel_rfl) (by kernel_rfl) (by kernel_rfl) (by kernel_rfl) (fun _ _ _ h => h) (Or.inl ⟨by rfl, ?_⟩) (prF HSX.out (by repeat (first | with_reducible refine Ext2.alloc ?_ _ | with_reducible refine Ext2.drew1 ?_ | with_reducible refine Ext2.setA ?_ _ _ | with_reducible assumption | with_reducible exact Ext2.refl _ _ _))) (fun _ => (prG HPu.out (by repeat (first | with_reducible refine ext_alloc ?_ _ | with_reducible refine Below.drew ?_ | with_reducible assumption | with_reducible exact ext_refl _)))) ?_
    rotate_left 1
    · (rintro w' ⟨f0, f1, f2, f3, f4, f5, _⟩; go_simp; with_reducible rfl)
    refine takeG 10 (v := ?_) rfl (by kernel_rfl) (by kernel_rfl) (by kernel_rfl) (by kernel_rfl) (by kernel_rfl) (by kernel_rfl) (fun _ _ _ h => h) (Or.inl ⟨by rfl, ?_⟩) (prF HSX.out (by repeat (first | with_reducible refine Ext2.alloc ?_ _ | with_reducible refine Ext2.drew1 ?_ | with_reducible refine Ext2.setA ?_ _ _ | with_reducible assumption | with_reducible exact Ext2.refl _ _ _))) (prG HPu.out (by repeat (first | with_reducible refine ext_alloc ?_ _ | with_reducible refine Below.drew ?_ | with_reducible assumption | with_reducible exact ext_refl _))) ?_
    rotate_left 1
    · (rintro w' ⟨f0, f1⟩; go_simp; with_reducible rfl)
    refine takeF 11 (v := ?_) rfl (by kernel_rfl) (by kernel_rfl) (by kernel_rfl) (by kernel_rfl) (fun _ _ _ h => h) (Or.inl ⟨by rfl, ?_⟩) (prF HSX.out (by repeat (first | with_reducible refine Ext2.alloc ?_ _ | with_reducible refine Ext2.drew1 ?_ | with_reducible refine Ext2.setA ?_ _ _ | with_reducible assumption | with_reducible exact Ext2.refl _ _ _))) (fun _ => (prG HPu.out (by repeat (first | with_reducible refine ext_alloc ?_ _ | with_reducible refine Below.drew ?_ | with_reducible assumption | with_reducible exact ext_refl _)))) ?_
    rotate_left 1
    · (rintro w' ⟨f0, f1, f2, f3, f4, f5, _⟩; go_simp; with_reducible rfl)
    refine allL [7, 12] (by kernel_rfl) (by simp) ?_
    simp only [List.forall_mem_cons, List.not_mem_nil, false_implies, implies_true, and_true]
    refine ⟨?_, ?_⟩
    · refine stepL rfl (by rfl) (fun K hK => ?_)
      go_simp
      refine hK _ _ ⟨⟨(prF HSX.out (by repeat (first | with_reducible refine Ext2.alloc ?_ _ | with_reducible refine Ext2.drew1 ?_ | with_reducible refine Ext2.setA ?_ _ _ | with_reducible assumption | with_reducible exact Ext2.refl _ _ _))), fun _ => (prG HPu.out (by repeat (first | with_reducible refine ext_alloc ?_ _ | with_reducible refine Below.drew ?_ | with_reducible assumption | with_reducible exact ext_refl _)))⟩, ?_⟩
      clear hK K
      refine allL [8, 12] (by kernel_rfl) (by simp) ?_
      simp only [List.forall_mem_cons, List.not_mem_nil, false_implies, implies_true, and_true]
      refine ⟨?_, ?_⟩
      · refine stepL rfl (by rfl) (fun K hK => ?_)
        go_simp
        refine hK _ _ ⟨⟨(prF HSX.out (by repeat (first | with_reducible refine Ext2.alloc ?_ _ | with_reducible refine Ext2.drew1 ?_ | with_reducible refine Ext2.setA ?_ _ _ | with_reducible assumption | with_reducible exact Ext2.refl _ _ _))), fun _ => (prG HPu.out (by repeat (first | with_reducible refine ext_alloc ?_ _ | with_reducible refine Below.drew ?_ | with_reducible assumption | with_reducible exact ext_refl _)))⟩, ?_⟩
        clear hK K
        refine takeF 14 (v := ?_) rfl (by kernel_rfl) (by kernel_rfl) (by kernel_rfl) (by kernel_rfl) (fun _ _ _ h => h) (Or.inl ⟨by rfl, ?_⟩) (prF HSX.out (by repeat (first | with_reducible refine Ext2.alloc ?_ _ | with_reducible refine Ext2.drew1 ?_ | with_reducible refine Ext2.setA ?_ _ _ | with_reducible assumption | with_reducible exact Ext2.refl _ _ _))) (fun _ => (prG HPu.out (by repeat (first | with_reducible refine ext_alloc ?_ _ | with_reducible refine Below.drew ?_ | with_reducible assumption | with_reducible exact ext_refl _)))) ?_
        rotate_left 1
        · (rintro w' ⟨f0, f1, f2, f3, f4, f5, _⟩; go_simp; with_reducible rfl)
        refine allL [12] (by kernel_rfl) (by simp) ?_
        simp only [List.forall_mem_cons, List.not_mem_nil, false_implies, implies_true, and_true]
        refine stepL rfl (by rfl) (fun K hK => ?_)
        go_simp
        refine hK _ _ ⟨⟨(prF HSX.out (by repeat (first | with_reducible refine Ext2.alloc ?_ _ | with_reducible refine Ext2.drew1 ?_ | with_reducible refine Ext2.setA ?_ _ _ | with_reducible assumption | with_reducible exact Ext2.refl _ _ _))), fun _ => (prG HPu.out (by repeat (first | with_reducible refine ext_alloc ?_ _ | with_reducible refine Below.drew ?_ | with_reducible assumption | with_reducible exact ext_refl _)))⟩, ?_⟩
        clear hK K
        refine allL [13] (by kernel_rfl) (by simp) ?_
        simp only [List.forall_mem_cons, List.not_mem_nil, false_implies, implies_true, and_true]
        refine stepL rfl (by rfl) (fun K hK => ?_)
        go_simp
        refine hK _ _ ⟨⟨(prF HSX.out (by repeat (first | with_reducible refine Ext2.alloc ?_ _ | with_reducible refine Ext2.drew1 ?_ | with_reducible refine Ext2.setA ?_ _ _ | with_reducible assumption | with_reducible exact Ext2.refl _ _ _))), fun _ => (prG HPu.out (by repeat (first | with_reducible refine ext_alloc ?_ _ | with_reducible refine Below.drew ?_ | with_reducible assumption | with_reducible exact ext_refl _)))⟩, ?_⟩
        clear hK K
        refine allL [15] (by kernel_rfl) (by simp) ?_
        simp only [List.forall_mem_cons, List.not_mem_nil, false_implies, implies_true, and_true]
        refine stepL rfl (by rfl) (fun K hK => ?_)
        go_simp
        refine hK _ _ ⟨⟨(prF HSX.out (by repeat (first | with_reducible refine Ext2.alloc ?_ _ | with_reducible refine Ext2.drew1 ?_ | with_reducible refine Ext2.setA ?_ _ _ | with_reducible assumption | with_reducible exact Ext2.refl _ _ _))), fun h => absurd h (by decide)⟩, ?_⟩
        clear hK K
        refine takeF 16 (v := ?_) rfl (by kernel_rfl) (by kernel_rfl) (by kernel_rfl) (by kernel_rfl) (fun _ _ _ h => h) (Or.inl ⟨by rfl, ?_⟩) (prF HSX.out (by repeat (first | with_reducible refine Ext2.alloc ?_ _ | with_reducible refine Ext2.drew1 ?_ | with_reducible refine Ext2.setA ?_ _ _ | with_reducible assumption | with_reducible exact Ext2.refl _ _ _))) (fun h => absurd h (by decide)) ?_
        rotate_left 1
        · (rintro w' ⟨f0, f1, f2, f3, f4, f5, _⟩; go_simp; with_reducible rfl)
        refine allL [17] (by kernel_rfl) (by simp) ?_
        simp only [List.forall_mem_cons, List.not_mem_nil, false_implies, implies_true, and_true]
        refine stepL rfl (by rfl) (fun K hK => ?_)
        go_simp
        refine hK _ _ ⟨⟨(prF HSX.out (by repeat (first | with_reducible refine Ext2.alloc ?_ _ | with_reducible refine Ext2.drew1 ?_ | with_reducible refine Ext2.setA ?_ _ _ | with_reducible assumption | with_reducible exact Ext2.refl _ _ _))), fun h => absurd h (by decide)⟩, ?_⟩
        clear hK K
        refine doneL (by kernel_rfl) ?_ _
        go_wp2
        refine rounds_name (PrT w bp (w.heap.size + 1 + 1 + 1) (.slice B m d)) ?_ ?_
        · unfold PrT
          repeat apply Exists.intro
          refine ⟨?_, ?_, ?_, ?_, ?_, ?_, ?_, ?_, ?_, ?_⟩
          · (repeat (first | with_reducible refine Blk.drew ?_ | with_reducible refine Blk.alloc ?_ _)); exact blk_set67 HPu.out
          · (first | exact grownCap_ge U 1 0 _ | exact grownCap_ge U.drew 1 0 _ | exact grownCap_ge U.drew.drew 1 0 _)
          · (first | exact grownCap_ge U 1 0 _ | exact grownCap_ge U.drew 1 0 _ | exact grownCap_ge U.drew.drew 1 0 _)
          · (repeat (first | with_reducible exact Blk.new' _ _ _ (by simp) | with_reducible refine Blk.drew ?_ | with_reducible refine Blk.alloc ?_ _))
          · (repeat (first | with_reducible exact Blk.new' _ _ _ (by simp) | with_reducible refine Blk.drew ?_ | with_reducible refine Blk.alloc ?_ _))
          · (repeat (first | with_reducible refine Blk.drew ?_ | with_reducible refine Blk.alloc ?_ _)); exact (HRu.out.far (p := ⟨bp, 6, none⟩) HNe.out.2.2 _).far (p := ⟨bp, 7, none⟩) HNe.out.2.2 _
          · (have := HRu.out.lt; omega)
          · (have := HRu.out.lt; omega)
          · refine (HSu.out.keep (fun j hj hlt => Ext2.block (a := bp) (b := bp) (by repeat (first | with_reducible refine Ext2.alloc ?_ _ | with_reducible refine Ext2.drew1 ?_ | with_reducible refine Ext2.setA ?_ _ _ | with_reducible assumption | with_reducible exact Ext2.refl _ _ _)) j hlt hj.2 hj.2)).mono (fun _ hj _ => hj.1)
          · exact Ext2.below HEu.out HLw.out HLw.out (by repeat (first | with_reducible refine Ext2.alloc ?_ _ | with_reducible refine Ext2.drew1 ?_ | with_reducible refine Ext2.setA ?_ _ _ | with_reducible assumption | with_reducible exact Ext2.refl _ _ _))
        intro T hT
        clear p6 p7 o0 o1 g0 g1 g2 g3 g4 pf6 pf7 hpl hol hgl hpl1 hpl2 hpl3 HSX HPu HRu HOu HGu HSu HEu HNe HLw hir hzr0 hzr1 hzr2 hip hzp0 hzp1 hzp2
        obtain ⟨g1, k1, zs1, g2, k2, A1, c1, ys, hp, hk1, hk2, hr1, hr2, hrb, hl1, hl2, hst, hbe⟩ := hT
        have HK := Lib.hid (And.intro hk1 (And.intro hk2 (And.intro hr1 (And.intro hr2 (And.intro hl1 (And.intro hl2 (And.intro hst hbe)))))))
        have HRb := Lib.hid hrb
        have q0 := hp.cell 0; have q1 := hp.cell 1; have q2 := hp.cell 2; have q3 := hp.cell 3; have q4 := hp.cell 4; have q5 := hp.cell 5; have q6 := hp.cell 6; have q7 := hp.cell 7; have q8 := hp.cell 8
        have r0 := hrb.cell 0; have r1 := hrb.cell 1; have r2 := hrb.cell 2; have r3 := hrb.cell 3; have r4 := hrb.cell 4; have r5 := hrb.cell 5; have r6 := hrb.cell 6; have r7 := hrb.cell 7; have r8 := hrb.cell 8
        have f0 := hrb.frozen 0; have f1 := hrb.frozen 1; have f2 := hrb.frozen 2; have f3 := hrb.frozen 3; have f4 := hrb.frozen 4; have f5 := hrb.frozen 5; have f6 := hrb.frozen 6; have f7 := hrb.frozen 7; have f8 := hrb.frozen 8
        clear hp hk1 hk2 hr1 hr2 hrb hl1 hl2 hst hbe
        rw [rounds_succ]
        go_wp2
        have hBf := blk_set9 (u0 := .int .i64 0) (u1 := .int .i64 0) (u2 := .int .i64 5) (u3 := .int .i64 5) (u4 := .int .i64 1) (u5 := .int .i64 0) (u6 := .slice (some ⟨g1, 0, none⟩) 1 k1) (u7 := .slice (some ⟨g2, 0, none⟩) 1 k2) (u8 := .slice B m d) HRb.out
        have y0 := hBf.cell 0; have y1 := hBf.cell 1; have y2 := hBf.cell 2; have y3 := hBf.cell 3; have y4 := hBf.cell 4; have y5 := hBf.cell 5; have y6 := hBf.cell 6; have y7 := hBf.cell 7; have y8 := hBf.cell 8
        refine bodyPost_ret (v := .tuple #[.agg #[.int .i64 0, .int .i64 0, .int .i64 5, .int .i64 5, .int .i64 1, .int .i64 0, .slice (some ⟨g1, 0, none⟩) 1 k1, .slice (some ⟨g2, 0, none⟩) 1 k2, .slice B m d], .int .i64 0]) (by simp [results, Tryz.results179, go_sem, y0, y1, y2, y3, y4, y5, y6, y7, y8]) rfl ⟨_, rfl, ⟨_, _, _, rfl, .inr ⟨rfl, g1, k1, zs1, rfl, HK.out.1, ?_⟩, ⟨g2, k2, A1, c1, ys, rfl, HK.out.2.1, ?_⟩, ?_⟩, ?_⟩
        · exact (heap_set9 (by have := HK.out.2.2.2.2.1; omega)).trans HK.out.2.2.1
        · exact (heap_set9 (by have := HK.out.2.2.2.2.2.1; omega)).trans HK.out.2.2.2.1
        · exact (HK.out.2.2.2.2.2.2.1.keep (fun j hj _ => heap_set9 (by omega))).mono (fun _ _ _ => trivial)
        · exact ext_set9 HK.out.2.2.2.2.2.2.2 (by omega)
      · refine stepL rfl (by rfl) (fun K hK => ?_)
        go_simp
        refine hK _ _ ⟨⟨(prF HSX.out (by repeat (first | with_reducible refine Ext2.alloc ?_ _ | with_reducible refine Ext2.drew1 ?_ | with_reducible refine Ext2.setA ?_ _ _ | with_reducible assumption | with_reducible exact Ext2.refl _ _ _))), fun _ => (prG HPu.out (by repeat (first | with_reducible refine ext_alloc ?_ _ | with_reducible refine Below.drew ?_ | with_reducible assumption | with_reducible exact ext_refl _)))⟩, ?_⟩
        clear hK K
        refine allL [8] (by kernel_rfl) (by simp) ?_
        simp only [List.forall_mem_cons, List.not_mem_nil, false_implies, implies_true, and_true]
        refine stepL rfl (by rfl) (fun K hK => ?_)
        go_simp
        refine hK _ _ ⟨⟨(prF HSX.out (by repeat (first | with_reducible refine Ext2.alloc ?_ _ | with_reducible refine Ext2.drew1 ?_ | with_reducible refine Ext2.setA ?_ _ _ | with_reducible assumption | with_reducible exact Ext2.refl _ _ _))), fun _ => (prG HPu.out (by repeat (first | with_reducible refine ext_alloc ?_ _ | with_reducible refine Below.drew ?_ | with_reducible assumption | with_reducible exact ext_refl _)))⟩, ?_⟩
        clear hK K
        refine takeF 14 (v := ?_) rfl (by kernel_rfl) (by kernel_rfl) (by kernel_rfl) (by kernel_rfl) (fun _ _ _ h => h) (Or.inl ⟨by rfl, ?_⟩) (prF HSX.out (by repeat (first | with_reducible refine Ext2.alloc ?_ _ | with_reducible refine Ext2.drew1 ?_ | with_reducible refine Ext2.setA ?_ _ _ | with_reducible assumption | with_reducible exact Ext2.refl _ _ _))) (fun _ => (prG HPu.out (by repeat (first | with_reducible refine ext_alloc ?_ _ | with_reducible refine Below.drew ?_ | with_reducible assumption | with_reducible exact ext_refl _)))) ?_
        rotate_left 1
        · (rintro w' ⟨f0, f1, f2, f3, f4, f5, _⟩; go_simp; with_reducible rfl)
        refine allL [13] (by kernel_rfl) (by simp) ?_
        simp only [List.forall_mem_cons, List.not_mem_nil, false_implies, implies_true, and_true]
        refine stepL rfl (by rfl) (fun K hK => ?_)
        go_simp
        refine hK _ _ ⟨⟨(prF HSX.out (by repeat (first | with_reducible refine Ext2.alloc ?_ _ | with_reducible refine Ext2.drew1 ?_ | with_reducible refine Ext2.setA ?_ _ _ | with_reducible assumption | with_reducible exact Ext2.refl _ _ _))), fun _ => (prG HPu.out (by repeat (first | with_reducible refine ext_alloc ?_ _ | with_reducible refine Below.drew ?_ | with_reducible assumption | with_reducible exact ext_refl _)))⟩, ?_⟩
        clear hK K
        refine allL [15] (by kernel_rfl) (by simp) ?_
        simp only [List.forall_mem_cons, List.not_mem_nil, false_implies, implies_true, and_true]
        refine stepL rfl (by rfl) (fun K hK => ?_)
        go_simp
        refine hK _ _ ⟨⟨(prF HSX.out (by repeat (first | with_reducible refine Ext2.alloc ?_ _ | with_reducible refine Ext2.drew1 ?_ | with_reducible refine Ext2.setA ?_ _ _ | with_reducible assumption | with_reducible exact Ext2.refl _ _ _))), fun h => absurd h (by decide)⟩, ?_⟩
        clear hK K
        refine takeF 16 (v := ?_) rfl (by kernel_rfl) (by kernel_rfl) (by kernel_rfl) (by kernel_rfl) (fun _ _ _ h => h) (Or.inl ⟨by rfl, ?_⟩) (prF HSX.out (by repeat (first | with_reducible refine Ext2.alloc ?_ _ | with_reducible refine Ext2.drew1 ?_ | with_reducible refine Ext2.setA ?_ _ _ | with_reducible assumption | with_reducible exact Ext2.refl _ _ _))) (fun h => absurd h (by decide)) ?_
        rotate_left 1
        · (rintro w' ⟨f0, f1, f2, f3, f4, f5, _⟩; go_simp; with_reducible rfl)
        refine allL [17] (by kernel_rfl) (by simp) ?_
        simp only [List.forall_mem_cons, List.not_mem_nil, false_implies, implies_true, and_true]
        refine stepL rfl (by rfl) (fun K hK => ?_)
        go_simp
        refine hK _ _ ⟨⟨(prF HSX.out (by repeat (first | with_reducible refine Ext2.alloc ?_ _ | with_reducible refine Ext2.drew1 ?_ | with_reducible refine Ext2.setA ?_ _ _ | with_reducible assumption | with_reducible exact Ext2.refl _ _ _))), fun h => absurd h (by decide)⟩, ?_⟩
        clear hK K
        refine doneL (by kernel_rfl) ?_ _
        go_wp2
        refine rounds_name (PrT w bp (w.heap.size + 1 + 1 + 1) (.slice B m d)) ?_ ?_
        · unfold PrT
          repeat apply Exists.intro
          refine ⟨?_, ?_, ?_, ?_, ?_, ?_, ?_, ?_, ?_, ?_⟩
          · (repeat (first | with_reducible refine Blk.drew ?_ | with_reducible refine Blk.alloc ?_ _)); exact blk_set67 HPu.out
          · (first | exact grownCap_ge U 1 0 _ | exact grownCap_ge U.drew 1 0 _ | exact grownCap_ge U.drew.drew 1 0 _)
          · (first | exact grownCap_ge U 1 0 _ | exact grownCap_ge U.drew 1 0 _ | exact grownCap_ge U.drew.drew 1 0 _)
          · (repeat (first | with_reducible exact Blk.new' _ _ _ (by simp) | with_reducible refine Blk.drew ?_ | with_reducible refine Blk.alloc ?_ _))
          · (repeat (first | with_reducible exact Blk.new' _ _ _ (by simp) | with_reducible refine Blk.drew ?_ | with_reducible refine Blk.alloc ?_ _))
          · (repeat (first | with_reducible refine Blk.drew ?_ | with_reducible refine Blk.alloc ?_ _)); exact (HRu.out.far (p := ⟨bp, 6, none⟩) HNe.out.2.2 _).far (p := ⟨bp, 7, none⟩) HNe.out.2.2 _
          · (have := HRu.out.lt; omega)
          · (have := HRu.out.lt; omega)
          · refine (HSu.out.keep (fun j hj hlt => Ext2.block (a := bp) (b := bp) (by repeat (first | with_reducible refine Ext2.alloc ?_ _ | with_reducible refine Ext2.drew1 ?_ | with_reducible refine Ext2.setA ?_ _ _ | with_reducible assumption | with_reducible exact Ext2.refl _ _ _)) j hlt hj.2 hj.2)).mono (fun _ hj _ => hj.1)
          · exact Ext2.below HEu.out HLw.out HLw.out (by repeat (first | with_reducible refine Ext2.alloc ?_ _ | with_reducible refine Ext2.drew1 ?_ | with_reducible refine Ext2.setA ?_ _ _ | with_reducible assumption | with_reducible exact Ext2.refl _ _ _))
        intro T hT
        clear p6 p7 o0 o1 g0 g1 g2 g3 g4 pf6 pf7 hpl hol hgl hpl1 hpl2 hpl3 HSX HPu HRu HOu HGu HSu HEu HNe HLw hir hzr0 hzr1 hzr2 hip hzp0 hzp1 hzp2
        obtain ⟨g1, k1, zs1, g2, k2, A1, c1, ys, hp, hk1, hk2, hr1, hr2, hrb, hl1, hl2, hst, hbe⟩ := hT
        have HK := Lib.hid (And.intro hk1 (And.intro hk2 (And.intro hr1 (And.intro hr2 (And.intro hl1 (And.intro hl2 (And.intro hst hbe)))))))
        have HRb := Lib.hid hrb
        have q0 := hp.cell 0; have q1 := hp.cell 1; have q2 := hp.cell 2; have q3 := hp.cell 3; have q4 := hp.cell 4; have q5 := hp.cell 5; have q6 := hp.cell 6; have q7 := hp.cell 7; have q8 := hp.cell 8
        have r0 := hrb.cell 0; have r1 := hrb.cell 1; have r2 := hrb.cell 2; have r3 := hrb.cell 3; have r4 := hrb.cell 4; have r5 := hrb.cell 5; have r6 := hrb.cell 6; have r7 := hrb.cell 7; have r8 := hrb.cell 8
        have f0 := hrb.frozen 0; have f1 := hrb.frozen 1; have f2 := hrb.frozen 2; have f3 := hrb.frozen 3; have f4 := hrb.frozen 4; have f5 := hrb.frozen 5; have f6 := hrb.frozen 6; have f7 := hrb.frozen 7; have f8 := hrb.frozen 8
        clear hp hk1 hk2 hr1 hr2 hrb hl1 hl2 hst hbe
        rw [rounds_succ]
        go_wp2
        have hBf := blk_set9 (u0 := .int .i64 0) (u1 := .int .i64 0) (u2 := .int .i64 5) (u3 := .int .i64 5) (u4 := .int .i64 1) (u5 := .int .i64 0) (u6 := .slice (some ⟨g1, 0, none⟩) 1 k1) (u7 := .slice (some ⟨g2, 0, none⟩) 1 k2) (u8 := .slice B m d) HRb.out
        have y0 := hBf.cell 0; have y1 := hBf.cell 1; have y2 := hBf.cell 2; have y3 := hBf.cell 3; have y4 := hBf.cell 4; have y5 := hBf.cell 5; have y6 := hBf.cell 6; have y7 := hBf.cell 7; have y8 := hBf.cell 8
        refine bodyPost_ret (v := .tuple #[.agg #[.int .i64 0, .int .i64 0, .int .i64 5, .int .i64 5, .int .i64 1, .int .i64 0, .slice (some ⟨g1, 0, none⟩) 1 k1, .slice (some ⟨g2, 0, none⟩) 1 k2, .slice B m d], .int .i64 0]) (by simp [results, Tryz.results179, go_sem, y0, y1, y2, y3, y4, y5, y6, y7, y8]) rfl ⟨_, rfl, ⟨_, _, _, rfl, .inr ⟨rfl, g1, k1, zs1, rfl, HK.out.1, ?_⟩, ⟨g2, k2, A1, c1, ys, rfl, HK.out.2.1, ?_⟩, ?_⟩, ?_⟩
        · exact (heap_set9 (by have := HK.out.2.2.2.2.1; omega)).trans HK.out.2.2.1
        · exact (heap_set9 (by have := HK.out.2.2.2.2.2.1; omega)).trans HK.out.2.2.2.1
        · exact (HK.out.2.2.2.2.2.2.1.keep (fun j hj _ => heap_set9 (by omega))).mono (fun _ _ _ => trivial)
        · exact ext_set9 HK.out.2.2.2.2.2.2.2 (by omega)
    · refine stepL rfl (by rfl) (fun K hK => ?_)
      go_simp
      refine hK _ _ ⟨⟨(prF HSX.out (by repeat (first | with_reducible refine Ext2.alloc ?_ _ | with_reducible refine Ext2.drew1 ?_ | with_reducible refine Ext2.setA ?_ _ _ | with_reducible assumption | with_reducible exact Ext2.refl _ _ _))), fun _ => (prG HPu.out (by repeat (first | with_reducible refine ext_alloc ?_ _ | with_reducible refine Below.drew ?_ | with_reducible assumption | with_reducible exact ext_refl _)))⟩, ?_⟩
      clear hK K
      refine allL [7] (by kernel_rfl) (by simp) ?_
      simp only [List.forall_mem_cons, List.not_mem_nil, false_implies, implies_true, and_true]
      refine stepL rfl (by rfl) (fun K hK => ?_)
      go_simp
      refine hK _ _ ⟨⟨(prF HSX.out (by repeat (first | with_reducible refine Ext2.alloc ?_ _ | with_reducible refine Ext2.drew1 ?_ | with_reducible refine Ext2.setA ?_ _ _ | with_reducible assumption | with_reducible exact Ext2.refl _ _ _))), fun _ => (prG HPu.out (by repeat (first | with_reducible refine ext_alloc ?_ _ | with_reducible refine Below.drew ?_ | with_reducible assumption | with_reducible exact ext_refl _)))⟩, ?_⟩
      clear hK K
      refine allL [8] (by kernel_rfl) (by simp) ?_
      simp only [List.forall_mem_cons, List.not_mem_nil, false_implies, implies_true, and_true]
      refine stepL rfl (by rfl) (fun K hK => ?_)
      go_simp
      refine hK _ _ ⟨⟨(prF HSX.out (by repeat (first | with_reducible refine Ext2.alloc ?_ _ | with_reducible refine Ext2.drew1 ?_ | with_reducible refine Ext2.setA ?_ _ _ | with_reducible assumption | with_reducible exact Ext2.refl _ _ _))), fun _ => (prG HPu.out (by repeat (first | with_reducible refine ext_alloc ?_ _ | with_reducible refine Below.drew ?_ | with_reducible assumption | with_reducible exact ext_refl _)))⟩, ?_⟩
      clear hK K
      refine takeF 14 (v := ?_) rfl (by kernel_rfl) (by kernel_rfl) (by kernel_rfl) (by kernel_rfl) (fun _ _ _ h => h) (Or.inl ⟨by rfl, ?_⟩) (prF HSX.out (by repeat (first | with_reducible refine Ext2.alloc ?_ _ | with_reducible refine Ext2.drew1 ?_ | with_reducible refine Ext2.setA ?_ _ _ | with_reducible assumption | with_reducible exact Ext2.refl _ _ _))) (fun _ => (prG HPu.out (by repeat (first | with_reducible refine ext_alloc ?_ _ | with_reducible refine Below.drew ?_ | with_reducible assumption | with_reducible exact ext_refl _)))) ?_
      rotate_left 1
      · (rintro w' ⟨f0, f1, f2, f3, f4, f5, _⟩; go_simp; with_reducible rfl)
      refine allL [13] (by kernel_rfl) (by simp) ?_
      simp only [List.forall_mem_cons, List.not_mem_nil, false_implies, implies_true, and_true]
      refine stepL rfl (by rfl) (fun K hK => ?_)
      go_simp
      refine hK _ _ ⟨⟨(prF HSX.out (by repeat (first | with_reducible refine Ext2.alloc ?_ _ | with_reducible refine Ext2.drew1 ?_ | with_reducible refine Ext2.setA ?_ _ _ | with_reducible assumption | with_reducible exact Ext2.refl _ _ _))), fun _ => (prG HPu.out (by repeat (first | with_reducible refine ext_alloc ?_ _ | with_reducible refine Below.drew ?_ | with_reducible assumption | with_reducible exact ext_refl _)))⟩, ?_⟩
      clear hK K
      refine allL [15] (by kernel_rfl) (by simp) ?_
      simp only [List.forall_mem_cons, List.not_mem_nil, false_implies, implies_true, and_true]
      refine stepL rfl (by rfl) (fun K hK => ?_)
      go_simp
      refine hK _ _ ⟨⟨(prF HSX.out (by repeat (first | with_reducible refine Ext2.alloc ?_ _ | with_reducible refine Ext2.drew1 ?_ | with_reducible refine Ext2.setA ?_ _ _ | with_reducible assumption | with_reducible exact Ext2.refl _ _ _))), fun h => absurd h (by decide)⟩, ?_⟩
      clear hK K
      refine takeF 16 (v := ?_) rfl (by kernel_rfl) (by kernel_rfl) (by kernel_rfl) (by kernel_rfl) (fun _ _ _ h => h) (Or.inl ⟨by rfl, ?_⟩) (prF HSX.out (by repeat (first | with_reducible refine Ext2.alloc ?_ _ | with_reducible refine Ext2.drew1 ?_ | with_reducible refine Ext2.setA ?_ _ _ | with_reducible assumption | with_reducible exact Ext2.refl _ _ _))) (fun h => absurd h (by decide)) ?_
      rotate_left 1
      · (rintro w' ⟨f0, f1, f2, f3, f4, f5, _⟩; go_simp; with_reducible rfl)
      refine allL [17] (by kernel_rfl) (by simp) ?_
      simp only [List.forall_mem_cons, List.not_mem_nil, false_implies, implies_true, and_true]
      refine stepL rfl (by rfl) (fun K hK => ?_)
      go_simp
      refine hK _ _ ⟨⟨(prF HSX.out (by repeat (first | with_reducible refine Ext2.alloc ?_ _ | with_reducible refine Ext2.drew1 ?_ | with_reducible refine Ext2.setA ?_ _ _ | with_reducible assumption | with_reducible exact Ext2.refl _ _ _))), fun h => absurd h (by decide)⟩, ?_⟩
      clear hK K
      refine doneL (by kernel_rfl) ?_ _
      go_wp2
      refine rounds_name (PrT w bp (w.heap.size + 1 + 1 + 1) (.slice B m d)) ?_ ?_
      · unfold PrT
        repeat apply Exists.intro
        refine ⟨?_, ?_, ?_, ?_, ?_, ?_, ?_, ?_, ?_, ?_⟩
        · (repeat (first | with_reducible refine Blk.drew ?_ | with_reducible refine Blk.alloc ?_ _)); exact blk_set67 HPu.out
        · (first | exact grownCap_ge U 1 0 _ | exact grownCap_ge U.drew 1 0 _ | exact grownCap_ge U.drew.drew 1 0 _)
        · (first | exact grownCap_ge U 1 0 _ | exact grownCap_ge U.drew 1 0 _ | exact grownCap_ge U.drew.drew 1 0 _)
        · (repeat (first | with_reducible exact Blk.new' _ _ _ (by simp) | with_reducible refine Blk.drew ?_ | with_reducible refine Blk.alloc ?_ _))
        · (repeat (first | with_reducible exact Blk.new' _ _ _ (by simp) | with_reducible refine Blk.drew ?_ | with_reducible refine Blk.alloc ?_ _))
        · (repeat (first | with_reducible refine Blk.drew ?_ | with_reducible refine Blk.alloc ?_ _)); exact (HRu.out.far (p := ⟨bp, 6, none⟩) HNe.out.2.2 _).far (p := ⟨bp, 7, none⟩) HNe.out.2.2 _
        · (have := HRu.out.lt; omega)
        · (have := HRu.out.lt; omega)
        · refine (HSu.out.keep (fun j hj hlt => Ext2.block (a := bp) (b := bp) (by repeat (first | with_reducible refine Ext2.alloc ?_ _ | with_reducible refine Ext2.drew1 ?_ | with_reducible refine Ext2.setA ?_ _ _ | with_reducible assumption | with_reducible exact Ext2.refl _ _ _)) j hlt hj.2 hj.2)).mono (fun _ hj _ => hj.1)
        · exact Ext2.below HEu.out HLw.out HLw.out (by repeat (first | with_reducible refine Ext2.alloc ?_ _ | with_reducible refine Ext2.drew1 ?_ | with_reducible refine Ext2.setA ?_ _ _ | with_reducible assumption | with_reducible exact Ext2.refl _ _ _))
      intro T hT
      clear p6 p7 o0 o1 g0 g1 g2 g3 g4 pf6 pf7 hpl hol hgl hpl1 hpl2 hpl3 HSX HPu HRu HOu HGu HSu HEu HNe HLw hir hzr0 hzr1 hzr2 hip hzp0 hzp1 hzp2
      obtain ⟨g1, k1, zs1, g2, k2, A1, c1, ys, hp, hk1, hk2, hr1, hr2, hrb, hl1, hl2, hst, hbe⟩ := hT
      have HK := Lib.hid (And.intro hk1 (And.intro hk2 (And.intro hr1 (And.intro hr2 (And.intro hl1 (And.intro hl2 (And.intro hst hbe)))))))
      have HRb := Lib.hid hrb
      have q0 := hp.cell 0; have q1 := hp.cell 1; have q2 := hp.cell 2; have q3 := hp.cell 3; have q4 := hp.cell 4; have q5 := hp.cell 5; have q6 := hp.cell 6; have q7 := hp.cell 7; have q8 := hp.cell 8
      have r0 := hrb.cell 0; have r1 := hrb.cell 1; have r2 := hrb.cell 2; have r3 := hrb.cell 3; have r4 := hrb.cell 4; have r5 := hrb.cell 5; have r6 := hrb.cell 6; have r7 := hrb.cell 7; have r8 := hrb.cell 8
      have f0 := hrb.frozen 0; have f1 := hrb.frozen 1; have f2 := hrb.frozen 2; have f3 := hrb.frozen 3; have f4 := hrb.frozen 4; have f5 := hrb.frozen 5; have f6 := hrb.frozen 6; have f7 := hrb.frozen 7; have f8 := hrb.frozen 8
      clear hp hk1 hk2 hr1 hr2 hrb hl1 hl2 hst hbe
      rw [rounds_succ]
      go_wp2
      have hBf := blk_set9 (u0 := .int .i64 0) (u1 := .int .i64 0) (u2 := .int .i64 5) (u3 := .int .i64 5) (u4 := .int .i64 1) (u5 := .int .i64 0) (u6 := .slice (some ⟨g1, 0, none⟩) 1 k1) (u7 := .slice (some ⟨g2, 0, none⟩) 1 k2) (u8 := .slice B m d) HRb.out
      have y0 := hBf.cell 0; have y1 := hBf.cell 1; have y2 := hBf.cell 2; have y3 := hBf.cell 3; have y4 := hBf.cell 4; have y5 := hBf.cell 5; have y6 := hBf.cell 6; have y7 := hBf.cell 7; have y8 := hBf.cell 8
      refine bodyPost_ret (v := .tuple #[.agg #[.int .i64 0, .int .i64 0, .int .i64 5, .int .i64 5, .int .i64 1, .int .i64 0, .slice (some ⟨g1, 0, none⟩) 1 k1, .slice (some ⟨g2, 0, none⟩) 1 k2, .slice B m d], .int .i64 0]) (by simp [results, Tryz.results179, go_sem, y0, y1, y2, y3, y4, y5, y6, y7, y8]) rfl ⟨_, rfl, ⟨_, _, _, rfl, .inr ⟨rfl, g1, k1, zs1, rfl, HK.out.1, ?_⟩, ⟨g2, k2, A1, c1, ys, rfl, HK.out.2.1, ?_⟩, ?_⟩, ?_⟩
      · exact (heap_set9 (by have := HK.out.2.2.2.2.1; omega)).trans HK.out.2.2.1
      · exact (heap_set9 (by have := HK.out.2.2.2.2.2.1; omega)).trans HK.out.2.2.2.1
      · exact (HK.out.2.2.2.2.2.2.1.keep (fun j hj _ => heap_set9 (by omega))).mono (fun _ _ _ => trivial)
      · exact ext_set9 HK.out.2.2.2.2.2.2.2 (by omega)

end Go.Proofs.YtbgfmbmcabekeaaGreatDoor
