/-
  Part 2 of 18: the contracts that the proof of the last part uses; each stands under its own head.
-/
import Derived.Test.YtbgfmbmcabekeaaGreatDoorJ1
import Derived.Lib.ConvBytes
import Derived.RangeFuncNested
import Derived.RangeFuncBound
import Derived.RangeFuncCalls
import Derived.RangeFuncLeaves
import Derived.RangeFuncBox
import Derived.Shelf.Abstract
import Derived.Shelf.RegionOpen
import Derived.OwnWalkIn
import Derived.TacticsInMore
import Derived.LoopNIn
import Derived.LoopIn
import Derived.Test.YtbgfmbmcabekeaaGreatDoorProg
import Derived.RangeFuncRecord
import Derived.Deep.RegionHeld3
import Derived.StillTailTactics
import Derived.BigRegion
set_option linter.unusedSimpArgs false
set_option linter.unusedVariables false

/-
  The walk of (digest.words).digest.
-/
namespace Go.Proofs.YtbgfmbmcabekeaaGreatDoor
open Go.RowKit
attribute [local go_sem ↓] Go.wp_at_zero Go.wp_at_succ

/-- cells of an array of 32 bytes of which the first ones are l -/
def pad32 (l : List Int) : Array Value := ((l ++ List.replicate (32 - l.length) 0).map (Value.int .u8)).toArray
theorem pad32_set (l : List Int) (x : Int) (h : l.length < 32) : (pad32 l).setIfInBounds l.length (.int .u8 x) = pad32 (l ++ [x]) := by
  unfold pad32
  apply Array.ext'
  have e : 32 - l.length = (32 - (l ++ [x]).length) + 1 := by simp; omega
  rw [e, List.replicate_succ]
  simp
/-- byte k of a word, the greatest one first -/
def byteF (x : Int) (k : Nat) : Int := x / 2 ^ (24 - 8 * k) % 256
def bytesTo (x : Int) (m : Nat) : List Int := (List.range m).map (byteF x)
theorem bytesTo_succ (x : Int) (m : Nat) : bytesTo x (m + 1) = bytesTo x m ++ [byteF x m] := by simp [bytesTo, List.range_succ]
def outTo (v : V8) : Nat → List Int
  | 0 => []
  | n + 1 => outTo v n ++ bytesTo (v.list[n]?.getD 0) 4
theorem outTo_length (v : V8) (n : Nat) : (outTo v n).length = 4 * n := by
  induction n with
  | zero => rfl
  | succ n ih => simp [outTo, ih, bytesTo]; omega

def ofBytes (l : List Int) : ByteArray := l.foldl (fun r n => r.push (UInt8.ofNat n.toNat)) ByteArray.empty
theorem push_size (l : List Int) (s : ByteArray) : (l.foldl (fun r n => r.push (UInt8.ofNat n.toNat)) s).size = s.size + l.length := by
  induction l generalizing s with
  | nil => rfl
  | cons n l ih => rw [List.foldl_cons, ih, ByteArray.size_push, List.length_cons]; omega
theorem ofBytes_size (l : List Int) : (ofBytes l).size = l.length := by
  unfold ofBytes
  rw [push_size]
  simp
/-- the digest that the words are -/
def digF (v : V8) : ByteArray := ofBytes (outTo v 8)
theorem digF_size (v : V8) : (digF v).size = 32 := by unfold digF; rw [ofBytes_size, outTo_length]

set_option maxHeartbeats 1000000 in
set_option maxRecDepth 100000 in
theorem wdigest_any (v : V8) (w : World) :
    Calls Tryz.prog 146 #[.agg v.cells] w fun e w' => e = .returned (.string (digF v)) ∧ Below w.heap.size w w' := by
  obtain ⟨vc, hvc⟩ : ∃ vc, vc = v.cells := ⟨_, rfl⟩
  have HIX := Lib.hid (show ∀ (k : Nat) (w' : World), k < 8 → (Instr.index 237 (.agg vc) (.int .i64 (k : Int))).run Tryz.prog w' = .ok (.int .u32 (v.list[k]?.getD 0)) w' by
    intro k w' hk
    rw [hvc]
    obtain ⟨i0, hi, _, hs, _⟩ := info_parts u32_info
    exact run_index_arr Tryz.underlying237 hi hs (fun w => by simp [isAgg, run_underlying Tryz.underlying235]) k hk _ (V8.get v k hk) w')
  have HV := Lib.hid (show (Tryz.prog.info? 237).map (·.size) = some vc.size by rw [hvc]; kernel_rfl)
  have HV1 := Lib.hid (show vc.all (·.oneCell') = true by rw [hvc]; simp [V8.cells, Value.oneCell'])
  rw [← hvc]
  clear hvc
  go_enter Tryz.func146, Tryz.ntmps146
  go_wp2_with (refine wpList_load_row rfl 237 (.tmp 1) rfl w.heap.size rfl 237 vc (0, 0) _ ((Blk.new w _ _).alloc _) Tryz.underlying237 rfl HV.out ?_)
  have hB0 : Blk ((w.alloc (.cells vc 237)).alloc (.cells (pad32 []) 291)) (w.heap.size + 1) 291 (pad32 []) := Blk.new' _ _ _ (by simp)
  have hb0 : Below w.heap.size w ((w.alloc (.cells vc 237)).alloc (.cells (pad32 []) 291)) := ((Below.refl _ _).alloc (Nat.le_refl _) _).alloc (by simp) _
  go_loopw [8] (fun i wr => ∃ k : Nat, k ≤ 8 ∧ i = .int .i64 k ∧ Blk wr (w.heap.size + 1) 291 (pad32 (outTo v k)) ∧ Below w.heap.size w wr) (fun i _ => 8 - (intOf i).toNat)
  case atStart => exact ⟨0, by omega, rfl, hB0, hb0⟩
  case round =>
    clear hB0 hb0
    obtain ⟨k, hk, rfl, hB, hb⟩ := hrel
    by_cases hlt : k < 8
    · have hix := fun w' => HIX.out k w' hlt
      obtain ⟨x, hx⟩ : ∃ x, x = v.list[k]?.getD 0 := ⟨_, rfl⟩
      rw [← hx] at hix
      have HX := Lib.hid hx
      clear hx
      go_wp2
      obtain ⟨wo, hwo⟩ : ∃ wo : World, wo = wr := ⟨_, rfl⟩
      rw [← hwo] at hB hb ⊢
      clear hwo wr hix
      go_loopw [12] (fun i ws => ∃ m : Nat, m ≤ 4 ∧ i = .int .i64 m ∧ Blk ws (w.heap.size + 1) 291 (pad32 (outTo v k ++ bytesTo x m)) ∧ Below w.heap.size w ws) (fun i _ => 4 - (intOf i).toNat)
      case atStart => exact ⟨0, by omega, rfl, by simpa [bytesTo] using hB, hb⟩
      case round =>
        clear hB hb
        obtain ⟨m, hm, rfl, hB, hb⟩ := hrel
        by_cases hlt' : m < 4
        · have hl : (outTo v k ++ bytesTo x m).length = 4 * k + m := by rw [List.length_append, outTo_length]; simp [bytesTo]
          have c0 : wr.cell? ⟨w.heap.size + 1, 4 * k + m, none⟩ = some (.int .u8 0) := by
            rw [hB.cell]; unfold pad32; simp only [List.getElem?_toArray, List.getElem?_map]; rw [List.getElem?_append_right (by omega)]; simp [hl, List.getElem?_replicate]; omega
          have f0 := hB.frozen (4 * k + m)
          have q0 : (0 : Int) ≤ (k : Int) := by omega
          have q1 : (k : Int) < 8 := by omega
          have q2 : (0 : Int) ≤ (m : Int) := by omega
          have q3 : (m : Int) < 4 := by omega
          have HL := Lib.hid hl
          clear hl
          go_wp2
          go_roundw
          case rel =>
            have hs := pad32_set (outTo v k ++ bytesTo x m) (byteF x m) (by rw [HL.out]; omega)
            rw [HL.out] at hs
            refine ⟨m + 1, by omega, by go_num, ?_, hb.setCell (p := ⟨w.heap.size + 1, 4 * k + m, none⟩) (by show w.heap.size ≤ w.heap.size + 1; omega) _⟩
            rw [bytesTo_succ, ← List.append_assoc, ← hs]
            exact hB.set_ _ _
          case measure => simp [intOf]; omega
        · have HM := Lib.hid (show m = 4 by omega)
          go_wp2
          go_roundw
          case rel =>
            refine ⟨k + 1, by omega, by go_num, ?_, hb⟩
            rw [HM.out, HX.out] at hB
            exact hB
          case measure => simp [intOf]; omega
    · have HK := Lib.hid (show k = 8 by omega)
      obtain ⟨ol, hol⟩ : ∃ ol, ol = outTo v 8 := ⟨_, rfl⟩
      have hlen : ol.length = 32 := by rw [hol, outTo_length]
      have hcv : (convert 161 9 (.slice (some ⟨w.heap.size + 1, 0, none⟩) 32 32)).run Tryz.prog wr = .ok (.string (ofBytes ol)) wr := by
        rw [run_convert_bytes_string wr 161 9 5 _ 32 32 Tryz.underlying161 Tryz.underlying5 Tryz.underlying9]
        refine run_bytesToString wr _ 32 32 ol ?_
        have h := run_loadCells_list (P := Tryz.prog) wr ⟨w.heap.size + 1, 0, none⟩ (ol.map (Value.int .u8)) (fun j x hx => by
          rw [show (⟨w.heap.size + 1, 0, none⟩ : Addr).add j = ⟨w.heap.size + 1, j, none⟩ from by unfold Addr.add; split <;> simp_all]
          rw [hB.cell j, HK.out, ← hol]
          unfold pad32
          rw [hlen]
          simpa using hx)
        rw [List.length_map, hlen] at h
        exact h
      have HF := Lib.hid (show ofBytes ol = digF v by rw [hol]; rfl)
      clear hol hlen
      generalize ofBytes ol = fin at *
      go_wp2
      go_ret
      exact ⟨by rw [← HF.out]; rfl, hb⟩

end Go.Proofs.YtbgfmbmcabekeaaGreatDoor

/-
  slices.Chunk over bytes, as an iterator.
-/
namespace Go.Proofs.YtbgfmbmcabekeaaGreatDoor
open Go.RowKit Go.Shelf
attribute [local go_sem] Oper.semAt_some

/-- all blocks below n₀ but one are as they were -/
def KeptB (n₀ gh : Nat) (W W' : World) : Prop := ∀ b, b < n₀ → b ≠ gh → W'.heap[b]? = W.heap[b]?
theorem KeptB.refl (n₀ gh : Nat) (W : World) : KeptB n₀ gh W W := fun _ _ _ => rfl
theorem KeptB.trans {n₀ gh : Nat} {A B C : World} (h : KeptB n₀ gh A B) (k : KeptB n₀ gh B C) : KeptB n₀ gh A C := fun b h1 h2 => (k b h1 h2).trans (h b h1 h2)
theorem KeptB.drewN {n₀ gh : Nat} {A B : World} (h : KeptB n₀ gh A B) (m : Nat) : KeptB n₀ gh A (B.drewN m) := h
theorem KeptB.cell {n₀ gh : Nat} {A B : World} (h : KeptB n₀ gh A B) {p : Addr} (h1 : p.block < n₀) (h2 : p.block ≠ gh) : B.cell? p = A.cell? p := World.cell?_of_block (h p.block h1 h2)
theorem grown_drewN (A : World) (m : Nat) (row : Option Nat) : A.grownBy (A.drewN m) row := ⟨rfl, rfl, rfl, Nat.le_refl _, fun _ _ _ => rfl⟩

theorem wpListIn_append_c {F : Fence} {n : Nat} {P : Program} {w : World} {ops : Array Oper} {rest : List Oper} {o : Oper} {a : Act} {Q : Exit → Act → World → Prop} (hgd : o.guard = none) (s x : Operand) (t : TypeId)
    (hop : o.op = .call { callee := .builtin .append, args := #[s, x], argTypes := #[t, t] })
    (base : Nat) (e : TypeId) (i : TypeInfo) (z : Value) (bytes : Nat) (ht : P.underlying t = some (.slice e)) (hi : P.info? e = some i) (hz : i.zero = some z)
    (hsize : i.size = 1) (hby : i.bytes = bytes) (hzs : z.cells.size = 1)
    (v : Value) (xs : List Value) (hs : a.eval s = v) (hown : OwnC w base v xs) (ad : Addr) (c : Nat) (xv : Value) (hx : a.eval x = .slice (some ad) 1 c) (hc : w.cell? ad = some xv) (h1 : xv.oneCell' = true)
    (h63 : xs.length + 1 ≤ maxLen) (hbytes : (xs.length + 1) * bytes ≤ 140737488355328) (hbase : base ≤ w.heap.size)
    (h : ∀ v' w', OwnC w' base v' (xs ++ [xv]) → w.grownBy w' v.ownBlock → wpListIn F n P ops Q rest (a.put o.dst v') w') : wpListIn F n P ops Q (o :: rest) a w := by
  refine wpListIn_plain hgd fun K hK' => ?_
  obtain ⟨v', w', hrun, h2, h3⟩ := run_append_c (P := P) base t o.type e i z bytes ht hi hz hsize hby hzs v xs hown ad c xv hc h1 h63 hbytes hbase
  unfold Oper.wpIn
  refine ⟨?_, ?_⟩
  · simp [Oper.about, hop, resolve, Target.leads, Sem.run_pure]
  · rw [Oper.semAt_plain F _ _ (by rw [hop]; intro c hc'; cases hc')]
    simp [execOp, hop, resolve, invoke, builtin, hs, hx, hrun, Result.andThen]
    exact hK' _ _ (h v' w' h2 h3)

/-- the first k of N numbers below N -/
def ups (N : Nat) : Nat → List { k : Nat // k < N }
  | 0 => []
  | k + 1 => if h : k < N then ups N k ++ [⟨k, h⟩] else ups N k
theorem ups_succ (N k : Nat) (h : k < N) : ups N (k + 1) = ups N k ++ [⟨k, h⟩] := by simp [ups, h]
theorem ups_length (N k : Nat) (h : k ≤ N) : (ups N k).length = k := by
  induction k with
  | zero => rfl
  | succ k ih => rw [ups_succ N k (by omega), List.length_append, ih (by omega)]; rfl

set_option maxRecDepth 100000 in
set_option maxHeartbeats 1000000 in
theorem chunk1_in (n : Nat) (hn : 1 ≤ n) (l Bs Bn n₀ b N cap : Nat) (hcap : 64 * N ≤ cap) (hN : N ≤ 1000000) (gh : Nat) (hs0 : Bs < n₀) (hn0 : Bn < n₀) (hsg : Bs ≠ gh) (hng : Bn ≠ gh) (J Jx : List { k : Nat // k < N } → World → Prop)
    (hY : ∀ pre x W, J pre W → pre.length < N → YieldAt Fence.wide (n - 1) Tryz.prog l #[.slice (some ⟨b, 64 * x.1, none⟩) 64 64] W fun e W' =>
      (e = .returned (.bool true) ∧ J (pre ++ [x]) W' ∧ KeptB n₀ gh W W') ∨ (e = .returned (.bool false) ∧ Jx (pre ++ [x]) W'))
    (W : World) (hBs : W.cell? ⟨Bs, 0, none⟩ = some (.slice (some ⟨b, 0, none⟩) (64 * N) cap)) (hBn : W.cell? ⟨Bn, 0, none⟩ = some (.int .i64 64)) (h0 : J [] W) (hJd : ∀ p A m, J p A → J p (A.drewN m)) :
    CallsIn Fence.wide n Tryz.prog 187 #[.func (.yield l) #[] #[], .pointer (some ⟨Bs, 0, none⟩), .pointer (some ⟨Bn, 0, none⟩)] W fun e W' => (∃ v, e = .returned v) ∧
      ((∃ ys, ys = ups N N ∧ J ys W') ∨ (∃ pre, (∃ k, k ≤ N ∧ pre = ups N k) ∧ Jx pre W')) := by
  refine callsIn_of_wp Tryz.func187 rfl trivial ?_ rfl
  simp only [Tryz.ntmps187, List.size_toArray, List.length_cons, List.length_nil, Nat.reduceAdd, Nat.reduceSub, Array.replicate_succ, Array.replicate_zero, List.push_toArray, List.append_toArray, List.nil_append, List.cons_append]
  gi_wp2
  gi_loopw [4] (fun i wr => ∃ k : Nat, k ≤ N ∧ i = .int .i64 (64 * (k : Int)) ∧ J (ups N k) wr ∧ KeptB n₀ gh W wr)
    (fun i _ => 64 * N - (intOf i).toNat)
  case atStart => exact ⟨0, Nat.zero_le _, rfl, h0, KeptB.refl _ _ _⟩
  case round =>
    obtain ⟨k, hk, rfl, hJs, hnx⟩ := hrel
    have cs := (hnx.cell (p := ⟨Bs, 0, none⟩) hs0 hsg).trans hBs
    have cn := (hnx.cell (p := ⟨Bn, 0, none⟩) hn0 hng).trans hBn
    by_cases hlt : k < N
    · have b0 : (0 : Int) ≤ 64 * (k : Int) := by omega
      have b1 : 64 * (k : Int) ≤ 64 * (N : Int) := by omega
      have b2 : 64 * (k : Int) < 64 * (N : Int) := by omega
      have t0 : (64 * (k : Int)).toNat = 64 * k := by omega
      have hck : (cap = 64 * k) = False := by simp; omega
      have hmn : min (64 : Int) ((64 * N - 64 * k : Nat) : Int) = 64 := by omega
      gi_wp2
      gi_quiet (fail)
      obtain ⟨fn, tmps, assign, body, hy, hR⟩ := hY _ ⟨k, hlt⟩ (wr.drewN nq) (hJd _ _ _ hJs) (by rw [ups_length N k hk]; exact hlt)
      dsimp only at hy
      gi_wp2
      refine hR.mono ?_
      rintro e W3 (⟨rfl, hJ3, hk3⟩ | ⟨rfl, hJx3⟩)
      · have cn3 := (hk3.cell (p := ⟨Bn, 0, none⟩) hn0 hng).trans cn
        gi_wp2
        go_roundw
        case rel => exact ⟨k + 1, by omega, by go_num, by rw [ups_succ N k hlt]; exact hJ3, (hnx.drewN nq).trans hk3⟩
        case measure => simp [intOf]; omega
      · gi_wp2
        refine bodyPost_ret (results_none rfl _ _ _) rfl ?_
        exact ⟨⟨_, rfl⟩, .inr ⟨_, ⟨k + 1, by omega, (ups_succ N k hlt).symm⟩, hJx3⟩⟩
    · obtain rfl : k = N := by omega
      gi_wp2
      go_end0
      exact ⟨⟨_, rfl⟩, .inl ⟨_, rfl, hJs⟩⟩

/-- slices.Chunk(b, 64) over 64 N bytes: all chunks in order, for every body that keeps the blocks below n₀ but gh -/
theorem chunk_stops (n : Nat) (hn : 1 ≤ n) (Bs Bn n₀ b N cap gh : Nat) (hcap : 64 * N ≤ cap) (hN : N ≤ 1000000) (hs0 : Bs < n₀) (hn0 : Bn < n₀) (hsg : Bs ≠ gh) (hng : Bn ≠ gh) (w : World) (hw : n₀ ≤ w.heap.size)
    (hBs : w.cell? ⟨Bs, 0, none⟩ = some (.slice (some ⟨b, 0, none⟩) (64 * N) cap)) (hBn : w.cell? ⟨Bn, 0, none⟩ = some (.int .i64 64)) :
    SeqStopsK Fence.wide n Tryz.prog 187 #[.pointer (some ⟨Bs, 0, none⟩), .pointer (some ⟨Bn, 0, none⟩)] (fun x : { k : Nat // k < N } => #[Value.slice (some ⟨b, 64 * x.1, none⟩) 64 64])
      (KeptB n₀ gh) (fun ys => ys = ups N N) (fun _ => True) N w := fun l J Jx W hW hJ _ hY h0 => by
  refine (chunk1_in n hn l Bs Bn n₀ b N cap hcap hN gh hs0 hn0 hsg hng J Jx hY W ((hW.cell (p := ⟨Bs, 0, none⟩) (by show Bs < w.heap.size; omega)).trans hBs) ((hW.cell (p := ⟨Bn, 0, none⟩) (by show Bn < w.heap.size; omega)).trans hBn) h0
    (fun p A m h => hJ p A _ none h (grown_drewN A m none) (fun r e => by cases e))).mono ?_
  rintro e W' ⟨he, ⟨ys, rfl, hj⟩ | ⟨pre, _, hj⟩⟩
  · exact ⟨he, .inl ⟨_, rfl, hj⟩⟩
  · exact ⟨he, .inr ⟨_, trivial, hj⟩⟩

end Go.Proofs.YtbgfmbmcabekeaaGreatDoor

/-
  wire.PutInt at numbers of one group.
-/
namespace Go.Proofs.YtbgfmbmcabekeaaGreatDoor
open Go.RowKit Go.Shelf
attribute [local go_sem] Oper.semAt_some
attribute [local go_sem ↓] Go.wp_at_zero Go.wp_at_succ

def OnePost (J Jx : List Unit → World → Prop) (e : Ending) (W' : World) : Prop := (∃ v, e = .returned v) ∧ (J [()] W' ∨ ∃ pre, Jx pre W')

theorem and127 (z : Nat) (hz : z < 128) : bits BinOp.and IntKind.u64 (z : Int) 127 = (z : Int) := by
  have h : ∀ z : Fin 128, bits BinOp.and IntKind.u64 ((z.1 : Nat) : Int) 127 = ((z.1 : Nat) : Int) := by decide +kernel
  exact h ⟨z, hz⟩

set_option maxRecDepth 100000 in
set_option maxHeartbeats 1000000 in
theorem groups1_in (n : Nat) (hn : 1 ≤ n) (l Bz z : Nat) (hz : z < 128) (J Jx : List Unit → World → Prop)
    (hY : ∀ pre x W, J pre W → pre.length < 1 → YieldAt Fence.wide (n - 1) Tryz.prog l #[.int .u8 (z : Int), .bool true] W fun e W' =>
      (e = .returned (.bool true) ∧ J (pre ++ [x]) W' ∧ True) ∨ (e = .returned (.bool false) ∧ Jx (pre ++ [x]) W'))
    (W : World) (hBz : W.cell? ⟨Bz, 0, none⟩ = some (.int .u64 (z : Int))) (h0 : J [] W) :
    CallsIn Fence.wide n Tryz.prog 191 #[.func (.yield l) #[] #[], .pointer (some ⟨Bz, 0, none⟩)] W (OnePost J Jx) := by
  refine callsIn_of_wp Tryz.func191 rfl trivial ?_ rfl
  simp only [Tryz.ntmps191, List.size_toArray, List.length_cons, List.length_nil, Nat.reduceAdd, Nat.reduceSub, Array.replicate_succ, Array.replicate_zero, List.push_toArray, List.append_toArray, List.nil_append, List.cons_append]
  obtain ⟨fn, tmps, assign, body, hy, hR⟩ := hY [] () W h0 (by simp)
  have hz' : (z : Int) < 128 := by omega
  gi_wp2
  refine wpIn_loop_rounds 1 ?_
  rw [roundsIn_succ]
  have hand := and127 z hz
  have hmod : (z : Int) % 256 = (z : Int) := by omega
  gi_wp2
  refine hR.mono ?_
  rintro e W3 (⟨rfl, hJ3, hk3⟩ | ⟨rfl, hJx3⟩)
  · gi_wp2
    refine bodyPost_ret (results_none rfl _ _ _) rfl ?_
    exact ⟨⟨_, rfl⟩, .inl hJ3⟩
  · gi_wp2
    refine bodyPost_ret (results_none rfl _ _ _) rfl ?_
    exact ⟨⟨_, rfl⟩, .inr ⟨_, hJx3⟩⟩

theorem groups_stops (n : Nat) (hn : 1 ≤ n) (Bz z : Nat) (hz : z < 128) (w : World) (hBz : w.cell? ⟨Bz, 0, none⟩ = some (.int .u64 (z : Int))) :
    SeqStopsK Fence.wide n Tryz.prog 191 #[.pointer (some ⟨Bz, 0, none⟩)] (fun _ : Unit => #[.int .u8 (z : Int), .bool true])
      (fun _ _ => True) (fun ys => ys = [()]) (fun _ => True) 1 w := fun l J Jx W hW hJ _ hY h0 => by
  refine (groups1_in n hn l Bz z hz J Jx hY W ((hW.cell (p := ⟨Bz, 0, none⟩) (lt_of_cell hBz)).trans hBz) h0).mono ?_
  rintro e W' ⟨he, hj | ⟨pre, hj⟩⟩
  · exact ⟨he, .inl ⟨_, rfl, hj⟩⟩
  · exact ⟨he, .inr ⟨_, trivial, hj⟩⟩

set_option maxHeartbeats 400000 in
theorem groups_any (z : Nat) (w : World) :
    Calls Tryz.prog 150 #[.int .u64 (z : Int)] w fun e w' =>
      e = .returned (.func (.func 191) #[] #[.pointer (some ⟨w.heap.size, 0, none⟩)]) ∧ w.alloc (.cells #[.int .u64 (z : Int)] 248) = w' := by
  have hmf : ∀ (fn : Fn) (first cap : Array Value) (w : World), (Instr.makeFunc fn first cap).run Tryz.prog w = .ok (.func fn first cap) w := fun _ _ _ _ => rfl
  go_enter Tryz.func150, Tryz.ntmps150
  go_wp2
  go_ret
  exact ⟨rfl, rfl⟩

theorem u8_infoR : (Tryz.prog.info? 5).map (fun i => (i.zero, i.size, i.bytes)) = some (some (.int .u8 0), 1, 1) := by kernel_rfl
theorem xor0 (n : Nat) (hn : n < 64) : bits BinOp.xor IntKind.u64 ((n : Int) * 2) 0 = ((2 * n : Nat) : Int) := by
  have h : ∀ z : Fin 64, bits BinOp.xor IntKind.u64 (((z.1 : Nat) : Int) * 2) 0 = ((2 * z.1 : Nat) : Int) := by decide +kernel
  exact h ⟨n, hn⟩
/-- the string of one byte -/
def byteS (n : Nat) : ByteArray := ⟨#[UInt8.ofNat n]⟩

set_option maxHeartbeats 1000000 in
set_option maxRecDepth 100000 in
theorem putInt_any (n : Nat) (hn : n < 64) (w : World) :
    Calls Tryz.prog 103 #[.int .i64 (n : Int)] w fun e w' => e = .returned (.tuple #[.string (byteS (2 * n)), .int .i64 0]) ∧ Below w.heap.size w w' := by
  have q0 : (n : Int) < 64 := by omega
  obtain ⟨ib, hib, hzb0, hzb1, hzb2⟩ := info_parts u8_infoR
  have hdiv : (n : Int) / 9223372036854775808 = 0 := by omega
  obtain ⟨z, hz⟩ : ∃ z, z = 2 * n := ⟨_, rfl⟩
  have hxor : bits BinOp.xor IntKind.u64 ((n : Int) * 2) 0 = (z : Int) := by rw [hz]; exact xor0 n hn
  have hz128 : z < 128 := by omega
  have HZ := Lib.hid hz
  clear hz
  have l1 : decide ((n : Int) < -4611686018427387903) = false := decide_eq_false (by omega)
  have l2 : decide (4611686018427387903 < (n : Int)) = false := decide_eq_false (by omega)
  refine (callsIn_wide (n := 3)).1 (callsIn_of_wp_marks Tryz.func103 rfl trivial (wpIn_wide.2 ?_) rfl)
  simp only [Tryz.ntmps103, List.size_toArray, List.length_cons, List.length_nil, Nat.reduceAdd, Nat.reduceSub, Array.replicate_succ, Array.replicate_zero, List.push_toArray, List.append_toArray, List.nil_append, List.cons_append]
  go_wp2_with (go_at_call 150; refine (groups_any _ _).mono ?_; rintro e W2 ⟨rfl, rfl⟩)
  obtain ⟨B, hB⟩ : ∃ B, B = w.heap.size := ⟨_, rfl⟩
  have hI0 : (∃ v, Boxed ((w.alloc (.cells #[.slice none 0 0] 161)).alloc (.cells #[.int .u64 (z : Int)] 248)) w.heap.size 161 v ∧ ((w.alloc (.cells #[.slice none 0 0] 161)).alloc (.cells #[.int .u64 (z : Int)] 248)).ownsRow w.heap.size 5 1 v ([] : List Unit).length (([] : List Unit).map fun _ => Value.int .u8 (z : Int)) ∧ True) ∧ Below w.heap.size w ((w.alloc (.cells #[.slice none 0 0] 161)).alloc (.cells #[.int .u64 (z : Int)] 248)) :=
    ⟨⟨_, (Boxed.new _ _ _).alloc _, World.ownsRow_nil _ _ _ _, trivial⟩, ((Below.refl _ _).alloc (Nat.le_refl _) _).alloc (by simp) _⟩
  refine (wpIn_wide (n := 3)).1 ?_
  refine' wpIn_rangeFunc_ownF rfl (by omega) (gf := 191) (lb := #[.pointer (some ⟨w.heap.size + 1, 0, none⟩)]) (by simp [Act.eval]) trivial (enters_of Tryz.func191 (by kernel_rfl) rfl)
    (groups_stops 2 (by omega) (w.heap.size + 1) z hz128 _ (by have h := (Boxed.new (w.alloc (.cells #[.slice none 0 0] 161)) 248 (.int .u64 (z : Int))).cell; rw [World.size_alloc] at h; exact h))
    (fun _ _ => trivial) (fun _ _ _ _ _ _ _ _ => trivial) (Below.refl _ _) (fun _ => rfl)
    (fun (pre : List Unit) W => (∃ v, Boxed W w.heap.size 161 v ∧ W.ownsRow w.heap.size 5 1 v pre.length (pre.map fun _ => Value.int .u8 (z : Int)) ∧ True) ∧ Below w.heap.size w W) (fun _ _ _ => False)
    (OwnFrom.and (Own.from (holdsRow_own w.heap.size w.heap.size 161 5 1 (fun pre : List Unit => pre.length) (fun pre : List Unit => pre.map fun _ => Value.int .u8 (z : Int)) (fun _ _ => True)) _) (ownFrom_below (Nat.le_refl _) (by simp; omega)))
    (fun _ _ _ _ _ hs _ _ => hs) hI0 _ ?assign ?body ?done ?stop
  case assign =>
    intro l x W K hK
    gi_wp2
    exact hK
  case body =>
    rintro l pre x W ⟨⟨v, hv, hrow, _⟩, hb⟩ hlen
    obtain rfl : pre = [] := by
      cases pre with
      | nil => rfl
      | cons a t => simp at hlen
    have hvc := hv.cell
    have hbs := hb.size
    gi_wp2_with (gi_at_builtin; refine wpListIn_append_own _ rfl (.tmp 27) (.tmp 29) 161 rfl w.heap.size 5 ib (.int .u8 0) 1 1 Tryz.underlying161 hib hzb0 hzb1 hzb2 rfl (by decide) _ _ _ rfl (hrow.alloc _) ⟨W.heap.size, 0, none⟩ 1 1 [.int .u8 (z : Int)] rfl rfl (cell_one_new _ _ _) (by simp [Value.oneCell']) (by unfold maxLen; simp) (by simp) (by simp; omega) ?_; intro v' w1 hown' hgrow _; obtain ⟨g', cap', rfl⟩ := ownsRow_succ hown'; obtain ⟨hv1, hv2, hr2, hk2, hb2⟩ := hv.appended (by decide) hrow hbs (Nat.le_refl _) hown' hgrow; have hc1 := hv1.cell; have hf1 := hv1.frozen)
    exact ⟨hk2, trivial, ⟨_, hv2, hr2, trivial⟩, hb.trans hb2⟩
  case done =>
    rintro D ys' W hD rfl ⟨⟨v, hv, hrow, _⟩, hb⟩ hK
    obtain ⟨g, cg, rfl⟩ := ownsRow_succ hrow
    have hvc := hv.cell
    have hcv : (convert 161 9 (.slice (some ⟨g, 0, none⟩) 1 cg)).run Tryz.prog W = .ok (.string (byteS z)) W := by
      rw [run_convert_bytes_string W 161 9 5 _ 1 cg Tryz.underlying161 Tryz.underlying5 Tryz.underlying9]
      have h := run_loadCells_list (P := Tryz.prog) W ⟨g, 0, none⟩ ([(z : Int)].map (Value.int .u8)) (fun j x hx => by
        match j, hx with
        | 0, hx => simp at hx; subst hx; exact hrow.cells (g := g) rfl 0 _ rfl)
      exact run_bytesToString W _ 1 cg [(z : Int)] h
    go_wp2
    refine ⟨by simp, .inl ⟨_, _, rfl, run_takeDeferred hK, ?_⟩⟩
    refine ⟨_, results_tmp2 rfl _ _ _, ?_, ?_⟩
    · rw [← HZ.out]; rfl
    · exact hb.grown (grownBy_putObj' W D _) hb.size (fun k e => by injection e with e; simp at hD; omega)
  case stop =>
    rintro D c pre W _ _ h _
    exact h.elim

end Go.Proofs.YtbgfmbmcabekeaaGreatDoor

/-
  package row: sound, ValidChange, ValidRecord, put, Encode, EncodeRecord, at the law's own row.
-/
namespace Go.Proofs.YtbgfmbmcabekeaaGreatDoor
open Go.RowKit
attribute [local go_sem ↓] Go.wp_at_zero Go.wp_at_succ

def theRow : RowT := ⟨0, 5, 1, 2, 3⟩
theorem theRow_ok : theRow.ok := by unfold theRow RowT.ok; simp

set_option maxRecDepth 100000 in
set_option maxHeartbeats 400000 in
theorem valid_row (w : World) : Calls Tryz.prog 83 #[.agg #[.int .i64 0, .int .i64 5, .int .i64 1, .int .i64 2, .int .i64 3]] w fun e w' => e = .returned (.bool true) ∧ Below w.heap.size w w' := rowValid_yes theRow w theRow_ok

set_option maxRecDepth 100000 in
set_option maxHeartbeats 400000 in
theorem sound_no (w : World) : Calls Tryz.prog 119 #[.agg #[.int .i64 0, .int .i64 5, .bool false, .int .i64 0, .int .i64 0, .int .i64 0, .bool true, .int .i64 1, .int .i64 2, .int .i64 3], .bool false, .agg #[.int .i64 0, .int .i64 0, .int .i64 0]] w fun e w' => e = .returned (.bool true) ∧ Below w.heap.size w w' := by
  have heq : ∀ W : World, (Op.equalIn 10000 73 (.agg #[.int .i64 0, .int .i64 0, .int .i64 0]) (.agg #[.int .i64 0, .int .i64 0, .int .i64 0])).run Tryz.prog W = .ok true W := fun _ => by kernel_rfl
  go_enter Tryz.func119, Tryz.ntmps119
  go_wp2_with (go_at_call 113; refine (half_no _ _ _ _ _ _ _ _ _ _ _ _ _ _).mono ?_; rintro e W1 ⟨rfl, hb1⟩; have hB1 := (((Blk.new' (w.alloc (.cells #[.int .i64 0, .int .i64 5, .bool false, .int .i64 0, .int .i64 0, .int .i64 0, .bool true, .int .i64 1, .int .i64 2, .int .i64 3] 75)) 73 #[.int .i64 0, .int .i64 0, .int .i64 0] (b := w.heap.size + 1) (by simp)))).ext hb1; have c0 := hB1.cell 0; have c1 := hB1.cell 1; have c2 := hB1.cell 2; have l1 := hB1.lt; have HL1 := Lib.hid (ext_call (ext_alloc (ext_new w _) _) hb1); clear hb1 hB1)
  go_ret
  exact ⟨rfl, ext_alloc HL1.out _⟩

set_option maxRecDepth 100000 in
set_option maxHeartbeats 400000 in
theorem sound_yes (w : World) : Calls Tryz.prog 119 #[.agg #[.int .i64 0, .int .i64 5, .bool false, .int .i64 0, .int .i64 0, .int .i64 0, .bool true, .int .i64 1, .int .i64 2, .int .i64 3], .bool true, .agg #[.int .i64 1, .int .i64 2, .int .i64 3]] w fun e w' => e = .returned (.bool true) ∧ Below w.heap.size w w' := by
  go_enter Tryz.func119, Tryz.ntmps119
  go_wp2_with (first
    | (go_at_call 113; refine (half_yes _ _ _ _ _ _ _ _ _ _ _ _ _ _).mono ?_; rintro e W1 ⟨rfl, hb1⟩; have HL1 := Lib.hid (ext_call (ext_alloc (ext_new w _) _) hb1); clear hb1)
    | (go_at_call 83; refine (valid_row _).mono ?_; rintro e W2 ⟨rfl, hb2⟩; have HL2 := Lib.hid (ext_call (ext_alloc HL1.out _) hb2); clear hb2))
  go_ret
  exact ⟨rfl, HL2.out⟩

set_option maxRecDepth 100000 in
set_option maxHeartbeats 400000 in
theorem validChange (w : World) : Calls Tryz.prog 78 #[.agg #[.int .i64 0, .int .i64 5, .bool false, .int .i64 0, .int .i64 0, .int .i64 0, .bool true, .int .i64 1, .int .i64 2, .int .i64 3]] w fun e w' => e = .returned (.bool true) ∧ Below w.heap.size w w' := by
  have HB0 := Lib.hid (Blk.new w 75 #[.int .i64 0, .int .i64 5, .bool false, .int .i64 0, .int .i64 0, .int .i64 0, .bool true, .int .i64 1, .int .i64 2, .int .i64 3])
  go_enter Tryz.func78, Tryz.ntmps78
  go_wp2_with fail
  refine (sound_no _).mono ?_
  rintro e W1 ⟨rfl, hb1⟩
  have hB1 := HB0.out.ext hb1
  have c0 := hB1.cell 0
  have c1 := hB1.cell 1
  have c2 := hB1.cell 2
  have c3 := hB1.cell 3
  have c4 := hB1.cell 4
  have c5 := hB1.cell 5
  have c6 := hB1.cell 6
  have c7 := hB1.cell 7
  have c8 := hB1.cell 8
  have c9 := hB1.cell 9
  have HL1 := Lib.hid (ext_call (ext_new w _) hb1)
  clear hb1 hB1
  go_wp2_with fail
  refine (sound_yes _).mono ?_
  rintro e W2 ⟨rfl, hb2⟩
  go_wp2
  go_ret
  exact ⟨rfl, ext_call HL1.out hb2⟩

/-- cells at the head of a block -/
structure HeadB (w : World) (b : Nat) (cs : Array Value) : Prop where
  lt : b < w.heap.size
  cells : ∀ i, i < cs.size → w.cell? ⟨b, i, none⟩ = cs[i]?
section
variable {w W : World} {b : Nat} {cs zs : Array Value} {t : TypeId}
theorem HeadB.cell (h : HeadB w b cs) (i : Nat) (hi : i < cs.size := by simp) : w.cell? ⟨b, i, none⟩ = cs[i]? := h.cells i hi
theorem HeadB.of (h : Blk w b t cs) : HeadB w b cs := ⟨h.lt, fun i _ => h.cell i⟩
theorem HeadB.of2 (h : Blk w b t (cs ++ zs)) : HeadB w b cs := ⟨h.lt, fun i hi => (h.cell i).trans (Array.getElem?_append_left hi)⟩
theorem HeadB.ext (h : HeadB w b cs) (k : Below w.heap.size w W) : HeadB W b cs := ⟨Nat.lt_of_lt_of_le h.lt k.size, fun i hi => (k.cell h.lt).trans (h.cells i hi)⟩
theorem HeadB.far (h : HeadB w b cs) {p : Addr} (hp : b ≠ p.block) (u : Value) : HeadB (w.setCell p u) b cs := ⟨by have := h.lt; simpa using this, fun i hi => (World.cell?_of_block (Below.heap_setCell w p u b hp)).trans (h.cells i hi)⟩
theorem HeadB.alloc (h : HeadB w b cs) (o : Obj) : HeadB (w.alloc o) b cs := h.ext (ext_new w o)
end
theorem chg_size : (Tryz.prog.info? 75).map (·.size) = some 10 := by kernel_rfl
theorem chg_one : (#[.int .i64 0, .int .i64 5, .bool false, .int .i64 0, .int .i64 0, .int .i64 0, .bool true, .int .i64 1, .int .i64 2, .int .i64 3] : Array Value).all (·.oneCell') = true := by simp [Value.oneCell']

set_option maxRecDepth 100000 in
set_option maxHeartbeats 1000000 in
theorem validRecord (w : World) (b c : Nat) (hB : HeadB w b #[.int .i64 0, .int .i64 5, .bool false, .int .i64 0, .int .i64 0, .int .i64 0, .bool true, .int .i64 1, .int .i64 2, .int .i64 3]) : Calls Tryz.prog 47 #[.agg #[.int .i64 1, .slice (some ⟨b, 0, none⟩) 1 c]] w fun e w' => e = .returned (.bool true) ∧ Below w.heap.size w w' := by
  have I1 := Lib.hid (show inF 1 10000 [1] = true by simp [inF])
  have I2 := Lib.hid (show inF 1 8 [1] = true by simp [inF])
  have HB0 := Lib.hid (Blk.new w 46 #[.int .i64 1, .slice (some ⟨b, 0, none⟩) 1 c])
  have HC0 := Lib.hid hB
  clear hB
  go_enter Tryz.func47, Tryz.ntmps47
  go_wp2_with fail
  refine (within_yes (w.heap.size + 1) 0 1 [1] 1 10000 _ (.of_blk (Blk.new' _ _ _ (by simp)) 0 [1] rfl) (by simp) (by simp) I1.out).mono ?_
  rintro e W1 ⟨rfl, hb1⟩
  have hB1 := (HB0.out.alloc _).ext hb1
  have c1 := hB1.cell 1
  have HB1 := Lib.hid hB1
  have HC1 := Lib.hid (((HC0.out.alloc _).alloc _).ext hb1)
  have HL1 := Lib.hid (ext_call (ext_alloc (ext_new w _) _) hb1)
  clear hb1 hB1
  go_wp2_with fail
  refine (within_yes W1.heap.size 0 1 [1] 1 8 _ (.of_blk (Blk.new _ _ _) 0 [1] rfl) (by simp) (by simp) I2.out).mono ?_
  rintro e W2 ⟨rfl, hb2⟩
  have hB2 := (HB1.out.alloc _).ext hb2
  have c1 := hB2.cell 1
  have l1 := hB2.lt
  have hC2 := (HC1.out.alloc _).ext hb2
  have e0 := hC2.cell 0
  have e1 := hC2.cell 1
  have e2 := hC2.cell 2
  have e3 := hC2.cell 3
  have e4 := hC2.cell 4
  have e5 := hC2.cell 5
  have e6 := hC2.cell 6
  have e7 := hC2.cell 7
  have e8 := hC2.cell 8
  have e9 := hC2.cell 9
  have l2 := hC2.lt
  have HL2 := Lib.hid (ext_call (ext_alloc HL1.out _) hb2)
  clear hb2 hB2 hC2
  go_wp2
  refine wp_loop_rounds 2 ?_
  rw [rounds_succ]
  go_wp2_with fail
  refine (validChange _).mono ?_
  rintro e W3 ⟨rfl, hb3⟩
  have hD3 := ((Blk.new W2 75 #[.int .i64 (-1), .int .i64 0, .bool false, .int .i64 0, .int .i64 0, .int .i64 0, .bool false, .int .i64 0, .int .i64 0, .int .i64 0]).alloc (.cells #[.int .i64 0, .int .i64 5, .bool false, .int .i64 0, .int .i64 0, .int .i64 0, .bool true, .int .i64 1, .int .i64 2, .int .i64 3] 75)).ext hb3
  have hE3 := (Blk.new' (W2.alloc (.cells #[.int .i64 (-1), .int .i64 0, .bool false, .int .i64 0, .int .i64 0, .int .i64 0, .bool false, .int .i64 0, .int .i64 0, .int .i64 0] 75)) 75 #[.int .i64 0, .int .i64 5, .bool false, .int .i64 0, .int .i64 0, .int .i64 0, .bool true, .int .i64 1, .int .i64 2, .int .i64 3] (b := W2.heap.size + 1) (by simp)).ext hb3
  have d0 := hD3.cell 0
  have d1 := hD3.cell 1
  have f0 := hE3.cell 0
  have f1 := hE3.cell 1
  have f2 := hE3.cell 2
  have f3 := hE3.cell 3
  have f4 := hE3.cell 4
  have f5 := hE3.cell 5
  have f6 := hE3.cell 6
  have f7 := hE3.cell 7
  have f8 := hE3.cell 8
  have f9 := hE3.cell 9
  have HD3 := Lib.hid hD3
  have HL3 := Lib.hid (ext_call (ext_alloc (ext_alloc HL2.out _) _) hb3)
  have HI := Lib.hid chg_size
  have H1 := Lib.hid chg_one
  have hz2 := HL2.out.size
  clear hb3 hD3 hE3 e0 e1 e2 e3 e4 e5 e6 e7 e8 e9 c1
  go_wp2_with (refine wpList_store_blk rfl 75 (.tmp 3) (.tmp 51) rfl W2.heap.size #[.int .i64 0, .int .i64 5, .bool false, .int .i64 0, .int .i64 0, .int .i64 0, .bool true, .int .i64 1, .int .i64 2, .int .i64 3] rfl rfl 75 #[.int .i64 (-1), .int .i64 0, .bool false, .int .i64 0, .int .i64 0, .int .i64 0, .bool false, .int .i64 0, .int .i64 0, .int .i64 0] HD3.out HI.out rfl H1.out ?_; intro W4 hB4 hg4; have HL4 := Lib.hid (HL3.out.grown hg4 HL3.out.size (fun k e => by injection e with e; omega)); clear hB4 hg4)
  rw [rounds_succ]
  go_wp2
  go_ret
  exact ⟨rfl, HL4.out⟩

/-- the encoding of small numbers -/
def encS (l : List Int) : ByteArray := ⟨(l.map fun n => UInt8.ofNat (2 * n.toNat)).toArray⟩
theorem encS_append (l m : List Int) : encS l ++ encS m = encS (l ++ m) := by
  unfold encS
  rw [ByteArray.mk_append_mk, ← List.map_append]
theorem encS_size (l : List Int) : (encS l).size = l.length := by
  unfold encS
  simp only [ByteArray.size_mk', List.size_toArray, List.length_map]
theorem putInt_int (n : Int) (h0 : 0 ≤ n) (h1 : n < 64) (w : World) :
    Calls Tryz.prog 103 #[.int .i64 n] w fun e w' => e = .returned (.tuple #[.string (encS [n]), .int .i64 0]) ∧ Below w.heap.size w w' := by
  obtain ⟨m, rfl⟩ := Int.eq_ofNat_of_zero_le h0
  exact putInt_any m (by omega) w

set_option maxRecDepth 100000 in
set_option maxHeartbeats 1000000 in
theorem rowPut_any (b off c : Nat) (l : List Int) (w : World) (hc : IntsAt w b off l) (hb : b < w.heap.size) (hn : l.length ≤ 1000) (hin : ∀ x ∈ l, 0 ≤ x ∧ x < 64) :
    Calls Tryz.prog 163 #[.slice (some ⟨b, off, none⟩) l.length c] w fun e w' => e = .returned (.string (encS l)) ∧ Below w.heap.size w w' := by
  have HC := Lib.hid hc
  have HI := Lib.hid hin
  clear hc hin
  go_enter Tryz.func163, Tryz.ntmps163
  go_wp2
  go_loopw [3, 10] (fun s i wr => ∃ k : Nat, k ≤ l.length ∧ i = .int .i64 k ∧ s = .string (encS (l.take k)) ∧ Below w.heap.size w wr) (fun _ i _ => l.length - (intOf i).toNat)
  case atStart => exact ⟨0, Nat.zero_le _, rfl, rfl, ext_refl w⟩
  case round =>
    obtain ⟨k, hk, rfl, rfl, hl⟩ := hrel
    by_cases hlt : k < l.length
    · have hcell := (hl.cell (p := ⟨b, off + k, none⟩) hb).trans (HC.out k l[k] (List.getElem?_eq_getElem hlt))
      have hx := HI.out l[k] (List.getElem_mem hlt)
      have HS := Lib.hid (encS_append (l.take k) [l[k]])
      obtain ⟨x, hxe⟩ : ∃ x, x = l[k] := ⟨_, rfl⟩
      rw [← hxe] at hcell hx HS
      have HT := Lib.hid (show l.take (k + 1) = l.take k ++ [x] by rw [hxe]; exact List.take_succ_eq_append_getElem hlt)
      clear hxe
      obtain ⟨hx1, hx2⟩ := hx
      have hs1 := encS_size (l.take k)
      have hs2 := encS_size [x]
      simp only [List.length_take, List.length_cons, List.length_nil] at hs1 hs2
      have HP := Lib.hid (fun W : World => putInt_int x hx1 hx2 W)
      obtain ⟨s1, es1⟩ : ∃ s1, s1 = encS (l.take k) := ⟨_, rfl⟩
      obtain ⟨s2, es2⟩ : ∃ s2, s2 = encS [x] := ⟨_, rfl⟩
      rw [← es1] at HS hs1 ⊢
      rw [← es2] at HS hs2 HP
      have hsum : s1.size + s2.size ≤ 9223372036854775807 := by omega
      have hcat := fun W : World => run_string_add_sum (P := Tryz.prog) (w := W) s1 s2 hsum
      have HL := Lib.hid hl
      clear es1 es2 hs1 hs2 hl
      go_wp2_with (go_at_call 103; refine (HP.out _).mono ?_; rintro e W1 ⟨rfl, hb1⟩)
      go_roundw
      case rel => exact ⟨k + 1, by omega, by go_num, by rw [HT.out, HS.out], ext_call HL.out hb1⟩
      case measure => simp [intOf]; omega
    · have HK := Lib.hid (show l.take k = l from List.take_of_length_le (by omega))
      have HL := Lib.hid hl
      clear hl
      go_wp2
      go_ret
      exact ⟨by rw [HK.out]; rfl, HL.out⟩

end Go.Proofs.YtbgfmbmcabekeaaGreatDoor

/-
  Maps of no entry and of one entry: lookup, update, range.
-/
namespace Go.Proofs.YtbgfmbmcabekeaaGreatDoor
open Go.RowKit

/-- block g is the map of these entries -/
def MapAt (w : World) (g : Nat) (es : Array MapEntry) (c : Nat) : Prop := w.heap[g]? = some (.map es c)
section
variable {P : Program} {w W : World} {g c : Nat} {es : Array MapEntry}
theorem MapAt.ext (h : MapAt w g es c) (k : Below w.heap.size w W) : MapAt W g es c := heap_ext h k
theorem MapAt.lt (h : MapAt w g es c) : g < w.heap.size := (Array.getElem?_eq_some_iff.1 h).1
theorem MapAt.alloc (h : MapAt w g es c) (o : Obj) : MapAt (w.alloc o) g es c := h.ext (ext_new w o)
theorem MapAt.set (h : MapAt w g es c) (p : Addr) (v : Value) (hne : g ≠ p.block) : MapAt (w.setCell p v) g es c := (Below.heap_setCell w p v g hne).trans h
theorem MapAt.drewN (h : MapAt w g es c) (n : Nat) : MapAt (w.drewN n) g es c := h
theorem MapAt.new (w : World) : MapAt (w.alloc (.map #[] 0)) w.heap.size #[] 0 := World.alloc_heap_new w _
theorem MapAt.put (h : MapAt w g es c) (es' : Array MapEntry) (c' : Nat) : MapAt (w.putObj g (.map es' c')) g es' c' := World.putObj_heap_same h.lt
theorem Blk.putObj {t : TypeId} {cs : Array Value} {b : Nat} (h : Blk w b t cs) (o : Obj) (hne : b ≠ g) : Blk (w.putObj g o) b t cs := (World.putObj_heap_other hne).trans h
theorem ext_put {w0 : World} (h : Below w0.heap.size w0 w) (hg : w0.heap.size ≤ g) (o : Obj) : Below w0.heap.size w0 (w.putObj g o) :=
  ⟨h.os, h.tape, h.output, by simpa using h.size, fun k hk => (World.putObj_heap_other (by omega)).trans (h.block k hk)⟩

theorem getM (h : MapAt w g es c) : (getObj g).run P w = .ok (.map es c) w := by unfold MapAt at h; simp [getObj, Sem.run, h]
theorem setM (o : Obj) (h : MapAt w g es c) : (setObj g o).run P w = .ok () (w.putObj g o) := by unfold MapAt at h; simp [setObj, Sem.run, h, World.putObj]
theorem findK_nil {K : TypeId} {k : Value} {d : TypeDesc} (hK : P.underlying K = some d) : (Instr.findKey K k []).run P w = .ok none w := by simp [Instr.findKey, run_underlying hK, Result.andThen, Instr.findNow]
theorem lookup_none {T K E : TypeId} {k z : Value} {d : TypeDesc} (hT : P.underlying T = some (.map K E)) (h : MapAt w g #[] c) (hck : (Instr.checkKey true 10000 K k).run P w = .ok () w)
    (hK : P.underlying K = some d) (hz : (zeroValue E).run P w = .ok z w) : (Instr.lookup T (.map (some g)) k true).run P w = .ok (.tuple #[z, .bool false]) w := by
  unfold Instr.lookup
  have hf : (Instr.findKey K k []).run P w = .ok none w := findK_nil hK
  have hg := getM (P := P) h
  simp [run_underlying hT, Result.andThen, hg, hck, hf, hz]

theorem lookup_some {T K E : TypeId} {k v : Value} {i : Nat} (hT : P.underlying T = some (.map K E)) (h : MapAt w g es c) (hck : (Instr.checkKey es.isEmpty 10000 K k).run P w = .ok () w)
    (hf : (Instr.findKey K k es.toList).run P w = .ok (some (i, v)) w) : (Instr.lookup T (.map (some g)) k true).run P w = .ok (.tuple #[v, .bool true]) w := by
  unfold Instr.lookup
  have hg := getM (P := P) h
  simp [run_underlying hT, Result.andThen, hg, hck, hf]

theorem update_none {T K E : TypeId} {k v : Value} {d : TypeDesc} (hT : P.underlying T = some (.map K E)) (h : MapAt w g #[] c) (hck : (Instr.checkKey false 10000 K k).run P w = .ok () w)
    (hK : P.underlying K = some d) : (Instr.mapUpdate T (.map (some g)) k v).run P w = .ok () (w.putObj g (.map #[⟨k, v, c⟩] (c + 1))) := by
  unfold Instr.mapUpdate
  have hf : (Instr.findKey K k []).run P w = .ok none w := findK_nil hK
  have hg := getM (P := P) h
  have hs := fun o => setM (P := P) o h
  simp [run_underlying hT, Result.andThen, hg, hck, hf, hs]

theorem range_map {T K E : TypeId} (hT : P.underlying T = some (.map K E)) (h : MapAt w g es c) :
    (Instr.range T (.map (some g))).run P w = .ok (.pointer (some ⟨w.heap.size, 0, none⟩)) (w.alloc (.mapIter (some g) c #[] c)) := by
  unfold Instr.range
  have hg := getM (P := P) h
  simp [run_underlying hT, Result.andThen, hg]

theorem run_getObj_iter {r s st : Nat} {m : Option Nat} {seen : Array Nat} (h : w.heap[r]? = some (.mapIter m s seen st)) : (getObj r).run P w = .ok (.mapIter m s seen st) w := by simp [getObj, Sem.run, h]
theorem run_setObj_iter {r s st : Nat} {m : Option Nat} {seen : Array Nat} (h : w.heap[r]? = some (.mapIter m s seen st)) (o : Obj) : (setObj r o).run P w = .ok () (w.putObj r o) := by simp [setObj, Sem.run, h, World.putObj]

theorem next_empty {r : Nat} {t : TypeId} (h : MapAt w g #[] c) (hr : w.heap[r]? = some (.mapIter (some g) c #[] c)) :
    (Instr.next (.pointer (some ⟨r, 0, none⟩)) false t).run P w = .ok (.tuple #[.bool false]) w := by
  unfold Instr.next
  have hg := getM (P := P) h
  have hi := run_getObj_iter (P := P) hr
  simp [Result.andThen, hg, hi, Question.forced]

theorem next_one {r : Nat} {t : TypeId} {k v : Value} (h : MapAt w g #[⟨k, v, 0⟩] 1) (hr : w.heap[r]? = some (.mapIter (some g) 1 #[] 1)) :
    (Instr.next (.pointer (some ⟨r, 0, none⟩)) false t).run P w = .ok (.tuple #[.bool true, k, v]) (w.putObj r (.mapIter (some g) 1 #[0] 1)) := by
  unfold Instr.next
  have hg := getM (P := P) h
  have hi := run_getObj_iter (P := P) hr
  have hs := fun o => run_setObj_iter (P := P) hr o
  simp [Result.andThen, hg, hi, hs, Question.forced]

theorem next_over {r : Nat} {t : TypeId} {k v : Value} (h : MapAt w g #[⟨k, v, 0⟩] 1) (hr : w.heap[r]? = some (.mapIter (some g) 1 #[0] 1)) :
    (Instr.next (.pointer (some ⟨r, 0, none⟩)) false t).run P w = .ok (.tuple #[.bool false]) w := by
  unfold Instr.next
  have hg := getM (P := P) h
  have hi := run_getObj_iter (P := P) hr
  simp [Result.andThen, hg, hi, Question.forced]

theorem entry_one {r : Nat} {k v : Value} (h : MapAt w g #[⟨k, v, 0⟩] 1) (hr : w.heap[r]? = some (.mapIter (some g) 1 #[0] 1)) :
    (Instr.entry (.pointer (some ⟨r, 0, none⟩))).run P w = .ok (.tuple #[k, v]) w := by
  unfold Instr.entry
  have hg := getM (P := P) h
  have hi := run_getObj_iter (P := P) hr
  simp [Result.andThen, hg, hi]

theorem len_map {T K E : TypeId} (hT : P.underlying T = some (.map K E)) (h : MapAt w g es c) (t : TypeId) {v : Value} (hv : goInt es.size = v) : (Builtin.len_ #[T] t #[.map (some g)]).run P w = .ok v w := by
  subst hv
  unfold Builtin.len_
  have hg := getM (P := P) h
  simp [run_underlying hT, Result.andThen, hg]
end

/-- all blocks but two are as they were -/
structure Ext2 (a b : Nat) (w w' : World) : Prop where
  os : w'.os = w.os
  tape : w'.tape = w.tape
  output : w'.output = w.output
  size : w.heap.size ≤ w'.heap.size
  block : ∀ k, k < w.heap.size → k ≠ a → k ≠ b → w'.heap[k]? = w.heap[k]?
section
variable {w0 w w' w'' : World} {a b : Nat}
theorem Ext2.of_ext (h : Below w.heap.size w w') : Ext2 a b w w' := ⟨h.os, h.tape, h.output, h.size, fun k hk _ _ => h.block k hk⟩
theorem Ext2.trans (h : Ext2 a b w w') (k : Ext2 a b w' w'') : Ext2 a b w w'' := ⟨k.os.trans h.os, k.tape.trans h.tape, k.output.trans h.output, Nat.le_trans h.size k.size, fun i hi ha hb => (k.block i (Nat.lt_of_lt_of_le hi h.size) ha hb).trans (h.block i hi ha hb)⟩
theorem Ext2.ext (h : Ext2 a b w w') (k : Below w'.heap.size w' w'') : Ext2 a b w w'' := h.trans (.of_ext k)
theorem Ext2.put (h : Ext2 a b w w') (o : Obj) : Ext2 a b w (w'.putObj b o) := h.trans ⟨rfl, rfl, rfl, by simp, fun k _ _ hb => World.putObj_heap_other hb⟩
theorem Ext2.setA (h : Ext2 a b w w') (i : Nat) (v : Value) : Ext2 a b w (w'.setCell ⟨a, i, none⟩ v) := h.trans ⟨rfl, rfl, rfl, by simp [World.setCell], fun k _ ha _ => Below.heap_setCell _ _ _ _ ha⟩
theorem Ext2.drewN (h : Ext2 a b w w') (n : Nat) : Ext2 a b w (w'.drewN n) := ⟨h.os, h.tape, h.output, h.size, h.block⟩
theorem Ext2.below (h : Below w0.heap.size w0 w) (ha : w0.heap.size ≤ a) (hb : w0.heap.size ≤ b) (k : Ext2 a b w w') : Below w0.heap.size w0 w' :=
  ⟨k.os.trans h.os, by rw [k.tape]; exact h.tape, k.output.trans h.output, Nat.le_trans h.size k.size, fun i hi => (k.block i (Nat.lt_of_lt_of_le hi h.size) (by omega) (by omega)).trans (h.block i hi)⟩
theorem Blk.ext2 {g : Nat} {t : TypeId} {cs : Array Value} (h : Blk w g t cs) (k : Ext2 a b w w') (ha : g ≠ a) (hb : g ≠ b) : Blk w' g t cs := (k.block g h.lt ha hb).trans h
theorem MapAt.ext2 {g c : Nat} {es : Array MapEntry} (h : MapAt w g es c) (k : Ext2 a b w w') (ha : g ≠ a) (hb : g ≠ b) : MapAt w' g es c := (k.block g h.lt ha hb).trans h
theorem cell_ext2 {p : Addr} {v : Value} (h : w.cell? p = some v) (k : Ext2 a b w w') (ha : p.block ≠ a) (hb : p.block ≠ b) : w'.cell? p = some v := (World.cell?_of_block (k.block _ (lt_of_cell h) ha hb)).trans h
end

end Go.Proofs.YtbgfmbmcabekeaaGreatDoor

/-
  package store: New, fits, Apply, At, at the law's own record.
-/
namespace Go.Proofs.YtbgfmbmcabekeaaGreatDoor
open Go.RowKit
attribute [local go_sem ↓] Go.wp_at_zero Go.wp_at_succ

/-- a state in memory: its own block gs, its map's block gm -/
def StateAt (w : World) (gs gm : Nat) (es : Array MapEntry) (c : Nat) (pos : Int) : Prop := Blk w gs 134 #[.map (some gm), .int .i64 pos] ∧ MapAt w gm es c
section
variable {w W : World} {gs gm c : Nat} {es : Array MapEntry} {pos : Int}
theorem StateAt.ext (h : StateAt w gs gm es c pos) (k : Below w.heap.size w W) : StateAt W gs gm es c pos := ⟨h.1.ext k, h.2.ext k⟩
theorem StateAt.alloc (h : StateAt w gs gm es c pos) (o : Obj) : StateAt (w.alloc o) gs gm es c pos := ⟨h.1.alloc o, h.2.alloc o⟩
theorem StateAt.drewN (h : StateAt w gs gm es c pos) (n : Nat) : StateAt (w.drewN n) gs gm es c pos := h
end

def theEntry : MapEntry := ⟨.agg #[.int .i64 0, .int .i64 5], .agg #[.int .i64 0, .int .i64 5, .int .i64 1, .int .i64 2, .int .i64 3], 0⟩

theorem id_check (b : Bool) (w : World) : (Instr.checkKey b 10000 136 (.agg #[.int .i64 0, .int .i64 5])).run Tryz.prog w = .ok () w := by cases b <;> kernel_rfl
theorem row_zero (w : World) : (zeroValue 77).run Tryz.prog w = .ok (.agg #[.int .i64 0, .int .i64 0, .int .i64 0, .int .i64 0, .int .i64 0]) w := by kernel_rfl

set_option maxHeartbeats 400000 in
theorem storeNew (w : World) : Calls Tryz.prog 35 #[] w fun e w' => e = .returned (.pointer (some ⟨w.heap.size + 1, 0, none⟩)) ∧ (w.alloc (.map #[] 0)).alloc (.cells #[.map (some w.heap.size), .int .i64 0] 134) = w' := by
  have hmm := @run_makeMap Tryz.prog
  go_enter Tryz.func35, Tryz.ntmps35
  go_wp2
  go_ret
  exact ⟨rfl, rfl⟩

/-- facts that abide new memory -/
def Abide (I : World → Prop) : Prop := ∀ W W' : World, I W → Below W.heap.size W W' → I W'
theorem keep3 {I : World → Prop} (hI : Abide I) {W W' : World} {p q r : Addr} {x y z : Value} (h : W.cell? p = some x ∧ W.cell? q = some y ∧ W.cell? r = some z ∧ I W) (hb : Below W.heap.size W W') : W'.cell? p = some x ∧ W'.cell? q = some y ∧ W'.cell? r = some z ∧ I W' :=
  ⟨cell_ext h.1 hb, cell_ext h.2.1 hb, cell_ext h.2.2.1 hb, hI W W' h.2.2.2 hb⟩
theorem keep3I {I : World → Prop} {W : World} {p q r : Addr} {x y z : Value} (h : W.cell? p = some x ∧ W.cell? q = some y ∧ W.cell? r = some z ∧ I W) : I W := h.2.2.2
def FitsI (w : World) (b gs gm : Nat) (W : World) : Prop := HeadB W b #[.int .i64 0, .int .i64 5, .bool false, .int .i64 0, .int .i64 0, .int .i64 0, .bool true, .int .i64 1, .int .i64 2, .int .i64 3] ∧ StateAt W gs gm #[] 0 0 ∧ Below w.heap.size w W
theorem FitsI.b {w W : World} {b gs gm : Nat} {p q r : Addr} {x y z : Value} (h : W.cell? p = some x ∧ W.cell? q = some y ∧ W.cell? r = some z ∧ FitsI w b gs gm W) : HeadB W b #[.int .i64 0, .int .i64 5, .bool false, .int .i64 0, .int .i64 0, .int .i64 0, .bool true, .int .i64 1, .int .i64 2, .int .i64 3] := h.2.2.2.1
theorem FitsI.abide (w : World) (b gs gm : Nat) : Abide (FitsI w b gs gm) := fun _ _ h k => ⟨h.1.ext k, h.2.1.ext k, ext_call h.2.2 k⟩

set_option maxRecDepth 100000 in
set_option maxHeartbeats 1000000 in
theorem fits_yes (w : World) (b c gs gm : Nat) (hB : HeadB w b #[.int .i64 0, .int .i64 5, .bool false, .int .i64 0, .int .i64 0, .int .i64 0, .bool true, .int .i64 1, .int .i64 2, .int .i64 3]) (hS : StateAt w gs gm #[] 0 0) : Calls Tryz.prog 73 #[.pointer (some ⟨gs, 0, none⟩), .agg #[.int .i64 1, .slice (some ⟨b, 0, none⟩) 1 c]] w fun e w' => e = .returned (.bool true) ∧ Below w.heap.size w w' := by
  have HS0 := Lib.hid (hS.alloc (.cells #[.int .i64 1, .slice (some ⟨b, 0, none⟩) 1 c] 46))
  have HC0 := Lib.hid (hB.alloc (.cells #[.int .i64 1, .slice (some ⟨b, 0, none⟩) 1 c] 46))
  have HR0 := Lib.hid (Blk.new w 46 #[.int .i64 1, .slice (some ⟨b, 0, none⟩) 1 c])
  have HV := Lib.hid (fun (W : World) (h : HeadB W b #[.int .i64 0, .int .i64 5, .bool false, .int .i64 0, .int .i64 0, .int .i64 0, .bool true, .int .i64 1, .int .i64 2, .int .i64 3]) => validRecord W b c h)
  clear hB hS
  have a0 := HR0.out.cell 0
  have a1 := HR0.out.cell 1
  have s1 := HS0.out.1.cell 1
  have HF0 := Lib.hid (show FitsI w b gs gm (w.alloc (.cells #[.int .i64 1, .slice (some ⟨b, 0, none⟩) 1 c] 46)) from ⟨HC0.out, HS0.out, ext_new w _⟩)
  have hAb := Lib.hid (FitsI.abide w b gs gm)
  have hwr : IntKind.i64.wrap 1 = 1 := by decide
  go_enter Tryz.func73, Tryz.ntmps73
  go_wp2
  go_region_held3 (fun w' => w'.cell? ⟨w.heap.size, 0, none⟩ = some (.int .i64 1) ∧ w'.cell? ⟨w.heap.size, 1, none⟩ = some (.slice (some ⟨b, 0, none⟩) 1 c) ∧ w'.cell? ⟨gs, 1, none⟩ = some (.int .i64 0) ∧ FitsI w b gs gm w')
    (first | exact ⟨a0, a1, s1, hAb.out _ _ HF0.out (ext_refl _).drew⟩ | assumption | exact keep3 hAb.out (by assumption) (by assumption))
    (first | (go_at_call 47; (with_reducible refine (HV.out _ ?_).mono ?_); (exact FitsI.b (by assumption)); rintro e w' ⟨rfl, hb'⟩))
  have hall : w'.cell? ⟨w.heap.size, 0, none⟩ = some (.int .i64 1) ∧ w'.cell? ⟨w.heap.size, 1, none⟩ = some (.slice (some ⟨b, 0, none⟩) 1 c) ∧ w'.cell? ⟨gs, 1, none⟩ = some (.int .i64 0) ∧ FitsI w b gs gm w' := by assumption
  have hF : FitsI w b gs gm w' := hall.2.2.2
  have b1 := hall.2.1
  have g0 := hF.2.1.1.cell 0
  have hlen := len_map (P := Tryz.prog) Tryz.underlying130 hF.2.1.2 3 (v := .int .i64 0) rfl
  have e0 := hF.1.cell 0
  have e1 := hF.1.cell 1
  have e2 := hF.1.cell 2
  have e3 := hF.1.cell 3
  have e4 := hF.1.cell 4
  have e5 := hF.1.cell 5
  have e6 := hF.1.cell 6
  have e7 := hF.1.cell 7
  have e8 := hF.1.cell 8
  have e9 := hF.1.cell 9
  have HF := Lib.hid hF
  have gl := hF.2.1.1.lt
  have bl := hF.1.lt
  clear hall hF a0 a1 s1
  go_wp2
  refine wp_loop_rounds 2 ?_
  rw [rounds_succ]
  have hlk := fun o => lookup_none (P := Tryz.prog) (k := .agg #[.int .i64 0, .int .i64 5]) (w := ((w'.alloc (.cells #[.int .i64 0, .int .i64 5, .bool false, .int .i64 0, .int .i64 0, .int .i64 0, .bool true, .int .i64 1, .int .i64 2, .int .i64 3] 75)).alloc o).drew) Tryz.underlying130 ((HF.out.2.1.2.alloc (.cells #[.int .i64 0, .int .i64 5, .bool false, .int .i64 0, .int .i64 0, .int .i64 0, .bool true, .int .i64 1, .int .i64 2, .int .i64 3] 75)).alloc o) (id_check true _) Tryz.underlying136 (row_zero _)
  have hlk2 := lookup_none (P := Tryz.prog) (k := .agg #[.int .i64 0, .int .i64 5]) (w := (w'.alloc (.cells #[.int .i64 0, .int .i64 5, .bool false, .int .i64 0, .int .i64 0, .int .i64 0, .bool true, .int .i64 1, .int .i64 2, .int .i64 3] 75)).drew) Tryz.underlying130 (HF.out.2.1.2.alloc (.cells #[.int .i64 0, .int .i64 5, .bool false, .int .i64 0, .int .i64 0, .int .i64 0, .bool true, .int .i64 1, .int .i64 2, .int .i64 3] 75)) (id_check true _) Tryz.underlying136 (row_zero _)
  go_wp2
  go_region
  go_wp2
  rw [rounds_succ]
  go_wp2
  go_ret
  exact ⟨rfl, (ext_alloc (ext_alloc HF.out.2.2 _) _).drew⟩

set_option maxRecDepth 100000 in
theorem after_row (w : World) : Calls Tryz.prog 74 #[.agg #[.int .i64 0, .int .i64 5, .bool false, .int .i64 0, .int .i64 0, .int .i64 0, .bool true, .int .i64 1, .int .i64 2, .int .i64 3]] w fun e w' => e = .returned (.tuple #[.agg #[.int .i64 0, .int .i64 5, .int .i64 1, .int .i64 2, .int .i64 3], .bool true]) ∧ Below w.heap.size w w' := after_put theRow w

set_option maxRecDepth 100000 in
set_option maxHeartbeats 1000000 in
theorem apply_one (w : World) (b c gs gm : Nat) (hB : HeadB w b #[.int .i64 0, .int .i64 5, .bool false, .int .i64 0, .int .i64 0, .int .i64 0, .bool true, .int .i64 1, .int .i64 2, .int .i64 3]) (hS : StateAt w gs gm #[] 0 0) : Calls Tryz.prog 40 #[.pointer (some ⟨gs, 0, none⟩), .agg #[.int .i64 1, .slice (some ⟨b, 0, none⟩) 1 c]] w fun e w' => e = .returned (.int .i64 0) ∧ StateAt w' gs gm #[theEntry] 1 1 ∧ Ext2 gs gm w w' := by
  have HS0 := Lib.hid (hS.alloc (.cells #[.int .i64 1, .slice (some ⟨b, 0, none⟩) 1 c] 46))
  have HC0 := Lib.hid (hB.alloc (.cells #[.int .i64 1, .slice (some ⟨b, 0, none⟩) 1 c] 46))
  have HR0 := Lib.hid (Blk.new w 46 #[.int .i64 1, .slice (some ⟨b, 0, none⟩) 1 c])
  have hne : gs ≠ gm := by
    rintro rfl
    have h1 := hS.1
    have h2 := hS.2
    unfold Blk at h1
    unfold MapAt at h2
    rw [h1] at h2
    cases h2
  have hgs := hS.1.lt
  have hgm := hS.2.lt
  clear hB hS
  go_enter Tryz.func40, Tryz.ntmps40
  go_wp2_with fail
  refine (fits_yes _ b c gs gm HC0.out HS0.out).mono ?_
  rintro e W1 ⟨rfl, hb1⟩
  have hR1 := HR0.out.ext hb1
  have hC1 := HC0.out.ext hb1
  have HS1 := Lib.hid (HS0.out.ext hb1)
  have a1 := hR1.cell 1
  have e0 := hC1.cell 0; have e1 := hC1.cell 1; have e2 := hC1.cell 2; have e3 := hC1.cell 3; have e4 := hC1.cell 4; have e5 := hC1.cell 5; have e6 := hC1.cell 6; have e7 := hC1.cell 7; have e8 := hC1.cell 8; have e9 := hC1.cell 9
  have HR1 := Lib.hid hR1
  have HL1 := Lib.hid (ext_call (ext_new w _) hb1)
  have bl := hC1.lt
  clear hb1 hR1 hC1
  go_wp2
  refine wp_loop_rounds 2 ?_
  rw [rounds_succ]
  go_wp2_with fail
  refine (after_row _).mono ?_
  rintro e W2 ⟨rfl, hb2⟩
  have hK2 := (Blk.new' (W1.alloc (.cells #[.int .i64 0, .int .i64 5, .bool false, .int .i64 0, .int .i64 0, .int .i64 0, .bool true, .int .i64 1, .int .i64 2, .int .i64 3] 75)) 136 #[.int .i64 0, .int .i64 5] (b := W1.heap.size + 1) (by simp)).ext hb2
  have HS2 := Lib.hid (((HS1.out.alloc _).alloc _).ext hb2)
  have HR2 := Lib.hid (((HR1.out.alloc _).alloc _).ext hb2)
  have HL2 := Lib.hid (ext_call (ext_alloc (ext_alloc HL1.out _) _) hb2)
  clear hb2 e0 e1 e2 e3 e4 e5 e6 e7 e8 e9 a1
  have k0 := hK2.cell 0; have k1 := hK2.cell 1
  have kl := hK2.lt
  have s0 := HS2.out.1.cell 0
  have gl := HS2.out.1.lt
  have hup := update_none (P := Tryz.prog) (k := .agg #[.int .i64 0, .int .i64 5]) (v := .agg #[.int .i64 0, .int .i64 5, .int .i64 1, .int .i64 2, .int .i64 3]) (w := (W2.alloc (.cells #[.int .i64 0, .int .i64 5, .int .i64 1, .int .i64 2, .int .i64 3] 77)).drew) Tryz.underlying130 (HS2.out.2.alloc (.cells #[.int .i64 0, .int .i64 5, .int .i64 1, .int .i64 2, .int .i64 3] 77)) (id_check false _) Tryz.underlying136
  go_wp2
  go_region
  generalize hW3 : World.putObj (W2.alloc (.cells #[.int .i64 0, .int .i64 5, .int .i64 1, .int .i64 2, .int .i64 3] 77)).drew gm (.map #[⟨.agg #[.int .i64 0, .int .i64 5], .agg #[.int .i64 0, .int .i64 5, .int .i64 1, .int .i64 2, .int .i64 3], 0⟩] 1) = W3
  have hS3 : StateAt W3 gs gm #[theEntry] 1 0 := by
    subst hW3
    exact ⟨(HS2.out.1.alloc _).drew.putObj _ hne, ((HS2.out.2.alloc _).drewN 1).put _ _⟩
  have hR3 : Blk W3 w.heap.size 46 #[.int .i64 1, .slice (some ⟨b, 0, none⟩) 1 c] := by
    subst hW3
    exact (HR2.out.alloc _).drew.putObj _ (by omega)
  have HE3 := Lib.hid (show Ext2 gs gm w W3 by subst hW3; exact (((Ext2.of_ext HL2.out).ext (ext_new _ _)).drewN 1).put _)
  have a0 := hR3.cell 0
  have q1 := hS3.1.cell 1
  have f1 := hS3.1.frozen 1
  have HS3 := Lib.hid hS3
  clear hW3 hS3 hR3 hup s0 k0 k1
  go_wp2
  rw [rounds_succ]
  go_wp2
  go_ret
  exact ⟨rfl, ⟨HS3.out.1.set_ 1 _, HS3.out.2.set _ _ hne.symm⟩, HE3.out.setA _ _⟩

set_option maxRecDepth 100000 in
set_option maxHeartbeats 1000000 in
theorem storeAt0 (w : World) (v : Value) (hv : v = .slice none 0 0) : Calls Tryz.prog 57 #[v, .int .i64 0] w fun e w' => e = .returned (.tuple #[.pointer (some ⟨w.heap.size + 1, 0, none⟩), .int .i64 0]) ∧ StateAt w' (w.heap.size + 1) w.heap.size #[] 0 0 ∧ Below w.heap.size w w' := by
  subst hv
  go_enter Tryz.func57, Tryz.ntmps57
  go_wp2_with fail
  refine (storeNew _).mono ?_
  rintro e W1 ⟨rfl, rfl⟩
  go_wp2
  refine wp_loop_rounds 1 ?_
  rw [rounds_succ]
  go_wp2
  go_ret2
  exact ⟨rfl, ⟨Blk.new' _ _ _ (by simp), (MapAt.new w).alloc _⟩, ext_alloc (ext_new _ _) _⟩

/-- the law's own log in memory: one record -/
def LogAt (w : World) (b g c : Nat) : Prop := HeadB w g #[.int .i64 1, .slice (some ⟨b, 0, none⟩) 1 c] ∧ HeadB w b #[.int .i64 0, .int .i64 5, .bool false, .int .i64 0, .int .i64 0, .int .i64 0, .bool true, .int .i64 1, .int .i64 2, .int .i64 3]
theorem LogAt.ext {w W : World} {b g c : Nat} (h : LogAt w b g c) (k : Below w.heap.size w W) : LogAt W b g c := ⟨h.1.ext k, h.2.ext k⟩

set_option maxRecDepth 100000 in
set_option maxHeartbeats 1000000 in
theorem storeAt1 (w : World) (b g c d : Nat) (hd : 1 ≤ d) (hL : LogAt w b g c) : Calls Tryz.prog 57 #[.slice (some ⟨g, 0, none⟩) 1 d, .int .i64 1] w fun e w' => e = .returned (.tuple #[.pointer (some ⟨w.heap.size + 1, 0, none⟩), .int .i64 0]) ∧ StateAt w' (w.heap.size + 1) w.heap.size #[theEntry] 1 1 ∧ Below w.heap.size w w' := by
  have HL := Lib.hid hL
  clear hL
  go_enter Tryz.func57, Tryz.ntmps57
  go_wp2_with fail
  refine (storeNew _).mono ?_
  rintro e W1 ⟨rfl, hW1⟩
  have HS1 := Lib.hid (show StateAt W1 (w.heap.size + 1) w.heap.size #[] 0 0 by subst hW1; exact ⟨Blk.new' _ _ _ (by simp), (MapAt.new w).alloc _⟩)
  have HE1 := Lib.hid (show Below w.heap.size w W1 by subst hW1; exact ext_alloc (ext_new _ _) _)
  have HL1 := Lib.hid (HL.out.ext HE1.out)
  have r0 := HL1.out.1.cell 0; have r1 := HL1.out.1.cell 1
  have gl := HL1.out.1.lt
  clear hW1
  go_wp2
  refine wp_loop_rounds 2 ?_
  rw [rounds_succ]
  go_wp2_with fail
  refine (apply_one _ b c _ _ (HL1.out.2.alloc _) (HS1.out.alloc _)).mono ?_
  rintro e W2 ⟨rfl, hs2, he2⟩
  have HS2 := Lib.hid hs2
  have HE2 := Lib.hid (he2.below (ext_alloc HE1.out _) (by omega) (by omega))
  clear hs2 he2 r0 r1
  go_wp2
  rw [rounds_succ]
  go_wp2
  go_ret2
  exact ⟨rfl, HS2.out, HE2.out⟩

end Go.Proofs.YtbgfmbmcabekeaaGreatDoor
