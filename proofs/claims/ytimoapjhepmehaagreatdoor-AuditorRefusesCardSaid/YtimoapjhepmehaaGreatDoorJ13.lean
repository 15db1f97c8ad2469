/-
  Part 13 of 17: the contracts that the proof of the last part uses; each stands under its own head.
-/
import Derived.Test.YtimoapjhepmehaaGreatDoorJ8
import Derived.Test.YtimoapjhepmehaaGreatDoorJ12
import Derived.Test.YtimoapjhepmehaaGreatDoorJ6
set_option linter.unusedSimpArgs false
set_option linter.unusedVariables false

/-
  package logtree: all as an iterator, leaves.
-/
namespace Go.Proofs.YtimoapjhepmehaaGreatDoor
open Go.RowKit Go.Shelf
attribute [local go_sem] run_semAt
attribute [local go_sem high] app_sem

theorem wpIn_mem_str {n : Nat} {P : Program} {g : Operand} {ps : Array Tmp} {assign body : Code} {Q : Exit → Act → World → Prop} {a : Act} {w : World}
    (h1 : 1 ≤ n) {gf : Nat} {lb : Array Value} (hg : a.eval g = .func (.func gf) #[] lb) (eg : ∀ args w, (callFunc gf args).run P w = .ok (.enter gf args) w)
    {N : Nat} {C : World → Prop} (enc : Nat → ByteArray) (hseq : SeqMem (n - 1) P gf lb N C (fun k xs _ => xs = #[.string (enc k)])) (hps : ps.size = 1)
    (I : Nat → World → Prop) (hI : ∀ k, OwnP w.heap.size (I k)) (hC : ∀ k W, I k W → C W) (h0 : I 0 w) (Fr : ByteArray → Act)
    (hassign : ∀ (l : Nat) (s : ByteArray) (W : World) (K : Act → World → Prop), K (Fr s) W →
      assign.wpIn (Fence.wide.inRound l) (n - 1 - 1) P (Exit.then K (fun _ _ _ => False)) { tmps := (ps.zip #[.string s]).foldl (fun t (p, v) => t.setIfInBounds p v) a.tmps, defers := [] } W)
    (hbody : ∀ (l k : Nat) (s : ByteArray) (W : World), k < N → s = enc k → w.heap.size ≤ W.heap.size → I k W → body.wpIn (Fence.wide.inRound l) (n - 1 - 1) P (OncePost w.heap.size (I (k + 1)) W) (Fr s) W)
    (hdone : ∀ (D : Nat) (W : World), w.heap.size ≤ D → I N W → W.heap[D]? = some (.deferred (some [])) → Q .normal { a with defers := { target := .collected D, args := #[] } :: a.defers } W) :
    (Code.rangeFunc g ps assign body).wpIn Fence.wide n P Q a w :=
  wpIn_mem h1 hg eg hseq (fun k xs W h => by rw [h, hps]; rfl) I hI hC h0 (fun k a' _ => a' = Fr (enc k)) (fun _ _ => OwnP.pure _)
    (fun l k xs W K _ _ hI' hm hK => by subst hm; exact hassign l (enc k) W K (hK _ _ (KeepsFrom.refl _ _) hI' rfl))
    (fun l k a' W hk hsz hI' hA => by subst hA; exact hbody l k (enc k) W hk rfl hsz hI') hdone

/-- the encodings of a log's heads -/
def leavesF (one : Bool) (z s0 c1 s1 : ByteArray) : List ByteArray := if one then [headEnc 0 z s0, headEnc 1 c1 s1] else [headEnc 0 z s0]
def encAt (one : Bool) (z s0 c1 s1 : ByteArray) (k : Nat) : ByteArray := (leavesF one z s0 c1 s1).getD k ⟨#[]⟩
/-- a log with its blocks named -/
def LogB (W : World) (one : Bool) (gl gh : Nat) (A : Option Addr) (n c cap : Nat) (zs : Array Value) (z s0 c1 s1 : ByteArray) : Prop :=
  if one then Blk W gl 112 #[.slice A n c, .slice (some ⟨gh, 0, none⟩) 2 cap] ∧ Blk W gh 52 (#[.int .i64 0, .string z, .string s0, .int .i64 1, .string c1, .string s1] ++ zs)
  else Blk W gl 112 #[.slice A n c, .slice (some ⟨gh, 0, none⟩) 1 cap] ∧ Blk W gh 52 (#[.int .i64 0, .string z, .string s0])
theorem LogB.ext {w W : World} {one : Bool} {gl gh n c cap : Nat} {A : Option Addr} {zs : Array Value} {z s0 c1 s1 : ByteArray} (h : LogB w one gl gh A n c cap zs z s0 c1 s1) (k : Below w.heap.size w W) : LogB W one gl gh A n c cap zs z s0 c1 s1 := by
  unfold LogB at *
  cases one
  · exact ⟨h.1.ext k, h.2.ext k⟩
  · exact ⟨h.1.ext k, h.2.ext k⟩
theorem LogB.own {B : Nat} {one : Bool} {gl gh n c cap : Nat} {A : Option Addr} {zs : Array Value} {z s0 c1 s1 : ByteArray} : OwnP B (fun W => LogB W one gl gh A n c cap zs z s0 c1 s1) := by
  unfold LogB
  cases one
  · exact OwnP.and OwnP.blk OwnP.blk
  · exact OwnP.and OwnP.blk OwnP.blk
def AllC (one : Bool) (Bs gl gh : Nat) (A : Option Addr) (n c cap : Nat) (zs : Array Value) (z s0 c1 s1 : ByteArray) (W : World) : Prop :=
  W.cell? ⟨Bs, 0, none⟩ = some (.pointer (some ⟨gl, 0, none⟩)) ∧ LogB W one gl gh A n c cap zs z s0 c1 s1
def AllPost (N : Nat) (J : Nat → World → Prop) (e : Ending) (W' : World) : Prop := (∃ v, e = .returned v) ∧ J N W'

set_option maxRecDepth 100000 in
set_option maxHeartbeats 1000000 in
theorem all_in0 (n : Nat) (hn : 1 ≤ n) (l Bs gl gh : Nat) (A : Option Addr) (m c cap : Nat) (zs : Array Value) (z s0 c1 s1 : ByteArray) (hz : z.size = 32) (hs0 : s0.size = 32) (J : Nat → World → Prop)
    (hC : ∀ k W, J k W → AllC false Bs gl gh A m c cap zs z s0 c1 s1 W) (hA : ∀ k A B, J k A → Below A.heap.size A B → J k B)
    (hY : ∀ k xs W1, k < 1 → J k W1 → xs = #[.string (encAt false z s0 c1 s1 k)] → YieldAt Fence.wide (n - 1) Tryz.prog l xs W1 fun e W' => e = .returned (.bool true) ∧ J (k + 1) W')
    (W : World) (h0 : J 0 W) :
    CallsIn Fence.wide n Tryz.prog 130 #[.func (.yield l) #[] #[], .pointer (some ⟨Bs, 0, none⟩)] W (AllPost 1 J) := by
  have HC := Lib.hid hC
  have HA := Lib.hid hA
  have HY := Lib.hid (fun (W1 : World) (h : J 0 W1) => hY 0 _ W1 (by omega) h rfl)
  have HE := Lib.hid (fun W : World => logEncode 0 z s0 (by omega) hz hs0 W)
  have hen : encAt false z s0 c1 s1 0 = headEnc 0 z s0 := rfl
  rw [hen] at HY
  generalize headEnc 0 z s0 = e0 at *
  obtain ⟨b0, hB, hH⟩ := hC 0 W h0
  have HJ := Lib.hid h0
  clear hC hA hY h0 hen
  have g0 := hB.cell 0; have g1 := hB.cell 1
  have h0 := hH.cell 0; have h1 := hH.cell 1; have h2 := hH.cell 2
  have hhl := hH.lt
  clear hB hH
  refine callsIn_of_wp Tryz.func130 rfl trivial ?_ rfl
  simp only [Tryz.ntmps130, List.size_toArray, List.length_cons, List.length_nil, Nat.reduceAdd, Nat.reduceSub, Array.replicate_succ, Array.replicate_zero, List.push_toArray, List.append_toArray, List.nil_append, List.cons_append]
  gi_wp2
  refine wpIn_loop_rounds 2 ?_
  rw [roundsIn_succ]
  gi_wp2_with fail
  refine ⟨trivial, (callsIn_wide.2 (HE.out _)).mono ?_⟩
  rintro e W1 ⟨rfl, hb1⟩
  obtain ⟨fn, tmps, assign, body, hy, hR⟩ := HY.out W1 (HA.out _ _ _ (HA.out _ _ _ HJ.out (ext_new _ _)) hb1)
  clear hb1
  gi_wp2
  refine hR.mono ?_
  rintro e W3 ⟨rfl, hJ3⟩
  have HJ3 := Lib.hid hJ3
  clear hJ3
  gi_wp2
  rw [roundsIn_succ]
  gi_wp2
  go_end0
  exact ⟨⟨_, rfl⟩, HJ3.out⟩

set_option maxRecDepth 100000 in
set_option maxHeartbeats 1000000 in
theorem all_in1 (n : Nat) (hn : 1 ≤ n) (l Bs gl gh : Nat) (A : Option Addr) (m c cap : Nat) (zs : Array Value) (z s0 c1 s1 : ByteArray) (hz : z.size = 32) (hs0 : s0.size = 32) (hc1 : c1.size = 32) (hs1 : s1.size = 32) (J : Nat → World → Prop)
    (hC : ∀ k W, J k W → AllC true Bs gl gh A m c cap zs z s0 c1 s1 W) (hA : ∀ k A B, J k A → Below A.heap.size A B → J k B)
    (hY : ∀ k xs W1, k < 2 → J k W1 → xs = #[.string (encAt true z s0 c1 s1 k)] → YieldAt Fence.wide (n - 1) Tryz.prog l xs W1 fun e W' => e = .returned (.bool true) ∧ J (k + 1) W')
    (W : World) (h0 : J 0 W) :
    CallsIn Fence.wide n Tryz.prog 130 #[.func (.yield l) #[] #[], .pointer (some ⟨Bs, 0, none⟩)] W (AllPost 2 J) := by
  have HC := Lib.hid hC
  have HA := Lib.hid hA
  have HY0 := Lib.hid (fun (W1 : World) (h : J 0 W1) => hY 0 _ W1 (by omega) h rfl)
  have HY1 := Lib.hid (fun (W1 : World) (h : J 1 W1) => hY 1 _ W1 (by omega) h rfl)
  have HE0 := Lib.hid (fun W : World => logEncode 0 z s0 (by omega) hz hs0 W)
  have HE1 := Lib.hid (fun W : World => logEncode 1 c1 s1 (by omega) hc1 hs1 W)
  have hen0 : encAt true z s0 c1 s1 0 = headEnc 0 z s0 := rfl
  have hen1 : encAt true z s0 c1 s1 1 = headEnc 1 c1 s1 := rfl
  rw [hen0] at HY0
  rw [hen1] at HY1
  generalize headEnc 0 z s0 = e0 at *
  generalize headEnc 1 c1 s1 = e1 at *
  obtain ⟨b0, hB, hH⟩ := hC 0 W h0
  have HJ := Lib.hid h0
  clear hC hA hY h0 hen0 hen1
  have g0 := hB.cell 0; have g1 := hB.cell 1
  obtain ⟨h0, h1, h2, _, _, _⟩ := head_cells hH
  have hhl := hH.lt
  clear hB hH
  refine callsIn_of_wp Tryz.func130 rfl trivial ?_ rfl
  simp only [Tryz.ntmps130, List.size_toArray, List.length_cons, List.length_nil, Nat.reduceAdd, Nat.reduceSub, Array.replicate_succ, Array.replicate_zero, List.push_toArray, List.append_toArray, List.nil_append, List.cons_append]
  gi_wp2
  refine wpIn_loop_rounds 3 ?_
  rw [roundsIn_succ]
  gi_wp2_with fail
  refine ⟨trivial, (callsIn_wide.2 (HE0.out _)).mono ?_⟩
  rintro e W1 ⟨rfl, hb1⟩
  obtain ⟨fn, tmps, assign, body, hy, hR⟩ := HY0.out W1 (HA.out _ _ _ (HA.out _ _ _ HJ.out (ext_new _ _)) hb1)
  clear hb1 g0 g1 h0 h1 h2 hhl b0
  gi_wp2
  refine hR.mono ?_
  rintro e W3 ⟨rfl, hJ3⟩
  obtain ⟨_, _, hH⟩ := HC.out 1 W3 hJ3
  obtain ⟨_, _, _, h3, h4, h5⟩ := head_cells hH
  have hhl := hH.lt
  have HJ3 := Lib.hid hJ3
  clear hJ3 hH hR hy
  gi_wp2
  rw [roundsIn_succ]
  gi_wp2_with fail
  refine ⟨trivial, (callsIn_wide.2 (HE1.out _)).mono ?_⟩
  rintro e W4 ⟨rfl, hb4⟩
  obtain ⟨fn, tmps, assign, body, hy, hR⟩ := HY1.out W4 (HA.out _ _ _ (HA.out _ _ _ HJ3.out (ext_new _ _)) hb4)
  clear hb4 h3 h4 h5 hhl
  gi_wp2
  refine hR.mono ?_
  rintro e W5 ⟨rfl, hJ5⟩
  have HJ5 := Lib.hid hJ5
  clear hJ5
  gi_wp2
  rw [roundsIn_succ]
  gi_wp2
  go_end0
  exact ⟨⟨_, rfl⟩, HJ5.out⟩

theorem all_seq (n : Nat) (hn : 1 ≤ n) (one : Bool) (Bs gl gh : Nat) (A : Option Addr) (m c cap : Nat) (zs : Array Value) (z s0 c1 s1 : ByteArray) (hz : z.size = 32) (hs0 : s0.size = 32) (hc1 : c1.size = 32) (hs1 : s1.size = 32) :
    SeqMem n Tryz.prog 130 #[.pointer (some ⟨Bs, 0, none⟩)] (leavesF one z s0 c1 s1).length (AllC one Bs gl gh A m c cap zs z s0 c1 s1) (fun k xs _ => xs = #[.string (encAt one z s0 c1 s1 k)]) := by
  intro l J W hC hA hY h0
  cases one with
  | false => exact all_in0 n hn l Bs gl gh A m c cap zs z s0 c1 s1 hz hs0 J hC hA hY W h0
  | true => exact all_in1 n hn l Bs gl gh A m c cap zs z s0 c1 s1 hz hs0 hc1 hs1 J hC hA hY W h0

set_option maxHeartbeats 400000 in
theorem all_iter (gl : Nat) (w : World) :
    Calls Tryz.prog 75 #[.pointer (some ⟨gl, 0, none⟩)] w fun e w' =>
      e = .returned (.func (.func 130) #[] #[.pointer (some ⟨w.heap.size, 0, none⟩)]) ∧ w.alloc (.cells #[.pointer (some ⟨gl, 0, none⟩)] 76) = w' := by
  have hmf : ∀ (fn : Fn) (first cap : Array Value) (w : World), (Instr.makeFunc fn first cap).run Tryz.prog w = .ok (.func fn first cap) w := fun _ _ _ _ => rfl
  go_enter Tryz.func75, Tryz.ntmps75
  go_wp2
  go_ret
  exact ⟨rfl, rfl⟩

/-- what is known between two rounds -/
def LvI (es : List ByteArray) (one : Bool) (w : World) (gl gh : Nat) (A : Option Addr) (m c cap : Nat) (zs : Array Value) (z s0 c1 s1 : ByteArray) (k : Nat) (W : World) : Prop :=
  (∃ v, Boxed W w.heap.size 53 v ∧ W.ownsRow w.heap.size 9 1 v k ((es.take k).map Value.string) ∧ True) ∧ Below w.heap.size w W ∧ Blk W (w.heap.size + 1) 76 #[.pointer (some ⟨gl, 0, none⟩)] ∧ LogB W one gl gh A m c cap zs z s0 c1 s1
theorem LvI.own (es : List ByteArray) (one : Bool) (w : World) (gl gh : Nat) (A : Option Addr) (m c cap : Nat) (zs : Array Value) (z s0 c1 s1 : ByteArray) (k B : Nat) (hB : w.heap.size ≤ B) : OwnP B (LvI es one w gl gh A m c cap zs z s0 c1 s1 k) :=
  OwnP.and (Own.from (holdsRow_own w.heap.size w.heap.size 53 9 1 (fun _ : Unit => k) (fun _ : Unit => (es.take k).map Value.string) (fun _ _ => True)) B)
    (OwnP.and (OwnP.below (Nat.le_refl _) hB) (OwnP.and OwnP.blk LogB.own))

set_option maxHeartbeats 1000000 in
set_option maxRecDepth 100000 in
theorem leaves_any (one : Bool) (gl gh : Nat) (A : Option Addr) (m c cap : Nat) (zs : Array Value) (z s0 c1 s1 : ByteArray) (hz : z.size = 32) (hs0 : s0.size = 32) (hc1 : c1.size = 32) (hs1 : s1.size = 32) (w : World) (hL : LogB w one gl gh A m c cap zs z s0 c1 s1) :
    Calls Tryz.prog 42 #[.pointer (some ⟨gl, 0, none⟩)] w fun e w' => ∃ v, e = .returned v ∧ Strs (fun b => w.heap.size ≤ b) w' v (leavesF one z s0 c1 s1) ∧ Below w.heap.size w w' := by
  have HL := Lib.hid hL
  have hseq := all_seq 2 (by omega) one (w.heap.size + 1) gl gh A m c cap zs z s0 c1 s1 hz hs0 hc1 hs1
  have HEn := Lib.hid (show ∀ k, encAt one z s0 c1 s1 k = (leavesF one z s0 c1 s1).getD k ⟨#[]⟩ from fun _ => rfl)
  have hlen : (leavesF one z s0 c1 s1).length ≤ 2 := by cases one <;> simp [leavesF]
  have hpos : 0 < (leavesF one z s0 c1 s1).length := by cases one <;> simp [leavesF]
  generalize leavesF one z s0 c1 s1 = es at *
  generalize hN : es.length = N at *
  have HN := Lib.hid hN
  have HSq := Lib.hid hseq
  clear hL hseq hN
  refine (callsIn_wide (n := 3)).1 (callsIn_of_wp_marks Tryz.func42 rfl trivial (wpIn_wide.2 ?_) rfl)
  simp only [Tryz.ntmps42, List.size_toArray, List.length_cons, List.length_nil, Nat.reduceAdd, Nat.reduceSub, Array.replicate_succ, Array.replicate_zero, List.push_toArray, List.append_toArray, List.nil_append, List.cons_append]
  go_wp2_with (go_at_call 75; refine (all_iter gl _).mono ?_; rintro e W2 ⟨rfl, rfl⟩)
  have hE0 : Below w.heap.size w ((w.alloc (.cells #[.slice none 0 0] 53)).alloc (.cells #[.pointer (some ⟨gl, 0, none⟩)] 76)) := ext_alloc (ext_new _ _) _
  have hI0 : LvI es one w gl gh A m c cap zs z s0 c1 s1 0 ((w.alloc (.cells #[.slice none 0 0] 53)).alloc (.cells #[.pointer (some ⟨gl, 0, none⟩)] 76)) :=
    ⟨⟨_, (Boxed.new _ _ _).alloc _, World.ownsRow_nil _ _ _ _, trivial⟩, hE0, Blk.new' _ _ _ (by simp), HL.out.ext hE0⟩
  refine (wpIn_wide (n := 3)).1 ?_
  refine' wpIn_mem_str (by omega) (gf := 130) (lb := #[.pointer (some ⟨w.heap.size + 1, 0, none⟩)]) (by simp [Act.eval]) (enters_of Tryz.func130 (by kernel_rfl) rfl)
    _ HSq.out rfl (LvI es one w gl gh A m c cap zs z s0 c1 s1) (fun k => LvI.own es one w gl gh A m c cap zs z s0 c1 s1 k _ (by simp; omega)) (fun k W h => ⟨h.2.2.1.cell 0, h.2.2.2⟩) hI0 _ ?assign ?body ?done
  case assign =>
    intro l s W K hK
    gi_wp2
    exact hK
  case body =>
    rintro l k s W hk hs hsz ⟨⟨v, hv, hrow, _⟩, hb, hbx, hlog⟩
    rw [HEn.out] at hs
    have HS := Lib.hid hs
    have hz1 : w.heap.size ≤ W.heap.size := hb.size
    obtain ⟨hok, g3, cap3, W3, hav, haw, hv3, hv4, hr4, hk4, hb4, ho4⟩ := sums_after s hv hrow hz1 (Nat.le_refl _) (by omega)
    have c1' := hv.cell
    have hvl := hv.lt
    have c3 := hv3.cell
    have f3 := hv3.frozen
    have HV4 := Lib.hid hv4
    have HR4 := Lib.hid hr4
    have HK4 := Lib.hid hk4
    have HB4 := Lib.hid hb4
    have HO4 := Lib.hid ho4
    have HI := Lib.hid (And.intro hb (And.intro hbx hlog))
    clear hs hv hrow hb hbx hlog hv3 hv4 hr4 hk4 hb4 ho4
    gi_wp2
    have hE : Below w.heap.size w (W3.setCell ⟨w.heap.size, 0, none⟩ (.slice (some ⟨g3, 0, none⟩) (k + 1) cap3)) := HI.out.1.trans HB4.out
    have hk' : k < es.length := by rw [HN.out]; exact hk
    have htk : (es.take (k + 1)).map Value.string = (es.take k).map Value.string ++ [.string s] := by
      rw [List.take_succ_eq_append_getElem hk', List.map_append, HS.out, List.getD_eq_getElem?_getD, List.getElem?_eq_getElem hk']
      rfl
    exact ⟨HK4.out.from _, ⟨_, HV4.out, by rw [htk]; exact HR4.out, trivial⟩, hE, HO4.out _ _ _ HI.out.2.1 (by decide) (by omega), HL.out.ext hE⟩
  case done =>
    rintro D W hD ⟨⟨v, hv, hrow, _⟩, hb, _, _⟩ hK
    obtain ⟨n', rfl⟩ : ∃ n', N = n' + 1 := ⟨N - 1, by omega⟩
    obtain ⟨g, cg, rfl⟩ := ownsRow_succ hrow
    have hvc := hv.cell
    have hvf := hv.frozen
    have HRow := Lib.hid hrow
    have HBe := Lib.hid hb
    have HV := Lib.hid hv
    clear hrow hb
    go_wp2
    have hDn : D ≠ w.heap.size := by simp at hD; omega
    have hgn : g ≠ w.heap.size := fun e => HV.out.not_row (by decide) HRow.out (by rw [e]; rfl)
    have hK2 : (W.setCell ⟨w.heap.size, 0, none⟩ (.slice (some ⟨g, 0, none⟩) (n' + 1) cg)).heap[D]? = some (.deferred (some [])) := (Below.heap_setCell _ _ _ _ hDn).trans hK
    refine ⟨by simp, .inl ⟨_, _, rfl, run_takeDeferred hK2, ?_⟩⟩
    have hB2 := (Blk.set_ (show Blk W w.heap.size 53 #[.slice (some ⟨g, 0, none⟩) (n' + 1) cg] from HV.out) 0 (.slice (some ⟨g, 0, none⟩) (n' + 1) cg)).putObj (.deferred none) hDn.symm
    have y0 := hB2.cell 0
    refine ⟨.slice (some ⟨g, 0, none⟩) (n' + 1) cg, by simp [results, Tryz.results42, go_sem, y0], _, rfl, ?_, ext_put (ext_set HBe.out (by simp) _) (by simp at hD; omega) _⟩
    refine ⟨_, cg, by rw [HN.out], ?_, fun _ => ⟨g, 0, rfl, (HRow.out.lt g rfl).1, fun j x hx => ?_⟩⟩
    · rw [HN.out]; exact own_cap HRow.out
    · have h1 := HRow.out.cells (g := g) rfl j (.string x) (by rw [List.take_of_length_le (by rw [HN.out]; exact Nat.le_refl _), List.getElem?_map, hx]; rfl)
      rw [add_lit0] at h1
      rw [Nat.zero_add]
      have h2 : (W.setCell ⟨w.heap.size, 0, none⟩ (.slice (some ⟨g, 0, none⟩) (n' + 1) cg)).cell? ⟨g, j, none⟩ = some (.string x) := (World.cell?_of_block (Below.heap_setCell _ _ _ _ hgn)).trans h1
      refine cell_kept h2 (grownBy_putObj' _ D _) (fun r e => ?_)
      injection e with e
      subst e
      exact ⟨_, hK2, rfl⟩

end Go.Proofs.YtimoapjhepmehaaGreatDoor

/-
  digest.Verify at two entries, the second.
-/
namespace Go.Proofs.YtimoapjhepmehaaGreatDoor
open Go.RowKit Go.Shelf
attribute [local go_sem ↓] Go.wp_at_zero Go.wp_at_succ
attribute [local go_sem] Oper.semAt_some

theorem side_info : (Tryz.prog.info? 203).map (fun i => (i.zero, i.size, i.bytes)) = some (some (.agg #[.string ⟨#[]⟩, .bool false]), 2, 24) := by kernel_rfl
theorem cell_two_new (w : World) (x y : Value) (t : TypeId) : ∀ j u, [x, y][j]? = some u → (w.alloc (.cells #[x, y] t)).cell? ((⟨w.heap.size, 0, none⟩ : Addr).add j) = some u := fun j u hu => by
  have hB := Blk.new w t #[x, y]
  match j, hu with
  | 0, hu => simp at hu; subst hu; exact hB.cell 0
  | 1, hu => simp at hu; subst hu; exact hB.cell 1

set_option maxRecDepth 100000 in
set_option maxHeartbeats 1000000 in
theorem backS1_once (n : Nat) (hn : 1 ≤ n) (Bs b c : Nat) (d : ByteArray) (f : Bool) (w : World) (hBs : w.cell? ⟨Bs, 0, none⟩ = some (.slice (some ⟨b, 0, none⟩) 1 c)) (h0 : w.cell? ⟨b, 0, none⟩ = some (.string d)) (h1 : w.cell? ⟨b, 1, none⟩ = some (.bool f)) :
    SeqOnce n Tryz.prog 169 #[.pointer (some ⟨Bs, 0, none⟩)] #[.int .i64 0, .agg #[.string d, .bool f]] w := fun l J Jx W hW hJ _ hY hJ0 => by
  have e1 := (hW.cell (p := ⟨Bs, 0, none⟩) (lt_of_cell hBs)).trans hBs
  have e2 := (hW.cell (p := ⟨b, 0, none⟩) (lt_of_cell h0)).trans h0
  have e3 := (hW.cell (p := ⟨b, 1, none⟩) (lt_of_cell h1)).trans h1
  clear hBs h0 h1
  obtain ⟨fn, tmps, assign, body, hy, hR⟩ := hY [] () W hJ0 (by simp)
  refine callsIn_of_wp Tryz.func169 rfl trivial ?_ rfl
  simp only [Tryz.ntmps169, List.size_toArray, List.length_cons, List.length_nil, Nat.reduceAdd, Nat.reduceSub, Array.replicate_succ, Array.replicate_zero, List.push_toArray, List.append_toArray, List.nil_append, List.cons_append]
  gi_wp2
  refine wpIn_loop_rounds 2 ?_
  rw [roundsIn_succ]
  gi_wp2
  refine hR.mono ?_
  rintro e W3 (⟨rfl, hJ3, hk3⟩ | ⟨rfl, hJx3⟩)
  · gi_wp2
    rw [roundsIn_succ]
    gi_wp2
    go_end0
    exact ⟨⟨_, rfl⟩, .inl ⟨_, rfl, hJ3⟩⟩
  · gi_wp2
    refine bodyPost_ret (results_none rfl _ _ _) rfl ?_
    exact ⟨⟨_, rfl⟩, .inr ⟨_, trivial, hJx3⟩⟩

set_option maxHeartbeats 1000000 in
set_option maxRecDepth 100000 in
theorem verify2_any (S : Nat → Prop) (v : Value) (root s d : ByteArray) (w : World) (hv : Strs S w v [d]) (hd : d.size = 32) (hs : s.size ≤ 500000) (hR : RoundOK w) :
    Calls Tryz.prog 64 #[.string root, .int .i64 2, .int .i64 1, .string s, v] w fun e w' => e = .returned (.bool ((nodeF d (leafF s)).toList == root.toList)) ∧ Below w.heap.size w w' := by
  obtain ⟨is, his, hzs0, hzs1, hzs2⟩ := info_parts side_info
  have hall : allF [d] = true := by simp [allF, oddF, hd]
  have HAll := Lib.hid (all_any S v [d] w hv (by simp))
  have HTake := Lib.hid (take_any S v [d] w hv (by simp))
  have HLf := Lib.hid (fun (W : World) (h : RoundOK W) => leaf_any s W h hs)
  have hl32 : (leafF s).size = 32 := leafF_size s
  generalize leafF s = lf at *
  obtain ⟨nd, hnd⟩ : ∃ nd, nd = nodeF d lf := ⟨_, rfl⟩
  rw [← hnd]
  have HJoin := Lib.hid (fun (W : World) (h : RoundOK W) => join_any d lf true W h (by omega) (by omega))
  have HND := Lib.hid (show joinF d true lf = nd by rw [hnd]; rfl)
  clear hnd
  generalize joinF d true lf = jd at *
  have HR := Lib.hid hR
  have hr1 := hR.lt
  obtain ⟨A, c, rfl, hc, _⟩ := hv
  clear hR
  refine (callsIn_wide (n := 3)).1 (callsIn_of_wp_marks Tryz.func64 rfl trivial (wpIn_wide.2 ?_) rfl)
  simp only [Tryz.ntmps64, List.size_toArray, List.length_cons, List.length_nil, Nat.reduceAdd, Nat.reduceSub, Array.replicate_succ, Array.replicate_zero, List.push_toArray, List.append_toArray, List.nil_append, List.cons_append]
  go_wp2_with (go_at_call 112; refine HAll.out.mono ?_; rintro e W1 ⟨rfl, rfl⟩; rw [hall])
  refine wp_loop_rounds 2 ?_
  rw [rounds_succ]
  go_wp2_with (first
    | (go_at_call 113; refine HTake.out.mono ?_; rintro e W1 ⟨v', rfl, hv', hb1⟩; obtain ⟨A', c', rfl, _, _⟩ := hv'; have HB1 := Lib.hid hb1; have hz1 := hb1.size; clear hb1)
    | (go_at_call 73; refine (left_any 2 _ (by omega) (by omega)).mono ?_; rintro e W2 ⟨rfl, rfl⟩; rw [leftF_two])
    | (at_builtin; refine wpList_append_own _ rfl (.tmp 44) (.tmp 50) 199 rfl w.heap.size 203 is (.agg #[.string ⟨#[]⟩, .bool false]) 2 24 Tryz.underlying199 his hzs0 hzs1 hzs2 rfl (by decide) (.slice none 0 0) 0 [] rfl (World.ownsRow_nil _ _ _ _) ⟨W1.heap.size, 0, none⟩ 1 1 [.string d, .bool true] rfl rfl (cell_two_new _ _ _ _) ?_ ?_ ?_ ?_ ?_; (simp [Value.oneCell']); (unfold maxLen; omega); omega; (rw [World.size_alloc]; omega); intro wv2 W2 ho2 hg2 _; have hb2 := Lib.hid ((HB1.out.alloc hz1 _).grown hg2 (by rw [World.size_alloc]; omega) (fun k e => by cases e)); obtain ⟨g, cg, hg, hgb, _⟩ := ho2.form (by omega); subst hg; have HO2 := Lib.hid ho2; clear ho2 hg2))
  have hgl : g < W2.heap.size := (HO2.out.lt g rfl).2
  have hcg0 : W2.cell? ⟨g, 0, none⟩ = some (.string d) := HO2.out.cells (g := g) rfl 0 _ rfl
  have hcg1 : W2.cell? ⟨g, 1, none⟩ = some (.bool true) := HO2.out.cells (g := g) rfl 1 _ rfl
  have hz2 := hb2.out.size
  have hR2 : RoundOK W2 := HR.out.below hb2.out
  rw [rounds_succ]
  go_wp2_with (first
    | (go_at_call 76; refine (HLf.out W2 hR2).mono ?_; rintro e W3 ⟨rfl, hb3⟩; have HB3 := Lib.hid hb3; have hz3 := hb3.size; clear hb3)
    | (go_at_call 114; refine (backS_any _ _ _ _).mono ?_; rintro e W4 ⟨rfl, rfl⟩))
  have hcA : W3.cell? ⟨g, 0, none⟩ = some (.string d) := (HB3.out.cell (p := ⟨g, 0, none⟩) hgl).trans hcg0
  have hcB : W3.cell? ⟨g, 1, none⟩ = some (.bool true) := (HB3.out.cell (p := ⟨g, 1, none⟩) hgl).trans hcg1
  have hsz : ((W3.alloc (.cells #[.string lf] 9)).alloc (.cells #[.slice (some ⟨g, 0, none⟩) 1 cg] 199)).heap.size = W3.heap.size + 2 := by simp
  refine (wpIn_wide (n := 3)).1 ?_
  refine' wpIn_once_box (by omega) (gf := 169) (lb := #[.pointer (some ⟨W3.heap.size + 1, 0, none⟩)]) (by simp [Act.eval]) (enters_of Tryz.func169 (by kernel_rfl) rfl)
    (backS1_once 2 (by omega) (W3.heap.size + 1) g cg d true _ (by have h := cell_new1 (W3.alloc (.cells #[.string lf] 9)) (.slice (some ⟨g, 0, none⟩) 1 cg) 199; rw [World.size_alloc] at h; exact h) (cell_al (cell_al hcA _) _) (cell_al (cell_al hcB _) _)) rfl
    (fun W => (Blk W W3.heap.size 9 #[.string lf] ∧ RoundOK W) ∧ Below w.heap.size w W) (fun W => Blk W W3.heap.size 9 #[.string jd] ∧ Below w.heap.size w W)
    (OwnP.and (OwnP.and OwnP.blk OwnP.round) (OwnP.below (Nat.le_refl _) (by omega))) (OwnP.and OwnP.blk (OwnP.below (Nat.le_refl _) (by omega)))
    ⟨⟨(Blk.new _ _ _).alloc _, ((hR2.below HB3.out).below ((Below.refl _ _).alloc (Nat.le_refl _) _)).below ((Below.refl _ _).alloc (Nat.le_refl _) _)⟩, (((hb2.out.trans (HB3.out.mono hz2)).alloc (by omega) _)).alloc (by simp; omega) _⟩
    203 #[.string d, .bool true] _ ?assign ?body ?done
  case assign =>
    intro l h W K hh hK
    gi_wp2
    rw [← hh]
    exact hK
  case body =>
    rintro l h W hszW hh hB ⟨⟨hO, hRo⟩, hb⟩
    have c0 : W.cell? ⟨W3.heap.size, 0, none⟩ = some (.string lf) := hO.cell 0
    have c1 : W.cell? ⟨h, 0, none⟩ = some (.string d) := hB.cell 0
    have c2 : W.cell? ⟨h, 1, none⟩ = some (.bool true) := hB.cell 1
    have HRo := Lib.hid hRo
    have HO := Lib.hid hO
    have HBe := Lib.hid hb
    clear hRo hb hO hB
    gi_wp2_with fail
    refine ⟨trivial, (CallsIn.inRound l (callsIn_wide.2 (HJoin.out W HRo.out))).mono ?_⟩
    rintro e W' ⟨rfl, hb'⟩
    have hB' := HO.out.below hb' HO.out.lt
    have c1 : W'.cell? ⟨W3.heap.size, 0, none⟩ = some (.string lf) := hB'.cell 0
    have f1 : W'.frozen? ⟨W3.heap.size, 0, none⟩ = false := hB'.frozen 0
    have HB' := Lib.hid hB'
    clear hB'
    gi_wp2
    exact ⟨(KeepsOthers.trans ⟨hb'.size, fun k o hk _ => (hb'.block k (Array.getElem?_eq_some_iff.1 hk).1).trans hk⟩ (KeepsOthers.setCell _ _ _)).from _, HB'.out.set_ 0 _, (HBe.out.trans (hb'.mono HBe.out.size)).setCell (by show w.heap.size ≤ W3.heap.size; omega) _⟩
  case done =>
    rintro D W hD ⟨hB, hb⟩ hK
    have c0 : W.cell? ⟨W3.heap.size, 0, none⟩ = some (.string jd) := hB.cell 0
    go_wp2
    refine ⟨by simp, .inl ⟨_, _, rfl, run_takeDeferred hK, ?_⟩⟩
    refine ⟨_, results_tmp rfl _ _ _, ?_, ?_⟩
    · rw [← HND.out]; rfl
    · exact hb.grown (grownBy_putObj' W D _) hb.size (fun k e => by injection e with e; simp at hD; omega)

end Go.Proofs.YtimoapjhepmehaaGreatDoor

/-
  digest.VerifyExtension: one entry to two; two to one (refused).
-/
namespace Go.Proofs.YtimoapjhepmehaaGreatDoor
open Go.RowKit Go.Shelf
attribute [local go_sem ↓] Go.wp_at_zero Go.wp_at_succ
attribute [local go_sem] Oper.semAt_some

set_option maxHeartbeats 400000 in
set_option maxRecDepth 100000 in
theorem verExt21_any (v : Value) (old root : ByteArray) (w : World) (A : Option Addr) (n c : Nat) (hv : v = .slice A n c) :
    Calls Tryz.prog 65 #[.string old, .int .i64 2, .string root, .int .i64 1, v] w fun e w' => e = .returned (.bool false) ∧ w = w' := by
  subst hv
  go_enter Tryz.func65, Tryz.ntmps65
  go_wp2
  go_ret
  exact ⟨rfl, rfl⟩

set_option maxHeartbeats 1000000 in
set_option maxRecDepth 100000 in
theorem verExt12_any (S : Nat → Prop) (v : Value) (old root d : ByteArray) (w : World) (hv : Strs S w v [d]) (hd : d.size = 32) (ho : old.size = 32) (hr : root.size = 32) (hR : RoundOK w) :
    Calls Tryz.prog 65 #[.string old, .int .i64 1, .string root, .int .i64 2, v] w fun e w' => e = .returned (.bool ((nodeF old d).toList == root.toList)) ∧ Below w.heap.size w w' := by
  obtain ⟨is, his, hzs0, hzs1, hzs2⟩ := info_parts side_info
  have hall : allF [d] = true := by simp [allF, oddF, hd]
  have HAll := Lib.hid (all_any S v [d] w hv (by simp))
  have HTake := Lib.hid (take_any S v [d] w hv (by simp))
  have hio : ((old.size : Int) == 32) = true := by rw [ho]; rfl
  have hir : ((root.size : Int) == 32) = true := by rw [hr]; rfl
  have HIO := Lib.hid (fun W : World => digest_isDigest old W)
  have HIR := Lib.hid (fun W : World => digest_isDigest root W)
  rw [hio] at HIO
  rw [hir] at HIR
  clear hio hir
  obtain ⟨nd, hnd⟩ : ∃ nd, nd = nodeF old d := ⟨_, rfl⟩
  rw [← hnd]
  have HJoin := Lib.hid (fun (W : World) (h : RoundOK W) => join_any d old false W h (by omega) (by omega))
  have HND := Lib.hid (show joinF d false old = nd by rw [hnd]; rfl)
  clear hnd ho hr
  generalize joinF d false old = jd at *
  have HR := Lib.hid hR
  have hr1 := hR.lt
  obtain ⟨A, c, rfl, hc, _⟩ := hv
  clear hR
  refine (callsIn_wide (n := 3)).1 (callsIn_of_wp_marks Tryz.func65 rfl trivial (wpIn_wide.2 ?_) rfl)
  simp only [Tryz.ntmps65, List.size_toArray, List.length_cons, List.length_nil, Nat.reduceAdd, Nat.reduceSub, Array.replicate_succ, Array.replicate_zero, List.push_toArray, List.append_toArray, List.nil_append, List.cons_append]
  go_wp2_with (go_at_call 112; refine HAll.out.mono ?_; rintro e W1 ⟨rfl, rfl⟩; rw [hall])
  refine (HIO.out _).mono ?_
  rintro e W1 ⟨rfl, rfl⟩
  go_wp2_with fail
  refine (HIR.out _).mono ?_
  rintro e W1 ⟨rfl, rfl⟩
  go_wp2_with fail
  refine wp_loop_rounds 2 ?_
  rw [rounds_succ]
  go_wp2_with (first
    | (go_at_call 113; refine HTake.out.mono ?_; rintro e W1 ⟨v', rfl, hv', hb1⟩; obtain ⟨A', c', rfl, _, _⟩ := hv'; have HB1 := Lib.hid hb1; have hz1 := hb1.size; clear hb1)
    | (go_at_call 73; refine (left_any 2 _ (by omega) (by omega)).mono ?_; rintro e W2 ⟨rfl, rfl⟩; rw [leftF_two])
    | (at_builtin; refine wpList_append_own _ rfl (.tmp 81) (.tmp 87) 199 rfl w.heap.size 203 is (.agg #[.string ⟨#[]⟩, .bool false]) 2 24 Tryz.underlying199 his hzs0 hzs1 hzs2 rfl (by decide) (.slice none 0 0) 0 [] rfl (World.ownsRow_nil _ _ _ _) ⟨W1.heap.size, 0, none⟩ 1 1 [.string d, .bool false] rfl rfl (cell_two_new _ _ _ _) ?_ ?_ ?_ ?_ ?_; (simp [Value.oneCell']); (unfold maxLen; omega); omega; (rw [World.size_alloc]; omega); intro wv2 W2 ho2 hg2 _; have hb2 := Lib.hid ((HB1.out.alloc hz1 _).grown hg2 (by rw [World.size_alloc]; omega) (fun k e => by cases e)); obtain ⟨g, cg, hg, hgb, _⟩ := ho2.form (by omega); subst hg; have HO2 := Lib.hid ho2; clear ho2 hg2))
  have hgl : g < W2.heap.size := (HO2.out.lt g rfl).2
  have hcg0 : W2.cell? ⟨g, 0, none⟩ = some (.string d) := HO2.out.cells (g := g) rfl 0 _ rfl
  have hcg1 : W2.cell? ⟨g, 1, none⟩ = some (.bool false) := HO2.out.cells (g := g) rfl 1 _ rfl
  have hz2 := hb2.out.size
  have hR2 : RoundOK W2 := HR.out.below hb2.out
  rw [rounds_succ]
  go_wp2_with (go_at_call 114; refine (backS_any _ _ _ _).mono ?_; rintro e W4 ⟨rfl, rfl⟩)
  have hsz : (((W2.alloc (.cells #[.string old] 9)).alloc (.cells #[.string old] 9)).alloc (.cells #[.slice (some ⟨g, 0, none⟩) 1 cg] 199)).heap.size = W2.heap.size + 3 := by simp
  refine (wpIn_wide (n := 3)).1 ?_
  refine' wpIn_once_box (by omega) (gf := 169) (lb := #[.pointer (some ⟨W2.heap.size + 2, 0, none⟩)]) (by simp [Act.eval]) (enters_of Tryz.func169 (by kernel_rfl) rfl)
    (backS1_once 2 (by omega) (W2.heap.size + 2) g cg d false _ (by have h := cell_new1 ((W2.alloc (.cells #[.string old] 9)).alloc (.cells #[.string old] 9)) (.slice (some ⟨g, 0, none⟩) 1 cg) 199; rw [World.size_alloc, World.size_alloc] at h; exact h) (cell_al (cell_al (cell_al hcg0 _) _) _) (cell_al (cell_al (cell_al hcg1 _) _) _)) rfl
    (fun W => ((Blk W W2.heap.size 9 #[.string old] ∧ Blk W (W2.heap.size + 1) 9 #[.string old]) ∧ RoundOK W) ∧ Below w.heap.size w W) (fun W => (Blk W W2.heap.size 9 #[.string old] ∧ Blk W (W2.heap.size + 1) 9 #[.string jd]) ∧ Below w.heap.size w W)
    (OwnP.and (OwnP.and (OwnP.and OwnP.blk OwnP.blk) OwnP.round) (OwnP.below (Nat.le_refl _) (by omega))) (OwnP.and (OwnP.and OwnP.blk OwnP.blk) (OwnP.below (Nat.le_refl _) (by omega)))
    ⟨⟨⟨((Blk.new _ _ _).alloc _).alloc _, (Blk.new' _ _ _ (by simp)).alloc _⟩, (((hR2.below ((Below.refl _ _).alloc (Nat.le_refl _) _)).below ((Below.refl _ _).alloc (Nat.le_refl _) _)).below ((Below.refl _ _).alloc (Nat.le_refl _) _))⟩, ((hb2.out.alloc (by omega) _).alloc (by simp; omega) _).alloc (by simp; omega) _⟩
    203 #[.string d, .bool false] _ ?assign ?body ?done
  case assign =>
    intro l h W K hh hK
    gi_wp2
    rw [← hh]
    exact hK
  case body =>
    rintro l h W hszW hh hB ⟨⟨⟨hO1, hO⟩, hRo⟩, hb⟩
    have c0 : W.cell? ⟨W2.heap.size + 1, 0, none⟩ = some (.string old) := hO.cell 0
    have c1 : W.cell? ⟨h, 0, none⟩ = some (.string d) := hB.cell 0
    have c2 : W.cell? ⟨h, 1, none⟩ = some (.bool false) := hB.cell 1
    have HRo := Lib.hid hRo
    have HO := Lib.hid hO
    have HO1 := Lib.hid hO1
    have HBe := Lib.hid hb
    clear hRo hb hO hB hO1
    gi_wp2_with fail
    refine ⟨trivial, (CallsIn.inRound l (callsIn_wide.2 (HJoin.out W HRo.out))).mono ?_⟩
    rintro e W' ⟨rfl, hb'⟩
    have hB' := HO.out.below hb' HO.out.lt
    have c1 : W'.cell? ⟨W2.heap.size + 1, 0, none⟩ = some (.string old) := hB'.cell 0
    have f1 : W'.frozen? ⟨W2.heap.size + 1, 0, none⟩ = false := hB'.frozen 0
    have HB' := Lib.hid hB'
    clear hB'
    gi_wp2
    exact ⟨(KeepsOthers.trans ⟨hb'.size, fun k o hk _ => (hb'.block k (Array.getElem?_eq_some_iff.1 hk).1).trans hk⟩ (KeepsOthers.setCell _ _ _)).from _, ⟨(HO1.out.below hb' HO1.out.lt).far (by show W2.heap.size ≠ W2.heap.size + 1; omega) _, HB'.out.set_ 0 _⟩, (HBe.out.trans (hb'.mono HBe.out.size)).setCell (by show w.heap.size ≤ W2.heap.size + 1; omega) _⟩
  case done =>
    rintro D W hD ⟨⟨hB1, hB⟩, hb⟩ hK
    have c0 : W.cell? ⟨W2.heap.size, 0, none⟩ = some (.string old) := hB1.cell 0
    have c1 : W.cell? ⟨W2.heap.size + 1, 0, none⟩ = some (.string jd) := hB.cell 0
    have hoo : (old.toList == old.toList) = true := by simp
    go_wp2
    refine ⟨by simp, .inl ⟨_, _, rfl, run_takeDeferred hK, ?_⟩⟩
    refine ⟨_, results_tmp rfl _ _ _, ?_, ?_⟩
    · rw [← HND.out]; rfl
    · exact hb.grown (grownBy_putObj' W D _) hb.size (fun k e => by injection e with e; simp at hD; omega)

end Go.Proofs.YtimoapjhepmehaaGreatDoor

/-
  package logtree: Root, Prove, Extension, Verify, Follows.
-/
namespace Go.Proofs.YtimoapjhepmehaaGreatDoor
open Go.RowKit
attribute [local go_sem ↓] Go.wp_at_zero Go.wp_at_succ

theorem Log0.named {w : World} {gl : Nat} {z s : ByteArray} (h : Log0 w gl z s) : ∃ gh, LogB w false gl gh none 0 0 1 #[] z s z s := by
  obtain ⟨gh, h1, h2⟩ := h
  exact ⟨gh, h1, h2⟩
theorem Log1.named {w : World} {gl : Nat} {z s0 c1 s1 : ByteArray} (h : Log1 w gl z s0 c1 s1) : ∃ gh A n c cap zs, LogB w true gl gh A n c cap zs z s0 c1 s1 := by
  obtain ⟨gh, A, n, c, cap, zs, h1, _, h2⟩ := h
  exact ⟨gh, A, n, c, cap, zs, h1, h2⟩
theorem leavesF_sizes (one : Bool) (z s0 c1 s1 : ByteArray) (hz : z.size = 32) (hs0 : s0.size = 32) (hc1 : c1.size = 32) (hs1 : s1.size = 32) : ∀ x ∈ leavesF one z s0 c1 s1, x.size ≤ 100000 := by
  intro x hx
  cases one <;> simp [leavesF] at hx
  · rw [hx, headEnc_size 0 z s0 hz hs0]; omega
  · rcases hx with rfl | rfl
    · rw [headEnc_size 0 z s0 hz hs0]; omega
    · rw [headEnc_size 1 c1 s1 hc1 hs1]; omega
theorem leavesF_len (one : Bool) (z s0 c1 s1 : ByteArray) : (leavesF one z s0 c1 s1).length ≤ 10000 := by cases one <;> simp [leavesF]

set_option maxHeartbeats 400000 in
theorem logRoot (one : Bool) (gl gh : Nat) (A : Option Addr) (m c cap : Nat) (zs : Array Value) (z s0 c1 s1 : ByteArray) (hz : z.size = 32) (hs0 : s0.size = 32) (hc1 : c1.size = 32) (hs1 : s1.size = 32) (w : World) (hL : LogB w one gl gh A m c cap zs z s0 c1 s1) (hR : RoundOK w) :
    Calls Tryz.prog 24 #[.pointer (some ⟨gl, 0, none⟩)] w fun e w' => e = .returned (.string (rootF (leavesF one z s0 c1 s1))) ∧ Below w.heap.size w w' := by
  have HLv := Lib.hid (leaves_any one gl gh A m c cap zs z s0 c1 s1 hz hs0 hc1 hs1 w hL)
  have HR := Lib.hid hR
  have HSz := Lib.hid (leavesF_sizes one z s0 c1 s1 hz hs0 hc1 hs1)
  have HLn := Lib.hid (leavesF_len one z s0 c1 s1)
  clear hL hR
  generalize leavesF one z s0 c1 s1 = es at *
  have HRt := Lib.hid (show ∀ (K : Nat) (v : Value) (W : World), Strs (fun b => K ≤ b) W v es → RoundOK W → Calls Tryz.prog 43 #[v] W fun e w' => e = .returned (.string (rootF es)) ∧ Below W.heap.size W w' from fun K v W h hR => root_any _ v es W h HLn.out HSz.out hR)
  generalize rootF es = r at *
  go_enter Tryz.func24, Tryz.ntmps24
  go_wp2_with fail
  refine HLv.out.mono ?_
  rintro e W1 ⟨v, rfl, hs1', hb1⟩
  have HS1 := Lib.hid hs1'
  have HB1 := Lib.hid hb1
  clear hs1' hb1
  go_wp2_with fail
  refine (HRt.out _ v W1 HS1.out (HR.out.below HB1.out)).mono ?_
  rintro e W2 ⟨rfl, hb2⟩
  go_wp2
  go_ret
  exact ⟨rfl, ext_call HB1.out hb2⟩

/-- a path handed back -/
def PathPost (w : World) (l : List ByteArray) (e : Ending) (w' : World) : Prop := ∃ A n c, e = .returned (.tuple #[.slice A n c, .int .i64 0]) ∧ Strs (fun b => w.heap.size ≤ b) w' (.slice A n c) l ∧ Below w.heap.size w w'
theorem strs_slice {S : Nat → Prop} {w : World} {v : Value} {l : List ByteArray} (h : Strs S w v l) : ∃ A n c, v = .slice A n c := by
  obtain ⟨A, c, rfl, _⟩ := h
  exact ⟨_, _, _, rfl⟩

set_option maxRecDepth 100000 in
set_option maxHeartbeats 1000000 in
theorem logProve (gl : Nat) (z s0 c1 s1 : ByteArray) (hz : z.size = 32) (hs0 : s0.size = 32) (hc1 : c1.size = 32) (hs1 : s1.size = 32) (w : World) (hL : Log1 w gl z s0 c1 s1) (hR : RoundOK w) :
    Calls Tryz.prog 23 #[.pointer (some ⟨gl, 0, none⟩), .int .i64 1] w (PathPost w [rootF [headEnc 0 z s0]]) := by
  have HL := Lib.hid hL
  have HR := Lib.hid hR
  have HSz := Lib.hid (show (headEnc 0 z s0).size ≤ 100000 by rw [headEnc_size 0 z s0 hz hs0]; omega)
  have HLv := Lib.hid (show ∀ W : World, Log1 W gl z s0 c1 s1 → Calls Tryz.prog 42 #[.pointer (some ⟨gl, 0, none⟩)] W fun e w' => ∃ v, e = .returned v ∧ Strs (fun b => W.heap.size ≤ b) w' v [headEnc 0 z s0, headEnc 1 c1 s1] ∧ Below W.heap.size W w' from
    fun W h => by obtain ⟨gh, A, n, c, cap, zs, hB⟩ := h.named; exact leaves_any true gl gh A n c cap zs z s0 c1 s1 hz hs0 hc1 hs1 W hB)
  clear hL hR
  generalize headEnc 0 z s0 = e0 at *
  generalize headEnc 1 c1 s1 = e1 at *
  have HPr := Lib.hid (show ∀ (K : Nat) (v : Value) (W : World), Strs (fun b => K ≤ b) W v [e0, e1] → RoundOK W → Calls Tryz.prog 41 #[v, .int .i64 1] W (ProofPost W [rootF [e0]]) from fun K v W h hR => proof2_any _ v e0 e1 W h HSz.out hR)
  generalize rootF [e0] = r at *
  go_enter Tryz.func23, Tryz.ntmps23
  go_wp2_with fail
  refine (logHead1 gl z s0 c1 s1 _ HL.out).mono ?_
  rintro e W1 ⟨rfl, hb1⟩
  have HB1 := Lib.hid (ext_alloc hb1 (.cells #[.int .i64 1, .string c1, .string s1] 52))
  clear hb1
  go_wp2_with fail
  refine (HLv.out _ (HL.out.ext HB1.out)).mono ?_
  rintro e W2 ⟨v, rfl, hs2, hb2⟩
  have HS2 := Lib.hid hs2
  have HB2 := Lib.hid (ext_call HB1.out hb2)
  clear hs2 hb2
  go_wp2_with fail
  refine (HPr.out _ v W2 HS2.out (HR.out.below HB2.out)).mono ?_
  rintro e W3 ⟨p, rfl, hs3, hb3⟩
  obtain ⟨A, n, c, rfl⟩ := strs_slice hs3
  have HS3 := Lib.hid (hs3.mono (S' := fun b => w.heap.size ≤ b) (fun b h _ => Nat.le_trans HB2.out.size h))
  have HB3 := Lib.hid (ext_call HB2.out hb3)
  clear hs3 hb3
  go_wp2
  go_ret2
  exact ⟨A, n, c, rfl, HS3.out, HB3.out⟩

set_option maxRecDepth 100000 in
set_option maxHeartbeats 1000000 in
theorem logExtension (gl : Nat) (z s0 c1 s1 : ByteArray) (hz : z.size = 32) (hs0 : s0.size = 32) (hc1 : c1.size = 32) (hs1 : s1.size = 32) (w : World) (hL : Log1 w gl z s0 c1 s1) (hR : RoundOK w) :
    Calls Tryz.prog 29 #[.pointer (some ⟨gl, 0, none⟩), .int .i64 0] w (PathPost w [rootF [headEnc 1 c1 s1]]) := by
  have HL := Lib.hid hL
  have HR := Lib.hid hR
  have HSz := Lib.hid (show (headEnc 1 c1 s1).size ≤ 100000 by rw [headEnc_size 1 c1 s1 hc1 hs1]; omega)
  have HLv := Lib.hid (show ∀ W : World, Log1 W gl z s0 c1 s1 → Calls Tryz.prog 42 #[.pointer (some ⟨gl, 0, none⟩)] W fun e w' => ∃ v, e = .returned v ∧ Strs (fun b => W.heap.size ≤ b) w' v [headEnc 0 z s0, headEnc 1 c1 s1] ∧ Below W.heap.size W w' from
    fun W h => by obtain ⟨gh, A, n, c, cap, zs, hB⟩ := h.named; exact leaves_any true gl gh A n c cap zs z s0 c1 s1 hz hs0 hc1 hs1 W hB)
  clear hL hR
  generalize headEnc 0 z s0 = e0 at *
  generalize headEnc 1 c1 s1 = e1 at *
  have HPr := Lib.hid (show ∀ (K : Nat) (v : Value) (W : World), Strs (fun b => K ≤ b) W v [e0, e1] → RoundOK W → Calls Tryz.prog 57 #[v, .int .i64 1] W (ProofPost W [rootF [e1]]) from fun K v W h hR => ext2_any _ v e0 e1 W h HSz.out hR)
  generalize rootF [e1] = r at *
  go_enter Tryz.func29, Tryz.ntmps29
  go_wp2_with fail
  refine (logHead0 gl z s0 c1 s1 _ HL.out).mono ?_
  rintro e W1 ⟨rfl, hb1⟩
  have HB1 := Lib.hid (ext_alloc hb1 (.cells #[.int .i64 0, .string z, .string s0] 52))
  clear hb1
  go_wp2_with fail
  refine (HLv.out _ (HL.out.ext HB1.out)).mono ?_
  rintro e W2 ⟨v, rfl, hs2, hb2⟩
  have HS2 := Lib.hid hs2
  have HB2 := Lib.hid (ext_call HB1.out hb2)
  clear hs2 hb2
  go_wp2_with fail
  refine (HPr.out _ v W2 HS2.out (HR.out.below HB2.out)).mono ?_
  rintro e W3 ⟨p, rfl, hs3, hb3⟩
  obtain ⟨A, n, c, rfl⟩ := strs_slice hs3
  have HS3 := Lib.hid (hs3.mono (S' := fun b => w.heap.size ≤ b) (fun b h _ => Nat.le_trans HB2.out.size h))
  have HB3 := Lib.hid (ext_call HB2.out hb3)
  clear hs3 hb3
  go_wp2
  go_ret2
  exact ⟨A, n, c, rfl, HS3.out, HB3.out⟩

set_option maxRecDepth 100000 in
set_option maxHeartbeats 1000000 in
theorem logVerify (S : Nat → Prop) (v : Value) (root c1 s1 d : ByteArray) (hc1 : c1.size = 32) (hs1 : s1.size = 32) (hd : d.size = 32) (w : World) (hv : Strs S w v [d]) (hR : RoundOK w) :
    Calls Tryz.prog 33 #[.string root, .int .i64 1, .agg #[.int .i64 1, .string c1, .string s1], v] w fun e w' => e = .returned (.bool ((nodeF d (leafF (headEnc 1 c1 s1))).toList == root.toList)) ∧ Below w.heap.size w w' := by
  have HEn := Lib.hid (fun W : World => logEncode 1 c1 s1 (by omega) hc1 hs1 W)
  have HSz := Lib.hid (show (headEnc 1 c1 s1).size ≤ 500000 by rw [headEnc_size 1 c1 s1 hc1 hs1]; omega)
  generalize headEnc 1 c1 s1 = e1 at *
  have HVe := Lib.hid (fun (W : World) (h : Below w.heap.size w W) => verify2_any S v root e1 d W (hv.below h) hd HSz.out (hR.below h))
  generalize ((nodeF d (leafF e1)).toList == root.toList) = r at *
  have HH := Lib.hid (Blk.new w 52 #[.int .i64 1, .string c1, .string s1])
  have c0 := HH.out.cell 0; have c1 := HH.out.cell 1; have c2 := HH.out.cell 2
  clear hv hR hd hc1 hs1
  go_enter Tryz.func33, Tryz.ntmps33
  go_wp2_with fail
  refine (HEn.out _).mono ?_
  rintro e W1 ⟨rfl, hb1⟩
  have HB1 := Lib.hid (ext_call (ext_new w _) hb1)
  have HH1 := Lib.hid (HH.out.ext hb1)
  clear hb1 c0 c1 c2
  have d0 := HH1.out.cell 0
  go_wp2_with fail
  refine (HVe.out _ HB1.out).mono ?_
  rintro e W2 ⟨rfl, hb2⟩
  go_wp2
  go_ret
  exact ⟨rfl, ext_call HB1.out hb2⟩

set_option maxRecDepth 100000 in
set_option maxHeartbeats 1000000 in
theorem logFollows (A : Option Addr) (k : Nat) (p : Nat) (hp : p ≤ 10000) (c s : ByteArray) (hc : c.size = 32) (hs : s.size = 32) (w : World) :
    Calls Tryz.prog 58 #[.agg #[.int .i64 p, .string c, .string s], .slice A 0 k, .agg #[.int .i64 p, .string c, .string s]] w fun e w' => e = .returned (.bool true) ∧ Below w.heap.size w w' := by
  have HV := Lib.hid (fun W : World => logValid p c s hp hc hs W)
  have HA0 := Lib.hid ((Blk.new w 52 #[.int .i64 p, .string c, .string s]).alloc (.cells #[.int .i64 p, .string c, .string s] 52))
  have HB0 := Lib.hid (Blk.new' (w.alloc (.cells #[.int .i64 p, .string c, .string s] 52)) 52 #[.int .i64 p, .string c, .string s] (b := w.heap.size + 1) (by simp))
  clear hc hs
  go_enter Tryz.func58, Tryz.ntmps58
  go_wp2
  go_step3
  go_wp2_with fail
  refine (HV.out _).mono ?_
  rintro e W1 ⟨rfl, hb1⟩
  have HA1 := Lib.hid (HA0.out.ext hb1)
  have HB1 := Lib.hid (HB0.out.ext hb1)
  have HE1 := Lib.hid (ext_call (ext_alloc (ext_new w _) _) hb1)
  have c0 := HB1.out.cell 0; have c1 := HB1.out.cell 1; have c2 := HB1.out.cell 2
  clear hb1
  go_wp2_with fail
  refine (HV.out _).mono ?_
  rintro e W2 ⟨rfl, hb2⟩
  have HA2 := Lib.hid (HA1.out.ext hb2)
  have HB2 := Lib.hid (HB1.out.ext hb2)
  have HE2 := Lib.hid (ext_call HE1.out hb2)
  clear hb2 c0 c1 c2
  have a0 := HA2.out.cell 0; have a1 := HA2.out.cell 1; have a2 := HA2.out.cell 2
  have b0 := HB2.out.cell 0; have b1 := HB2.out.cell 1; have b2 := HB2.out.cell 2
  go_wp2
  go_step3
  go_wp2
  refine wp_loop_rounds 1 ?_
  rw [rounds_succ]
  go_wp2
  rw [Exit.noGoto_ret]
  go_ret
  exact ⟨rfl, HE2.out⟩

end Go.Proofs.YtimoapjhepmehaaGreatDoor
