/-
  Part 9 of 17: the contracts that the proof of the last part uses; each stands under its own head.
-/
import Derived.Test.YtbgfmbmcabekeaaGreatDoorJ6
import Derived.Test.YtbgfmbmcabekeaaGreatDoorJ8
import Derived.Deep.Upon
import Derived.ArgAppend
import Derived.Test.YtbgfmbmcabekeaaGreatDoorJ4
import Derived.Test.YtbgfmbmcabekeaaGreatDoorJ2
import Derived.Test.YtbgfmbmcabekeaaGreatDoorJ1
import Derived.Laws.StructEq
import Derived.ChangeKeysEq
import Derived.Deep.RegionHeld3
import Derived.Deep.MidRow
import Derived.Test.YtbgfmbmcabekeaaGreatDoorJ5
import Derived.BigQuiet
import Derived.Deep.QuietTactic
set_option linter.unusedSimpArgs false
set_option linter.unusedVariables false

/-
  package origin: Tick, where the nodes 0 and 2 are known.
-/
namespace Go.Proofs.YtbgfmbmcabekeaaGreatDoor
open Go.RowKit Go.Shelf

/-- the beat to a node -/
def msgB (tn : Int) (np : Nat) (ep : Int) : Array Value := #[.int .i64 2, .int .i64 100, .int .i64 tn, .int .i64 0, .int .i64 ep, .int .i64 0, .int .i64 0, .int .i64 (np : Int), .int .i64 0, .int .i64 1, .int .i64 0, .int .i64 0, .int .i64 0, .int .i64 0, .int .i64 0, .int .i64 0, .int .i64 0, .int .i64 0, .slice none 0 0, .int .i64 0, .int .i64 0, .int .i64 0, .int .i64 0, .int .i64 0, .int .i64 0, .int .i64 0, .int .i64 0, .int .i64 0, .slice none 0 0, .int .i64 0, .int .i64 0, .int .i64 0, .int .i64 0, .int .i64 0, .int .i64 0, .int .i64 0, .slice none 0 0, .int .i64 0, .bool false, .int .i64 0, .int .i64 0, .int .i64 0, .slice none 0 0, .slice none 0 0, .int .i64 0, .slice none 0 0, .slice none 0 0]
theorem own_setboxI {W : World} {base n sz b i : Nat} {e t : TypeId} {v : Value} {xs : List Value} {cs : Array Value} (h : W.ownsRow base e sz v n xs) (hb : Blk W b t cs) (ht : t ≠ e) (u : Value) : (W.setCell ⟨b, i, none⟩ u).ownsRow base e sz v n xs :=
  h.kept (row := some b) ⟨rfl, rfl, rfl, by simp [World.setCell], fun k _ hk => Below.heap_setCell _ _ _ _ (fun e => hk (by simp [e]))⟩ (by
    rcases h.2 with ⟨rfl, _⟩ | ⟨g, cap, cur, rfl, _, hgg, _⟩
    · exact .inl rfl
    · refine .inr fun e1 => ?_
      have e2 : g = b := by simpa [Value.ownBlock] using e1
      subst e2
      unfold Blk at hb
      rw [hgg] at hb
      injection hb with hb
      injection hb with _ hb _
      exact ht hb.symm)
theorem own_blkNe {W : World} {base n sz g b cap : Nat} {e t : TypeId} {xs : List Value} {cs : Array Value} (h : W.ownsRow base e sz (.slice (some ⟨g, 0, none⟩) n cap) n xs) (hb : Blk W b t cs) (ht : t ≠ e) : b ≠ g := by
  rintro rfl
  rcases h.2 with ⟨h1, _⟩ | ⟨g, cap, cur, h1, _, hgg, _⟩
  · cases h1
  · injection h1 with h1
    injection h1 with h1
    injection h1 with h1
    subst h1
    unfold Blk at hb
    rw [hgg] at hb
    injection hb with hb
    injection hb with _ hb _
    exact ht hb.symm
theorem own_mono {W : World} {base base' n sz : Nat} {e : TypeId} {v : Value} {xs : List Value} (h : W.ownsRow base e sz v n xs) (hb : base' ≤ base) : W.ownsRow base' e sz v n xs :=
  ⟨h.1, h.2.elim .inl (fun ⟨g, cap, cur, h1, h2, h3⟩ => .inr ⟨g, cap, cur, h1, Nat.le_trans hb h2, h3⟩)⟩
theorem grown_refl (W : World) (row : Option Nat) : W.grownBy W row := ⟨rfl, rfl, rfl, Nat.le_refl _, fun _ _ _ => rfl⟩

/-- an append of messages: none, or those of a list that the callee owns -/
def MsgsAt (W : World) (base m : Nat) (x : Value) (r : List Value) : Prop := (m = 0 ∧ x = .slice none 0 0 ∧ r = []) ∨ (0 < m ∧ W.ownsRow base 57 47 x m r ∧ ∀ u ∈ r, u.oneCell' = true)
theorem app_msgs {W : World} {base base2 n m : Nat} {v x : Value} {xs r : List Value} (hown : W.ownsRow base 57 47 v n xs) (hx : MsgsAt W base2 m x r) (hnm : n + m ≤ 1000) (hbase : base ≤ W.heap.size) :
    AppOK Tryz.prog W 39 39 v x ∧ (appW Tryz.prog W 39 39 v x).ownsRow base 57 47 (appV Tryz.prog W 39 39 v x) (n + m) (xs ++ r) ∧ W.grownBy (appW Tryz.prog W 39 39 v x) v.ownBlock := by
  obtain ⟨im, him, hzm0, hzm1, hzm2⟩ := info_parts msg_info
  rcases hx with ⟨rfl, rfl, rfl⟩ | ⟨hm, hx, h1⟩
  · obtain ⟨A, c, hv, hc⟩ : ∃ A c, v = .slice A n c ∧ n ≤ c := by
      rcases hown.2 with ⟨rfl, rfl⟩ | ⟨g, cap, cur, rfl, _, _, hle, _⟩
      · exact ⟨_, _, rfl, Nat.le_refl _⟩
      · exact ⟨_, _, rfl, hle⟩
    have hr : (Builtin.append_ #[39, 39] 39 #[v, .slice none 0 0]).run Tryz.prog W = .ok v W := by
      rw [hv]
      exact run_append_nothing W 39 39 39 57 im Tryz.underlying39 him A n c hc (.slice none 0 0) ⟨.inl ⟨_, Tryz.underlying39⟩, fun _ => rfl, rfl, rfl, by simp, by simp⟩
    have h1 : appV Tryz.prog W 39 39 v (.slice none 0 0) = v := by unfold appV; rw [hr]
    have h2 : appW Tryz.prog W 39 39 v (.slice none 0 0) = W := by unfold appW; rw [hr]
    rw [h1, h2, List.append_nil, Nat.add_zero]
    exact ⟨⟨_, _, hr⟩, hown, grown_refl W _⟩
  · obtain ⟨m', rfl⟩ : ∃ m', m = m' + 1 := ⟨m - 1, by omega⟩
    obtain ⟨g, cap, rfl⟩ := ownsRow_succ hx
    refine app_own (P := Tryz.prog) (w := W) base 39 39 57 im _ 47 488 Tryz.underlying39 him hzm0 hzm1 hzm2 rfl (by decide) v n xs hown ⟨g, 0, none⟩ (m' + 1) cap r hx.1 (hx.cells (g := g) rfl) h1 (by unfold maxLen; omega) (by omega) hbase

/-- what Tick has gathered behind k nodes -/
def TickX (mm : Nat) (Rp : Int → List Value → Prop) (np : Nat) (ep : Int) (k n : Nat) (xs : List Value) : Prop :=
  (k = 0 ∧ n = 0 ∧ xs = []) ∨ ((1 ≤ k ∧ k ≤ 2) ∧ n = mm + 1 ∧ ∃ r0, Rp 0 r0 ∧ xs = r0 ++ (msgB 0 np ep).toList) ∨
  (3 ≤ k ∧ n = 2 * (mm + 1) ∧ ∃ r0 r2, Rp 0 r0 ∧ Rp 2 r2 ∧ xs = r0 ++ (msgB 0 np ep).toList ++ (r2 ++ (msgB 2 np ep).toList))

theorem app_exec2 {P : Program} {w : World} {ρ : Operand → Value} {d : Option Tmp} {s x : Operand} {t ty : TypeId} {p : String} {af : Array Edge} {g : Option (Nat × Bool)} (h : AppOK P w t ty (ρ s) (ρ x)) :
    (execOp ρ { dst := d, op := .call { callee := .builtin .append, args := #[s, x], argTypes := #[t, t] }, type := ty, pos := p, after := af, guard := g }).run P w = .ok (.value (appV P w t ty (ρ s) (ρ x))) (appW P w t ty (ρ s) (ρ x)) := app_exec h
theorem bs_exec2 {P : Program} {w : World} {ρ : Operand → Value} {d : Option Tmp} {ps : Array (Nat × Operand)} {len : Nat} {ty t : TypeId} {p : String} {af : Array Edge} {g : Option (Nat × Bool)} (h : BsAny P ty len (ps.map fun x => (x.1, ρ x.2))) :
    (execOp ρ { dst := d, op := .buildSlice ty len ps, type := t, pos := p, after := af, guard := g }).run P w = .ok (.value (.slice (some ⟨w.heap.size, 0, none⟩) len len)) (w.alloc (bsO P ty len (ps.map fun x => (x.1, ρ x.2)))) := bs_exec h
theorem bd_exec2 {P : Program} {w : World} {ρ : Operand → Value} {d : Option Tmp} {ps : Array (Nat × Operand)} {ty t : TypeId} {p : String} {af : Array Edge} {g : Option (Nat × Bool)} (h : BdOK P ty (ps.map fun x => (x.1, ρ x.2))) :
    (execOp ρ { dst := d, op := .build ty ps, type := t, pos := p, after := af, guard := g }).run P w = .ok (.value (bdV P ty (ps.map fun x => (x.1, ρ x.2)))) w := bd_exec h
attribute [local go_sem ↓] bd_exec bd_sem bs_exec bs_sem app_exec app_sem Go.wp_at_zero Go.wp_at_succ
attribute [local go_sem high] app_exec2 bs_exec2 bd_exec2
theorem OneRec.srv {W W' : World} {gs gl gst gn gp np cp nm cm no co : Nat} {lag ep sent : Int} {Am Ao : Option Addr} (h : OneRec W gl) (hs : SrvAt W gs gl gst gn gp np cp lag ep sent Am nm cm Ao no co) (k : ExtS (fun j => j = gs) W W') : OneRec W' gl := by
  obtain ⟨gr, c, g, d, v, h1, h2, h3, h4⟩ := h.at_
  have n1 : ¬ gl = gs := blkNe h1 hs (by decide)
  have n2 : ¬ gr = gs := by
    rintro rfl
    have h0 := (h3.cell 0).symm.trans (Blk.cell hs 0)
    cases h0
  have n3 : ¬ g = gs := by
    rintro rfl
    have h0 := (h4.cell 0).symm.trans (Blk.cell hs 0)
    cases h0
  exact ⟨gr, c, g, d, v, ExtS.blk h1 k n1, h2, ExtS.headB h3 k n2, ExtS.headB h4 k n3⟩
theorem ExtS.set1 (W : World) (g i : Nat) (u : Value) : ExtS (fun j => j = g) W (W.setCell ⟨g, i, none⟩ u) := ⟨rfl, rfl, rfl, by simp [World.setCell], fun k _ hn => Below.heap_setCell _ _ _ _ hn⟩

set_option maxRecDepth 100000 in
set_option maxHeartbeats 4000000 in
theorem tick_any (mm : Nat) (hmm : mm ≤ 1) (Rp : Int → List Value → Prop) (gs gl gst gn gp np cp gp' cp' base : Nat) (lag ep sent : Int) (Am : Option Addr) (nm cm : Nat) (Ao : Option Addr) (no co : Nat) (past : List Value) (T : Nat → Prop) (w W1 : World)
    (hs : SrvAt w gs gl gst gn gp np cp lag ep sent Am nm cm Ao no co) (ho : OneRec w gl)
    (d3 : AppOK Tryz.prog (w.alloc (.cells #[.int .i64 1] 3)) 28 28 (.slice (some ⟨gp, 0, none⟩) np cp) (.slice (some ⟨w.heap.size, 0, none⟩) 1 1))
    (hv : appV Tryz.prog (w.alloc (.cells #[.int .i64 1] 3)) 28 28 (.slice (some ⟨gp, 0, none⟩) np cp) (.slice (some ⟨w.heap.size, 0, none⟩) 1 1) = .slice (some ⟨gp', 0, none⟩) (np + 1) cp')
    (hW1 : appW Tryz.prog (w.alloc (.cells #[.int .i64 1] 3)) 28 28 (.slice (some ⟨gp, 0, none⟩) np cp) (.slice (some ⟨w.heap.size, 0, none⟩) 1 1) = W1)
    (hrow : W1.ownsRow base 3 1 (.slice (some ⟨gp', 0, none⟩) (np + 1) cp') (np + 1) past) (hx1 : ExtS T w W1) (hs1 : SrvAt W1 gs gl gst gn gp np cp lag ep sent Am nm cm Ao no co) (ho1 : OneRec W1 gl) (hm1 : MapI W1 gn [(0, .bool true), (2, .bool true)])
    (hnp : 1 ≤ np) (hnp2 : np ≤ 1000) (hsent : 0 ≤ sent) (hsent2 : sent ≤ 1000)
    (HC : ∀ (tn : Int) (W : World), W.cell? ⟨gs, 0, none⟩ = some (.pointer (some ⟨gl, 0, none⟩)) → OneRec W gl → Calls Tryz.prog 42 #[.pointer (some ⟨gs, 0, none⟩), .int .i64 tn, .int .i64 (sent + 1), .int .i64 1] W
      fun e w' => ∃ A n c r, e = .returned (.slice A n c) ∧ MsgsAt w' W.heap.size mm (.slice A n c) r ∧ Rp tn r ∧ Below W.heap.size W w') :
    Calls Tryz.prog 13 #[.pointer (some ⟨gs, 0, none⟩)] w fun e w' => ∃ g c xs, e = .returned (.slice (some ⟨g, 0, none⟩) (2 * (mm + 1)) c) ∧ w'.ownsRow w.heap.size 57 47 (.slice (some ⟨g, 0, none⟩) (2 * (mm + 1)) c) (2 * (mm + 1)) xs ∧
      (∃ r0 r2, Rp 0 r0 ∧ Rp 2 r2 ∧ xs = r0 ++ (msgB 0 np ep).toList ++ (r2 ++ (msgB 2 np ep).toList)) ∧ SrvAt w' gs gl gst gn gp' (np + 1) cp' lag ep 1 Am nm cm Ao no co ∧
      w'.ownsRow base 3 1 (.slice (some ⟨gp', 0, none⟩) (np + 1) cp') (np + 1) past ∧ ExtS (fun k => k = gs ∨ T k) w w' := by
  have HO := Lib.hid ho
  have HS1 := Lib.hid hs1
  have HCo := Lib.hid HC
  have s0 : w.cell? ⟨gs, 0, none⟩ = some (.pointer (some ⟨gl, 0, none⟩)) := Blk.cell hs 0
  have s2 : w.cell? ⟨gs, 2, none⟩ = some (.slice (some ⟨gp, 0, none⟩) np cp) := Blk.cell hs 2
  have sl := Blk.lt hs
  have hlow : decide ((1000000 : Int) ≤ (np : Int) - 1) = false := by simp; omega
  have v2 : W1.cell? ⟨gs, 2, none⟩ = some (.slice (some ⟨gp, 0, none⟩) np cp) := Blk.cell hs1 2
  have f2 : W1.frozen? ⟨gs, 2, none⟩ = false := Blk.frozen hs1 2
  have HROW := Lib.hid hrow
  have HX1 := Lib.hid hx1
  have HO1 := Lib.hid ho1
  have HM1 := Lib.hid hm1
  have hsz : w.heap.size ≤ W1.heap.size := hx1.size
  clear hs ho HC hrow hx1 hs1 ho1 hm1
  go_enter Tryz.func13, Tryz.ntmps13
  go_wp2_with (first | (go_at_call 14; refine (srvTime gs np cp _ (by omega) w s2).mono ?_; rintro e w' ⟨rfl, hw'⟩; subst w') | (go_at_call 16; refine (srvPosC gs gl w s0 HO.out).mono ?_; rintro e w' ⟨rfl, hw'⟩; subst w'))
  obtain ⟨V, hV⟩ : ∃ V, V = W1.setCell ⟨gs, 2, none⟩ (.slice (some ⟨gp', 0, none⟩) (np + 1) cp') := ⟨_, rfl⟩
  rw [← hV]
  have hxv : ExtS (fun j => j = gs) W1 V := by rw [hV]; exact ExtS.set1 _ _ _ _
  have HSV := Lib.hid (show SrvAt V gs gl gst gn gp' (np + 1) cp' lag ep sent Am nm cm Ao no co by rw [hV]; exact Blk.set_ HS1.out 2 _)
  have HOV := Lib.hid (HO1.out.srv HS1.out hxv)
  have HMV := Lib.hid (HM1.out.extS hxv (MapI.neBlk HM1.out HS1.out).symm)
  have HRV := Lib.hid (show V.ownsRow base 3 1 (.slice (some ⟨gp', 0, none⟩) (np + 1) cp') (np + 1) past by rw [hV]; exact own_setboxI HROW.out HS1.out (by decide) _)
  have HXV := Lib.hid ((HX1.out.mono (T := fun k => k = gs ∨ T k) (fun k h => .inr h)).trans (hxv.mono (fun k h => .inl h)))
  have hszV : W1.heap.size = V.heap.size := by rw [hV]; simp [World.setCell]
  clear hV hxv d3 hv hW1 v2 f2 s0 s2 sl
  obtain ⟨im, him, hzm0, hzm1, hzm2⟩ := info_parts msg_info
  obtain ⟨z0, hz0⟩ : ∃ z0, im.zero = some z0 := ⟨_, hzm0⟩
  have HZ0 := Lib.hid (show z0.cells.size = 47 by have h := hzm0.symm.trans hz0; injection h with h; rw [← h]; rfl)
  clear hzm0
  go_loopw [4, 5, 25] (fun v _ i W => ∃ (k n : Nat) (xs : List Value), k ≤ 24 ∧ i = .int .i64 k ∧ (∃ A c, v = .slice A n c) ∧ W.ownsRow V.heap.size 57 47 v n xs ∧ TickX mm Rp np ep k n xs ∧ Below V.heap.size V W) (fun _ _ i _ => 24 - (intOf i).toNat)
  case atStart => exact ⟨0, 0, [], Nat.zero_le _, rfl, ⟨_, _, rfl⟩, World.ownsRow_nil _ _ _ _, .inl ⟨rfl, rfl, rfl⟩, ext_refl V⟩
  case round =>
    obtain ⟨k, n, xs, hk, rfl, ⟨A, c, rfl⟩, hrow, hX, hE⟩ := hrel
    have HR := Lib.hid hrow
    have HT := Lib.hid hX
    have HE := Lib.hid hE
    clear hrow hX hE
    have hSr := HSV.out.ext HE.out
    have s0 : wr.cell? ⟨gs, 0, none⟩ = some (.pointer (some ⟨gl, 0, none⟩)) := Blk.cell hSr 0
    have s7 : wr.cell? ⟨gs, 7, none⟩ = some (.map (some gn)) := Blk.cell hSr 7
    have s6 : wr.cell? ⟨gs, 8, none⟩ = some (.int .i64 sent) := Blk.cell hSr 8
    have sl := Blk.lt hSr
    have hz : (zeroValue 4).run Tryz.prog wr = .ok (.bool false) wr := by kernel_rfl
    have hlk := lookup_I (P := Tryz.prog) (w := wr) Tryz.underlying99 Tryz.underlying3 (HMV.out.ext HE.out) (k : Int) hz
    have e2 : IntKind.i64.wrap ((k : Int) + 1) = (k : Int) + 1 := by rw [IntWalk.i64_in _ (by omega)]
    have e3 : IntKind.i64.wrap (sent + 1) = sent + 1 := by rw [IntWalk.i64_in _ (by omega)]
    clear hSr
    by_cases hlt : k < 24
    · have d1 : decide ((k : Int) < 24) = true := by simp; omega
      by_cases hin : k = 0 ∨ k = 2
      · have hget : getI [(0, .bool true), (2, .bool true)] (k : Int) = some (.bool true) := by rcases hin with rfl | rfl <;> rfl
        rw [hget, Option.getD_some] at hlk
        go_wp2_with fail
        refine (HCo.out (k : Int) wr s0 (HOV.out.ext HE.out)).mono ?_
        rintro e W2 ⟨A2, n2, c2, r, rfl, hx, hrp, hb2⟩
        have hn24 : n ≤ 4 := by
          rcases HT.out with ⟨_, h, _⟩ | ⟨_, h, _⟩ | ⟨_, h, _⟩ <;> omega
        have hzV : V.heap.size ≤ W2.heap.size := Nat.le_trans HE.out.size hb2.size
        obtain ⟨d4, hrow4, hgr4⟩ := app_msgs (own_below HR.out hb2) hx (by omega) hzV
        obtain ⟨A4, c4, hv4⟩ := own_shape hrow4
        rw [hv4] at hrow4
        generalize hW4 : appW Tryz.prog W2 39 39 (.slice A n c) (.slice A2 n2 c2) = W4 at hrow4 hgr4
        have hE2 : Below V.heap.size V W2 := ext_call HE.out hb2
        have hE4 : Below V.heap.size V W4 := hE2.grown hgr4 hzV (fun j e => (HR.out.lt j e).1)
        have HE4 := Lib.hid hE4
        have HR4 := Lib.hid hrow4
        have HRP := Lib.hid hrp
        have hzV4 : V.heap.size ≤ W4.heap.size := hE4.size
        have HS4 := Lib.hid (HSV.out.ext hE4)
        clear hx hrp hb2 hrow4 hgr4 hE2 hE4 hlk s0 s6 s7
        have s4 : W4.cell? ⟨gs, 4, none⟩ = some (.int .i64 ep) := Blk.cell HS4.out 4
        have s2 : W4.cell? ⟨gs, 2, none⟩ = some (.slice (some ⟨gp', 0, none⟩) (np + 1) cp') := Blk.cell HS4.out 2
        obtain ⟨oa, hoa⟩ : ∃ oa, oa = msgB (k : Int) np ep := ⟨_, rfl⟩
        have hos : oa.size = 47 := by rw [hoa]; rfl
        obtain ⟨d5, e5⟩ := bd_of W4 (P := Tryz.prog) (t := 57) (ps := #[(0, .int .i64 2), (1, .int .i64 100), (2, .int .i64 k), (9, .int .i64 1), (7, .int .i64 np), (4, .int .i64 ep)]) (cs := oa) (by rw [hoa]; kernel_rfl)
        obtain ⟨d6, e6⟩ := bs_of W4 (msg_slice oa hos)
        have hbn : MsgsAt (W4.alloc (.cells oa 57)).drew W4.heap.size 1 (.slice (some ⟨W4.heap.size, 0, none⟩) 1 1) oa.toList := .inr ⟨by omega, ⟨by simp [hos], .inr ⟨W4.heap.size, 1, oa, rfl, Nat.le_refl _, World.alloc_heap_new W4 _, by omega, by unfold maxLen; omega, by simp [hos], List.take_of_length_le (by simp [hos])⟩⟩, by rw [hoa]; simp [msgB, Value.oneCell']⟩
        have hro : (W4.alloc (.cells oa 57)).drew.ownsRow V.heap.size 57 47 (.slice A4 (n + mm) c4) (n + mm) (xs ++ r) := own_below HR4.out (ext_new W4 _).drew
        obtain ⟨d7, hrow7, hgr7⟩ := app_msgs hro hbn (by omega) (Nat.le_trans hzV4 (by simp))
        obtain ⟨g7, c7, hv7⟩ := ownsRow_succ hrow7
        rw [hv7] at hrow7
        generalize hW7 : appW Tryz.prog (W4.alloc (.cells oa 57)).drew 39 39 (.slice A4 (n + mm) c4) (.slice (some ⟨W4.heap.size, 0, none⟩) 1 1) = W7 at hrow7 hgr7
        have d7' : AppOK Tryz.prog (W4.drew.alloc (.cells oa 57)) 39 39 (.slice A4 (n + mm) c4) (.slice (some ⟨W4.heap.size, 0, none⟩) 1 1) := d7
        have hv7' : appV Tryz.prog (W4.drew.alloc (.cells oa 57)) 39 39 (.slice A4 (n + mm) c4) (.slice (some ⟨W4.heap.size, 0, none⟩) 1 1) = .slice (some ⟨g7, 0, none⟩) (n + mm + 1) c7 := hv7
        have hW7' : appW Tryz.prog (W4.drew.alloc (.cells oa 57)) 39 39 (.slice A4 (n + mm) c4) (.slice (some ⟨W4.heap.size, 0, none⟩) 1 1) = W7 := hW7
        have hE7 : Below V.heap.size V W7 := ((HE4.out.alloc hzV4 (.cells oa 57)).drew).grown hgr7 (Nat.le_trans hzV4 (by simp)) (fun j e => (HR4.out.lt j e).1)
        have HE7 := Lib.hid hE7
        have HR7 := Lib.hid hrow7
        have HOA := Lib.hid hoa
        unfold msgB at hoa
        rw [hoa] at d7 hv7 hW7 d7' hv7' hW7' d6 e6 e5
        have HTm := Lib.hid (fun (W : World) (h : W.cell? ⟨gs, 2, none⟩ = some (.slice (some ⟨gp', 0, none⟩) (np + 1) cp')) => show Calls Tryz.prog 14 #[.pointer (some ⟨gs, 0, none⟩)] W fun e w' => e = .returned (.int .i64 (np : Int)) ∧ W = w' by
          have h9 := srvTime gs (np + 1) cp' _ (by omega) W h
          rwa [show (((np + 1 : Nat) : Int) - 1) = (np : Int) by omega] at h9)
        clear hoa hbn hro hrow7 hgr7 hE7
        go_upto_region 11 with (fail)
        go_region_with (go_at_call 14; refine (HTm.out _ ?_).mono ?_; (exact s2); rintro e w' ⟨rfl, hw'⟩; subst w')
        all_goals
          go_wp2
          go_roundw
          case rel =>
            refine ⟨k + 1, n + mm + 1, xs ++ r ++ oa.toList, by omega, by go_num, ⟨_, _, rfl⟩, HR7.out, ?_, HE7.out⟩
            have hrp := HRP.out
            rw [HOA.out]
            rcases HT.out with ⟨rfl, rfl, rfl⟩ | ⟨⟨h1, h2⟩, h3, r0, h4, rfl⟩ | ⟨h1, h2, h3⟩
            · exact .inr (.inl ⟨⟨by omega, by omega⟩, by omega, r, hrp, by simp⟩)
            · obtain rfl : k = 2 := by omega
              exact .inr (.inr ⟨by omega, by omega, r0, r, h4, hrp, by simp⟩)
            · omega
          case measure => simp [intOf]; omega
      · have hget : getI [(0, .bool true), (2, .bool true)] (k : Int) = none := by
          unfold getI
          have h0 : ¬ ((0 : Int) = (k : Int)) := by omega
          have h2 : ¬ ((2 : Int) = (k : Int)) := by omega
          simp [h0, h2, getI]
        rw [hget, Option.getD_none] at hlk
        go_wp2
        go_roundw
        case rel =>
          refine ⟨k + 1, n, xs, by omega, by go_num, ⟨_, _, rfl⟩, HR.out, ?_, HE.out⟩
          rcases HT.out with ⟨h0, _⟩ | ⟨⟨h1, h2⟩, h3, h4⟩ | ⟨h1, h2, h3⟩
          · omega
          · exact .inr (.inl ⟨⟨by omega, by omega⟩, h3, h4⟩)
          · exact .inr (.inr ⟨by omega, h2, h3⟩)
        case measure => simp [intOf]; omega
    · obtain rfl : k = 24 := by omega
      have d1 : decide ((24 : Int) < 24) = false := by simp
      obtain ⟨r0, r2, hn, q0, q2, hxs⟩ : ∃ r0 r2, n = 2 * (mm + 1) ∧ Rp 0 r0 ∧ Rp 2 r2 ∧ xs = r0 ++ (msgB 0 np ep).toList ++ (r2 ++ (msgB 2 np ep).toList) := by
        rcases HT.out with ⟨h0, _⟩ | ⟨⟨_, h2⟩, _⟩ | ⟨_, h2, r0, r2, h3, h4, h5⟩
        · cases h0
        · omega
        · exact ⟨r0, r2, h2, h3, h4, h5⟩
      subst hn
      obtain ⟨g, cap, hvv⟩ := ownsRow_succ (k := 2 * mm + 1) HR.out
      injection hvv with hA _ hc
      subst hA hc
      have HQ := Lib.hid (show ∃ r0 r2, Rp 0 r0 ∧ Rp 2 r2 ∧ xs = r0 ++ (msgB 0 np ep).toList ++ (r2 ++ (msgB 2 np ep).toList) from ⟨r0, r2, q0, q2, hxs⟩)
      have HSr := Lib.hid (HSV.out.ext HE.out)
      have s8 : wr.frozen? ⟨gs, 8, none⟩ = false := Blk.frozen HSr.out 8
      clear q0 q2 hxs hlk
      go_wp2
      go_ret
      exact ⟨g, c, xs, rfl, own_mono (own_setboxI HR.out HSr.out (by decide) _) (by omega), HQ.out, Blk.set_ HSr.out 8 _, own_setboxI (own_below HRV.out HE.out) HSr.out (by decide) _,
        (HXV.out.trans (ExtS.of_ext HE.out)).trans ((ExtS.set1 _ _ _ _).mono (fun k h => .inl h))⟩

end Go.Proofs.YtbgfmbmcabekeaaGreatDoor

/-
  package origin: the first and the second Tick.
-/
namespace Go.Proofs.YtbgfmbmcabekeaaGreatDoor
open Go.RowKit Go.Shelf

theorem ExtS.trans2 {S T : Nat → Prop} {a b c : World} (h : ExtS S a b) (k : ExtS T b c) (hT : ∀ j, j < a.heap.size → T j → S j) : ExtS S a c :=
  ⟨k.os.trans h.os, k.tape.trans h.tape, k.output.trans h.output, Nat.le_trans h.size k.size, fun i hi hn => (k.block i (Nat.lt_of_lt_of_le hi h.size) (fun e => hn (hT i hi e))).trans (h.block i hi hn)⟩

set_option maxHeartbeats 1000000 in
theorem tick1 (gs gl gst gn gp : Nat) (lag ep : Int) (Am : Option Addr) (nm cm : Nat) (Ao : Option Addr) (no co : Nat) (w : World)
    (hs : SrvAt w gs gl gst gn gp 1 1 lag ep 0 Am nm cm Ao no co) (ho : OneRec w gl) (hp : Blk w gp 3 #[.int .i64 0]) (hm : MapI w gn [(0, .bool true), (2, .bool true)]) :
    Calls Tryz.prog 13 #[.pointer (some ⟨gs, 0, none⟩)] w fun e w' => ∃ g c xs x0 x2 gp' cp', e = .returned (.slice (some ⟨g, 0, none⟩) 4 c) ∧ w'.ownsRow w.heap.size 57 47 (.slice (some ⟨g, 0, none⟩) 4 c) 4 xs ∧
      xs = (msgR 0 x0).toList ++ (msgB 0 1 ep).toList ++ ((msgR 2 x2).toList ++ (msgB 2 1 ep).toList) ∧ SrvAt w' gs gl gst gn gp' 2 cp' lag ep 1 Am nm cm Ao no co ∧
      w'.ownsRow w.heap.size 3 1 (.slice (some ⟨gp', 0, none⟩) 2 cp') 2 [.int .i64 0, .int .i64 1] ∧ ExtS (fun k => k = gs) w w' := by
  obtain ⟨ii, hii, hzi0, hzi1, hzi2⟩ := info_parts int_info
  have hpa := hp.alloc (.cells #[.int .i64 1] 3)
  obtain ⟨v', W1, hr, hrow, hg⟩ := run_append_arg_grows (P := Tryz.prog) (w := w.alloc (.cells #[.int .i64 1] 3)) 28 28 3 ii (.int .i64 0) 1 8 Tryz.underlying28 hii hzi0 hzi1 hzi2 rfl (by decide)
    ⟨gp, 0, none⟩ 1 1 [.int .i64 0] rfl (fun j u hj => by
      match j, hj with
      | 0, hj => simp at hj; subst hj; exact hpa.cell 0
      | (q + 1), hj => simp at hj)
    ⟨w.heap.size, 0, none⟩ 1 1 [.int .i64 1] rfl (cell_one_new _ _ _) (by omega) (by unfold maxLen; omega) (by omega)
  obtain ⟨gp', cp', rfl⟩ := ownsRow_succ (k := 1) hrow
  have hv : appV Tryz.prog (w.alloc (.cells #[.int .i64 1] 3)) 28 28 (.slice (some ⟨gp, 0, none⟩) 1 1) (.slice (some ⟨w.heap.size, 0, none⟩) 1 1) = .slice (some ⟨gp', 0, none⟩) 2 cp' := by unfold appV; rw [hr]
  have hW : appW Tryz.prog (w.alloc (.cells #[.int .i64 1] 3)) 28 28 (.slice (some ⟨gp, 0, none⟩) 1 1) (.slice (some ⟨w.heap.size, 0, none⟩) 1 1) = W1 := by unfold appW; rw [hr]
  have hE1 : Below w.heap.size w W1 := (ext_new w (.cells #[.int .i64 1] 3)).grown hg (by simp) (fun k e => by cases e)
  refine (tick_any 1 (by omega) (fun tn r => ∃ x, r = (msgR tn x).toList) gs gl gst gn gp 1 1 gp' cp' _ lag ep 0 Am nm cm Ao no co _ (fun _ => False) w W1 hs ho ⟨_, _, hr⟩ hv hW hrow (ExtS.of_ext hE1) (hs.ext hE1) (ho.ext hE1) (hm.ext hE1) (by omega) (by omega) (by omega) (by omega) ?_).mono ?_
  · intro tn W h0 hl
    refine (copies1 gs gl tn W h0 hl).mono ?_
    rintro e w' ⟨v, x, rfl, h1, h2⟩
    obtain ⟨g, c, rfl⟩ := ownsRow_succ (k := 0) h1
    exact ⟨_, _, _, _, rfl, .inr ⟨by omega, h1, by simp [msgR, Value.oneCell']⟩, ⟨x, rfl⟩, h2⟩
  · rintro e w' ⟨g, c, xs, rfl, h1, ⟨r0, r2, ⟨x0, rfl⟩, ⟨x2, rfl⟩, h2⟩, h3, h4, h5⟩
    exact ⟨g, c, xs, x0, x2, gp', cp', rfl, h1, h2, h3, own_mono h4 (by simp), h5.mono (fun k e => e.elim id False.elim)⟩

set_option maxHeartbeats 1000000 in
theorem tick2 (gs gl gst gn gp0 gp cp B : Nat) (lag ep : Int) (np0 cp0 : Nat) (lag0 ep0 sent0 : Int) (Am : Option Addr) (nm cm : Nat) (Ao : Option Addr) (no co : Nat) (Am0 : Option Addr) (nm0 cm0 : Nat) (Ao0 : Option Addr) (no0 co0 : Nat) (wc w : World)
    (hsc : SrvAt wc gs gl gst gn gp0 np0 cp0 lag0 ep0 sent0 Am0 nm0 cm0 Ao0 no0 co0) (hoc : OneRec wc gl) (hmc : MapI wc gn [(0, .bool true), (2, .bool true)]) (hx : ExtS (fun k => k = gs) wc w) (hB : wc.heap.size ≤ B)
    (hs : SrvAt w gs gl gst gn gp 2 cp lag ep 1 Am nm cm Ao no co) (hp : w.ownsRow B 3 1 (.slice (some ⟨gp, 0, none⟩) 2 cp) 2 [.int .i64 0, .int .i64 1]) (hBw : B ≤ w.heap.size) :
    Calls Tryz.prog 13 #[.pointer (some ⟨gs, 0, none⟩)] w fun e w' => ∃ g c xs gp' cp', e = .returned (.slice (some ⟨g, 0, none⟩) 2 c) ∧ w'.ownsRow w.heap.size 57 47 (.slice (some ⟨g, 0, none⟩) 2 c) 2 xs ∧
      xs = (msgB 0 2 ep).toList ++ (msgB 2 2 ep).toList ∧ SrvAt w' gs gl gst gn gp' 3 cp' lag ep 1 Am nm cm Ao no co ∧
      w'.ownsRow B 3 1 (.slice (some ⟨gp', 0, none⟩) 3 cp') 3 [.int .i64 0, .int .i64 1, .int .i64 1] ∧ ExtS (fun k => k = gs) wc w' ∧ ExtS (fun k => k = gs ∨ k = gp) w w' := by
  obtain ⟨ii, hii, hzi0, hzi1, hzi2⟩ := info_parts int_info
  have hgn : gs ≠ gn := MapI.neBlk hmc hsc
  have hgp : gs ≠ gp := own_blkNe hp hs (by decide)
  have hgB : B ≤ gp := (hp.lt gp rfl).1
  obtain ⟨d3, hrow, hgr⟩ := app_own (P := Tryz.prog) (w := w.alloc (.cells #[.int .i64 1] 3)) B 28 28 3 ii (.int .i64 0) 1 8 Tryz.underlying28 hii hzi0 hzi1 hzi2 rfl (by decide)
    (.slice (some ⟨gp, 0, none⟩) 2 cp) 2 [.int .i64 0, .int .i64 1] (own_below hp (ext_new _ _)) ⟨w.heap.size, 0, none⟩ 1 1 [.int .i64 1] rfl (cell_one_new _ _ _) (by simp [Value.oneCell']) (by unfold maxLen; omega) (by omega) (by simp; omega)
  obtain ⟨gp', cp', hv⟩ := ownsRow_succ (k := 2) hrow
  rw [hv] at hrow
  generalize hW1 : appW Tryz.prog (w.alloc (.cells #[.int .i64 1] 3)) 28 28 (.slice (some ⟨gp, 0, none⟩) 2 cp) (.slice (some ⟨w.heap.size, 0, none⟩) 1 1) = W1 at hrow hgr
  have sl := Blk.lt hs
  have hx1 : ExtS (fun k => k = gp) w W1 := ⟨hgr.os, hgr.tape, hgr.output, Nat.le_trans (by simp) hgr.size, fun k hk hn => (hgr.block k (by simp; omega) (fun e => hn (Option.some.inj e))).trans (Below.heap_alloc w _ k hk)⟩
  have hc1 : ExtS (fun k => k = gs) wc W1 := hx.trans2 hx1 (fun j hj e => by omega)
  have hcw : ExtS (fun k => k = gs) wc w := hx
  refine (tick_any 0 (by omega) (fun tn r => r = []) gs gl gst gn gp 2 cp gp' cp' B lag ep 1 Am nm cm Ao no co _ (fun k => k = gp) w W1 hs (hoc.srv hsc hcw) d3 hv hW1 hrow hx1 (hs.extS hx1 hgp) (hoc.srv hsc hc1) (hmc.extS hc1 hgn.symm) (by omega) (by omega) (by omega) (by omega) ?_).mono ?_
  · intro tn W h0 hl
    refine (copies0 gs gl tn W h0 hl).mono ?_
    rintro e w' ⟨rfl, h2⟩
    exact ⟨_, _, _, _, rfl, .inl ⟨rfl, rfl, rfl⟩, rfl, h2⟩
  · rintro e w' ⟨g, c, xs, rfl, h1, ⟨r0, r2, rfl, rfl, h2⟩, h3, h4, h5⟩
    refine ⟨g, c, xs, gp', cp', rfl, h1, by simpa using h2, h3, h4, hx.trans2 h5 (fun j hj e => ?_), h5⟩
    rcases e with e | e
    · exact e
    · omega

end Go.Proofs.YtbgfmbmcabekeaaGreatDoor

/-
  package message: within, sideOf, header; the comparisons of records, entries, answers and rings at zero values.
-/
namespace Go.Proofs.YtbgfmbmcabekeaaGreatDoor
open Go.RowKit Go.Shelf

set_option maxHeartbeats 400000 in
theorem mwithin (n l h : Int) (w : World) : Calls Tryz.prog 46 #[.int .i64 n, .int .i64 l, .int .i64 h] w fun e w' => e = .returned (.bool (decide (l ≤ n) && decide (n ≤ h))) ∧ w = w' := by
  by_cases h0 : l ≤ n
  · have d0 : decide (l ≤ n) = true := by simpa using h0
    go_enter Tryz.func46, Tryz.ntmps46
    go_wp2
    go_ret
    exact ⟨by simp [d0], rfl⟩
  · have d0 : decide (l ≤ n) = false := by simpa using h0
    go_enter Tryz.func46, Tryz.ntmps46
    go_wp2
    go_ret
    exact ⟨by simp [d0], rfl⟩
theorem mw_yes (n l h : Int) (h0 : l ≤ n) (h1 : n ≤ h) (w : World) : Calls Tryz.prog 46 #[.int .i64 n, .int .i64 l, .int .i64 h] w fun e w' => e = .returned (.bool true) ∧ w = w' := by
  refine (mwithin n l h w).mono ?_
  rintro e w' ⟨rfl, rfl⟩
  exact ⟨by simp [h0, h1], rfl⟩
theorem mw_no (n l h : Int) (h0 : n < l ∨ h < n) (w : World) : Calls Tryz.prog 46 #[.int .i64 n, .int .i64 l, .int .i64 h] w fun e w' => e = .returned (.bool false) ∧ w = w' := by
  refine (mwithin n l h w).mono ?_
  rintro e w' ⟨rfl, rfl⟩
  refine ⟨?_, rfl⟩
  rcases h0 with h0 | h0
  · have : decide (l ≤ n) = false := by simp; omega
    simp [this]
  · have : decide (n ≤ h) = false := by simp; omega
    simp [this]
set_option maxHeartbeats 400000 in
theorem sideNode (n : Int) (h0 : 0 ≤ n) (h1 : n ≤ 23) (w : World) : Calls Tryz.prog 45 #[.int .i64 n] w fun e w' => e = .returned (.int .i64 1) ∧ w = w' := by
  go_enter Tryz.func45, Tryz.ntmps45
  go_wp2_with (go_at_call 46; refine (mw_yes n 0 23 h0 h1 w).mono ?_; rintro e w' ⟨rfl, rfl⟩)
  go_ret
  exact ⟨rfl, rfl⟩
set_option maxHeartbeats 400000 in
theorem sideOrigin (w : World) : Calls Tryz.prog 45 #[.int .i64 100] w fun e w' => e = .returned (.int .i64 2) ∧ w = w' := by
  go_enter Tryz.func45, Tryz.ntmps45
  go_wp2_with (go_at_call 46; refine (mw_no 100 0 23 (by omega) w).mono ?_; rintro e w' ⟨rfl, rfl⟩)
  go_ret
  exact ⟨rfl, rfl⟩

theorem eqHead (h0 h1 h2 h3 h4 h5 h6 h7 h8 h9 : Int) (W : World) : (Op.equalIn 10000 167 (.agg #[.int .i64 h0, .int .i64 h1, .int .i64 h2, .int .i64 h3, .int .i64 h4, .int .i64 h5, .int .i64 h6, .int .i64 h7, .int .i64 h8, .int .i64 h9]) (.agg #[.int .i64 h0, .int .i64 h1, .int .i64 h2, .int .i64 h3, .int .i64 h4, .int .i64 h5, .int .i64 h6, .int .i64 h7, .int .i64 h8, .int .i64 h9])).run Tryz.prog W = .ok true W := by
  obtain ⟨is, his, _, _, _⟩ := info_parts int_info
  have hc : Tryz.prog.cellsOf 3 = 1 := by kernel_rfl
  have hl : List.range 10 = [0, 1, 2, 3, 4, 5, 6, 7, 8, 9] := by decide
  have hp : ∀ (k : Nat) (a : Array Value) (n : Int), a[k]? = some (.int .i64 n) → (part 3 a k).run Tryz.prog W = .ok (.int .i64 n) W := fun k a n h => run_part_plain W (by kernel_rfl) h
  have he : ∀ n : Int, (Op.equalIn 9999 3 (.int .i64 n) (.int .i64 n)).run Tryz.prog W = .ok true W := fun n => by
    rw [show 9999 = 9998 + 1 from rfl, run_equalIn_int (k' := .i64) W 9998 _ _ _ _ Tryz.underlying3]; simp
  refine (run_equalIn_array (d := 9999) W #[.int .i64 h0, .int .i64 h1, .int .i64 h2, .int .i64 h3, .int .i64 h4, .int .i64 h5, .int .i64 h6, .int .i64 h7, .int .i64 h8, .int .i64 h9] #[.int .i64 h0, .int .i64 h1, .int .i64 h2, .int .i64 h3, .int .i64 h4, .int .i64 h5, .int .i64 h6, .int .i64 h7, .int .i64 h8, .int .i64 h9] Tryz.underlying167 his).trans ?_
  rw [hc, hl]
  simp [Op.eqItems, hp _ _ h0, hp _ _ h1, hp _ _ h2, hp _ _ h3, hp _ _ h4, hp _ _ h5, hp _ _ h6, hp _ _ h7, hp _ _ h8, hp _ _ h9, he]

set_option maxRecDepth 100000 in
set_option maxHeartbeats 1000000 in
theorem header_any (h0 h1 h2 h3 h4 h5 h6 h7 h8 h9 q0 q1 q2 q3 q4 q5 q6 : Int) (w : World) : Calls Tryz.prog 86 #[.agg #[.int .i64 h0, .int .i64 h1, .int .i64 h2, .int .i64 h3, .int .i64 h4, .int .i64 h5, .int .i64 h6, .int .i64 h7, .int .i64 h8, .int .i64 h9, .int .i64 q0, .int .i64 q1, .int .i64 q2, .int .i64 q3, .int .i64 q4, .int .i64 q5, .int .i64 q6, .int .i64 0, .slice none 0 0, .int .i64 0, .int .i64 0, .int .i64 0, .int .i64 0, .int .i64 0, .int .i64 0, .int .i64 0, .int .i64 0, .int .i64 0, .slice none 0 0, .int .i64 0, .int .i64 0, .int .i64 0, .int .i64 0, .int .i64 0, .int .i64 0, .int .i64 0, .slice none 0 0, .int .i64 0, .bool false, .int .i64 0, .int .i64 0, .int .i64 0, .slice none 0 0, .slice none 0 0, .int .i64 0, .slice none 0 0, .slice none 0 0]] w fun e w' => e = .returned (.agg #[.int .i64 h0, .int .i64 h1, .int .i64 h2, .int .i64 h3, .int .i64 h4, .int .i64 h5, .int .i64 h6, .int .i64 h7, .int .i64 h8, .int .i64 h9]) ∧ Below w.heap.size w w' := by
  go_enter Tryz.func86, Tryz.ntmps86
  go_wp2
  exact bodyPost_ret (v := .agg #[.int .i64 h0, .int .i64 h1, .int .i64 h2, .int .i64 h3, .int .i64 h4, .int .i64 h5, .int .i64 h6, .int .i64 h7, .int .i64 h8, .int .i64 h9]) (by simp [results, Tryz.results86, go_sem]) rfl ⟨rfl, ext_alloc (ext_new _ _) _⟩

end Go.Proofs.YtbgfmbmcabekeaaGreatDoor

/-
  package message: Same at equal messages of a header and a query.
-/
namespace Go.Proofs.YtbgfmbmcabekeaaGreatDoor
open Go.RowKit Go.Shelf

set_option maxHeartbeats 400000 in
theorem nilChanges (w : World) : Calls Tryz.prog 133 #[.slice none 0 0, .slice none 0 0] w fun e w' => e = .returned (.bool true) ∧ w = w' := by
  go_enter Tryz.func133, Tryz.ntmps133
  go_wp2
  refine wp_loop_rounds 1 ?_
  rw [rounds_succ]
  go_wp2
  go_ret
  exact ⟨rfl, rfl⟩
set_option maxHeartbeats 400000 in
theorem nilRows (w : World) : Calls Tryz.prog 137 #[.slice none 0 0, .slice none 0 0] w fun e w' => e = .returned (.bool true) ∧ w = w' := by
  go_enter Tryz.func137, Tryz.ntmps137
  go_wp2
  refine wp_loop_rounds 1 ?_
  rw [rounds_succ]
  go_wp2
  go_ret
  exact ⟨rfl, rfl⟩
set_option maxHeartbeats 400000 in
theorem nilMembers (w : World) : Calls Tryz.prog 139 #[.slice none 0 0, .slice none 0 0] w fun e w' => e = .returned (.bool true) ∧ w = w' := by
  go_enter Tryz.func139, Tryz.ntmps139
  go_wp2
  refine wp_loop_rounds 1 ?_
  rw [rounds_succ]
  go_wp2
  go_ret
  exact ⟨rfl, rfl⟩
set_option maxHeartbeats 400000 in
theorem nilNumbers (w : World) : Calls Tryz.prog 140 #[.slice none 0 0, .slice none 0 0] w fun e w' => e = .returned (.bool true) ∧ w = w' := by
  go_enter Tryz.func140, Tryz.ntmps140
  go_wp2
  refine wp_loop_rounds 1 ?_
  rw [rounds_succ]
  go_wp2
  go_ret
  exact ⟨rfl, rfl⟩
set_option maxHeartbeats 400000 in
theorem nilProofs (w : World) : Calls Tryz.prog 134 #[.slice none 0 0, .slice none 0 0, .func (.func 135) #[] #[]] w fun e w' => e = .returned (.bool true) ∧ w = w' := by
  go_enter Tryz.func134, Tryz.ntmps134
  go_wp2
  refine wp_loop_rounds 1 ?_
  rw [rounds_succ]
  go_wp2
  go_ret
  exact ⟨rfl, rfl⟩
set_option maxHeartbeats 400000 in
theorem nilRecs (w : World) : Calls Tryz.prog 138 #[.slice none 0 0, .slice none 0 0, .func (.func 87) #[] #[]] w fun e w' => e = .returned (.bool true) ∧ w = w' := by
  go_enter Tryz.func138, Tryz.ntmps138
  go_wp2
  refine wp_loop_rounds 1 ?_
  rw [rounds_succ]
  go_wp2
  go_ret
  exact ⟨rfl, rfl⟩

set_option maxHeartbeats 1000000 in
theorem recSame0 (w : World) : Calls Tryz.prog 87 #[.agg #[.int .i64 0, .slice none 0 0], .agg #[.int .i64 0, .slice none 0 0]] w fun e w' => e = .returned (.bool true) ∧ Below w.heap.size w w' := by
  go_enter Tryz.func87, Tryz.ntmps87
  go_wp2_with (go_at_call 133; refine (nilChanges _).mono ?_; rintro e w' ⟨rfl, rfl⟩)
  go_ret
  exact ⟨rfl, ext_alloc (ext_new _ _) _⟩
set_option maxHeartbeats 1000000 in
theorem ringSame0 (w : World) : Calls Tryz.prog 90 #[.agg #[.int .i64 0, .slice none 0 0, .slice none 0 0], .agg #[.int .i64 0, .slice none 0 0, .slice none 0 0]] w fun e w' => e = .returned (.bool true) ∧ Below w.heap.size w w' := by
  go_enter Tryz.func90, Tryz.ntmps90
  go_wp2_with (first | (go_at_call 139; refine (nilMembers _).mono ?_; rintro e w' ⟨rfl, rfl⟩) | (go_at_call 140; refine (nilNumbers _).mono ?_; rintro e w' ⟨rfl, rfl⟩))
  go_ret
  exact ⟨rfl, ext_alloc (ext_new _ _) _⟩
theorem qryEq (q0 q1 q2 q3 q4 q5 q6 : Int) (W : World) : (Op.equalIn 10000 44 (.agg #[.int .i64 q0, .int .i64 q1, .int .i64 q2, .int .i64 q3, .int .i64 q4, .int .i64 q5, .int .i64 q6]) (.agg #[.int .i64 q0, .int .i64 q1, .int .i64 q2, .int .i64 q3, .int .i64 q4, .int .i64 q5, .int .i64 q6])).run Tryz.prog W = .ok true W := by
  simp [go_sem]
set_option maxHeartbeats 1000000 in
theorem entSame0 (w : World) : Calls Tryz.prog 88 #[.agg #[.int .i64 0, .int .i64 0, .int .i64 0, .int .i64 0, .int .i64 0, .int .i64 0, .int .i64 0, .int .i64 0, .int .i64 0, .slice none 0 0], .agg #[.int .i64 0, .int .i64 0, .int .i64 0, .int .i64 0, .int .i64 0, .int .i64 0, .int .i64 0, .int .i64 0, .int .i64 0, .slice none 0 0]] w fun e w' => e = .returned (.bool true) ∧ Below w.heap.size w w' := by
  have hq := qryEq 0 0 0 0 0 0 0
  go_enter Tryz.func88, Tryz.ntmps88
  go_wp2_with (go_at_call 134; refine (nilProofs _).mono ?_; rintro e w' ⟨rfl, rfl⟩)
  go_ret
  exact ⟨rfl, ext_alloc (ext_new _ _) _⟩
set_option maxHeartbeats 1000000 in
theorem ansNums0 (w : World) : Calls Tryz.prog 136 #[.agg #[.int .i64 0, .int .i64 0, .int .i64 0, .int .i64 0, .int .i64 0, .int .i64 0, .int .i64 0, .slice none 0 0, .int .i64 0, .bool false, .int .i64 0, .int .i64 0, .int .i64 0, .slice none 0 0, .slice none 0 0]] w fun e w' => e = .returned (.agg #[.int .i64 0, .int .i64 0, .int .i64 0, .int .i64 0]) ∧ Below w.heap.size w w' := by
  go_enter Tryz.func136, Tryz.ntmps136
  go_wp2
  exact bodyPost_ret (v := .agg #[.int .i64 0, .int .i64 0, .int .i64 0, .int .i64 0]) (by simp [results, Tryz.results136, go_sem]) rfl ⟨rfl, ext_alloc (ext_new _ _) _⟩
theorem eqFour (W : World) : (Op.equalIn 10000 223 (.agg #[.int .i64 0, .int .i64 0, .int .i64 0, .int .i64 0]) (.agg #[.int .i64 0, .int .i64 0, .int .i64 0, .int .i64 0])).run Tryz.prog W = .ok true W := by kernel_rfl
theorem ansKeep {X W : World} {ba bb : Nat} (h : Blk X ba 55 #[.int .i64 0, .int .i64 0, .int .i64 0, .int .i64 0, .int .i64 0, .int .i64 0, .int .i64 0, .slice none 0 0, .int .i64 0, .bool false, .int .i64 0, .int .i64 0, .int .i64 0, .slice none 0 0, .slice none 0 0] ∧ Blk X bb 55 #[.int .i64 0, .int .i64 0, .int .i64 0, .int .i64 0, .int .i64 0, .int .i64 0, .int .i64 0, .slice none 0 0, .int .i64 0, .bool false, .int .i64 0, .int .i64 0, .int .i64 0, .slice none 0 0, .slice none 0 0]) (k : Below X.heap.size X W) : W.cell? ⟨ba, 0, none⟩ = some (.int .i64 0) ∧ W.cell? ⟨ba, 1, none⟩ = some (.int .i64 0) ∧ W.cell? ⟨ba, 2, none⟩ = some (.int .i64 0) ∧ W.cell? ⟨ba, 3, none⟩ = some (.int .i64 0) ∧ W.cell? ⟨ba, 4, none⟩ = some (.int .i64 0) ∧ W.cell? ⟨ba, 5, none⟩ = some (.int .i64 0) ∧ W.cell? ⟨ba, 6, none⟩ = some (.int .i64 0) ∧ W.cell? ⟨ba, 7, none⟩ = some (.slice none 0 0) ∧ W.cell? ⟨ba, 8, none⟩ = some (.int .i64 0) ∧ W.cell? ⟨ba, 9, none⟩ = some (.bool false) ∧ W.cell? ⟨ba, 10, none⟩ = some (.int .i64 0) ∧ W.cell? ⟨ba, 11, none⟩ = some (.int .i64 0) ∧ W.cell? ⟨ba, 12, none⟩ = some (.int .i64 0) ∧ W.cell? ⟨ba, 13, none⟩ = some (.slice none 0 0) ∧ W.cell? ⟨ba, 14, none⟩ = some (.slice none 0 0) ∧ W.cell? ⟨bb, 0, none⟩ = some (.int .i64 0) ∧ W.cell? ⟨bb, 1, none⟩ = some (.int .i64 0) ∧ W.cell? ⟨bb, 2, none⟩ = some (.int .i64 0) ∧ W.cell? ⟨bb, 3, none⟩ = some (.int .i64 0) ∧ W.cell? ⟨bb, 4, none⟩ = some (.int .i64 0) ∧ W.cell? ⟨bb, 5, none⟩ = some (.int .i64 0) ∧ W.cell? ⟨bb, 6, none⟩ = some (.int .i64 0) ∧ W.cell? ⟨bb, 7, none⟩ = some (.slice none 0 0) ∧ W.cell? ⟨bb, 8, none⟩ = some (.int .i64 0) ∧ W.cell? ⟨bb, 9, none⟩ = some (.bool false) ∧ W.cell? ⟨bb, 10, none⟩ = some (.int .i64 0) ∧ W.cell? ⟨bb, 11, none⟩ = some (.int .i64 0) ∧ W.cell? ⟨bb, 12, none⟩ = some (.int .i64 0) ∧ W.cell? ⟨bb, 13, none⟩ = some (.slice none 0 0) ∧ W.cell? ⟨bb, 14, none⟩ = some (.slice none 0 0) ∧ Below X.heap.size X W :=
  ⟨(h.1.ext k).cell 0, (h.1.ext k).cell 1, (h.1.ext k).cell 2, (h.1.ext k).cell 3, (h.1.ext k).cell 4, (h.1.ext k).cell 5, (h.1.ext k).cell 6, (h.1.ext k).cell 7, (h.1.ext k).cell 8, (h.1.ext k).cell 9, (h.1.ext k).cell 10, (h.1.ext k).cell 11, (h.1.ext k).cell 12, (h.1.ext k).cell 13, (h.1.ext k).cell 14, (h.2.ext k).cell 0, (h.2.ext k).cell 1, (h.2.ext k).cell 2, (h.2.ext k).cell 3, (h.2.ext k).cell 4, (h.2.ext k).cell 5, (h.2.ext k).cell 6, (h.2.ext k).cell 7, (h.2.ext k).cell 8, (h.2.ext k).cell 9, (h.2.ext k).cell 10, (h.2.ext k).cell 11, (h.2.ext k).cell 12, (h.2.ext k).cell 13, (h.2.ext k).cell 14, k⟩
theorem ansKeepB {X W : World} {ba bb : Nat} (h : W.cell? ⟨ba, 0, none⟩ = some (.int .i64 0) ∧ W.cell? ⟨ba, 1, none⟩ = some (.int .i64 0) ∧ W.cell? ⟨ba, 2, none⟩ = some (.int .i64 0) ∧ W.cell? ⟨ba, 3, none⟩ = some (.int .i64 0) ∧ W.cell? ⟨ba, 4, none⟩ = some (.int .i64 0) ∧ W.cell? ⟨ba, 5, none⟩ = some (.int .i64 0) ∧ W.cell? ⟨ba, 6, none⟩ = some (.int .i64 0) ∧ W.cell? ⟨ba, 7, none⟩ = some (.slice none 0 0) ∧ W.cell? ⟨ba, 8, none⟩ = some (.int .i64 0) ∧ W.cell? ⟨ba, 9, none⟩ = some (.bool false) ∧ W.cell? ⟨ba, 10, none⟩ = some (.int .i64 0) ∧ W.cell? ⟨ba, 11, none⟩ = some (.int .i64 0) ∧ W.cell? ⟨ba, 12, none⟩ = some (.int .i64 0) ∧ W.cell? ⟨ba, 13, none⟩ = some (.slice none 0 0) ∧ W.cell? ⟨ba, 14, none⟩ = some (.slice none 0 0) ∧ W.cell? ⟨bb, 0, none⟩ = some (.int .i64 0) ∧ W.cell? ⟨bb, 1, none⟩ = some (.int .i64 0) ∧ W.cell? ⟨bb, 2, none⟩ = some (.int .i64 0) ∧ W.cell? ⟨bb, 3, none⟩ = some (.int .i64 0) ∧ W.cell? ⟨bb, 4, none⟩ = some (.int .i64 0) ∧ W.cell? ⟨bb, 5, none⟩ = some (.int .i64 0) ∧ W.cell? ⟨bb, 6, none⟩ = some (.int .i64 0) ∧ W.cell? ⟨bb, 7, none⟩ = some (.slice none 0 0) ∧ W.cell? ⟨bb, 8, none⟩ = some (.int .i64 0) ∧ W.cell? ⟨bb, 9, none⟩ = some (.bool false) ∧ W.cell? ⟨bb, 10, none⟩ = some (.int .i64 0) ∧ W.cell? ⟨bb, 11, none⟩ = some (.int .i64 0) ∧ W.cell? ⟨bb, 12, none⟩ = some (.int .i64 0) ∧ W.cell? ⟨bb, 13, none⟩ = some (.slice none 0 0) ∧ W.cell? ⟨bb, 14, none⟩ = some (.slice none 0 0) ∧ Below X.heap.size X W) : Below X.heap.size X W := h.2.2.2.2.2.2.2.2.2.2.2.2.2.2.2.2.2.2.2.2.2.2.2.2.2.2.2.2.2.2

set_option maxRecDepth 100000 in
set_option maxHeartbeats 2000000 in
theorem ansSame0 (w : World) : Calls Tryz.prog 89 #[.agg #[.int .i64 0, .int .i64 0, .int .i64 0, .int .i64 0, .int .i64 0, .int .i64 0, .int .i64 0, .slice none 0 0, .int .i64 0, .bool false, .int .i64 0, .int .i64 0, .int .i64 0, .slice none 0 0, .slice none 0 0], .agg #[.int .i64 0, .int .i64 0, .int .i64 0, .int .i64 0, .int .i64 0, .int .i64 0, .int .i64 0, .slice none 0 0, .int .i64 0, .bool false, .int .i64 0, .int .i64 0, .int .i64 0, .slice none 0 0, .slice none 0 0]] w fun e w' => e = .returned (.bool true) ∧ Below w.heap.size w w' := by
  obtain ⟨X, hX⟩ : ∃ X, X = (w.alloc (.cells #[.int .i64 0, .int .i64 0, .int .i64 0, .int .i64 0, .int .i64 0, .int .i64 0, .int .i64 0, .slice none 0 0, .int .i64 0, .bool false, .int .i64 0, .int .i64 0, .int .i64 0, .slice none 0 0, .slice none 0 0] 55)).alloc (.cells #[.int .i64 0, .int .i64 0, .int .i64 0, .int .i64 0, .int .i64 0, .int .i64 0, .int .i64 0, .slice none 0 0, .int .i64 0, .bool false, .int .i64 0, .int .i64 0, .int .i64 0, .slice none 0 0, .slice none 0 0] 55) := ⟨_, rfl⟩
  have hE : Below w.heap.size w X := by rw [hX]; exact ext_alloc (ext_new _ _) _
  have HBB := Lib.hid (show Blk X w.heap.size 55 #[.int .i64 0, .int .i64 0, .int .i64 0, .int .i64 0, .int .i64 0, .int .i64 0, .int .i64 0, .slice none 0 0, .int .i64 0, .bool false, .int .i64 0, .int .i64 0, .int .i64 0, .slice none 0 0, .slice none 0 0] ∧ Blk X (w.heap.size + 1) 55 #[.int .i64 0, .int .i64 0, .int .i64 0, .int .i64 0, .int .i64 0, .int .i64 0, .int .i64 0, .slice none 0 0, .int .i64 0, .bool false, .int .i64 0, .int .i64 0, .int .i64 0, .slice none 0 0, .slice none 0 0] by rw [hX]; exact ⟨(Blk.new _ _ _).alloc _, Blk.new' _ _ _ (by simp)⟩)
  have HE := Lib.hid hE
  have HX := Lib.hid hX
  clear hE hX
  have hq := qryEq 0 0 0 0 0 0 0
  have h4 := eqFour
  go_enter Tryz.func89, Tryz.ntmps89
  go_upto_region 1 with (fail)
  rw [← HX.out]
  obtain ⟨c0, c1, c2, c3, c4, c5, c6, c7, c8, c9, c10, c11, c12, c13, c14, d0, d1, d2, d3, d4, d5, d6, d7, d8, d9, d10, d11, d12, d13, d14, _⟩ := ansKeep HBB.out (ext_refl X)
  go_wp2_with (go_at_call 137; refine (nilRows _).mono ?_; rintro e w' ⟨rfl, rfl⟩)
  go_region_held3 (fun w' => w'.cell? ⟨w.heap.size, 0, none⟩ = some (.int .i64 0) ∧ w'.cell? ⟨w.heap.size, 1, none⟩ = some (.int .i64 0) ∧ w'.cell? ⟨w.heap.size, 2, none⟩ = some (.int .i64 0) ∧ w'.cell? ⟨w.heap.size, 3, none⟩ = some (.int .i64 0) ∧ w'.cell? ⟨w.heap.size, 4, none⟩ = some (.int .i64 0) ∧ w'.cell? ⟨w.heap.size, 5, none⟩ = some (.int .i64 0) ∧ w'.cell? ⟨w.heap.size, 6, none⟩ = some (.int .i64 0) ∧ w'.cell? ⟨w.heap.size, 7, none⟩ = some (.slice none 0 0) ∧ w'.cell? ⟨w.heap.size, 8, none⟩ = some (.int .i64 0) ∧ w'.cell? ⟨w.heap.size, 9, none⟩ = some (.bool false) ∧ w'.cell? ⟨w.heap.size, 10, none⟩ = some (.int .i64 0) ∧ w'.cell? ⟨w.heap.size, 11, none⟩ = some (.int .i64 0) ∧ w'.cell? ⟨w.heap.size, 12, none⟩ = some (.int .i64 0) ∧ w'.cell? ⟨w.heap.size, 13, none⟩ = some (.slice none 0 0) ∧ w'.cell? ⟨w.heap.size, 14, none⟩ = some (.slice none 0 0) ∧ w'.cell? ⟨w.heap.size + 1, 0, none⟩ = some (.int .i64 0) ∧ w'.cell? ⟨w.heap.size + 1, 1, none⟩ = some (.int .i64 0) ∧ w'.cell? ⟨w.heap.size + 1, 2, none⟩ = some (.int .i64 0) ∧ w'.cell? ⟨w.heap.size + 1, 3, none⟩ = some (.int .i64 0) ∧ w'.cell? ⟨w.heap.size + 1, 4, none⟩ = some (.int .i64 0) ∧ w'.cell? ⟨w.heap.size + 1, 5, none⟩ = some (.int .i64 0) ∧ w'.cell? ⟨w.heap.size + 1, 6, none⟩ = some (.int .i64 0) ∧ w'.cell? ⟨w.heap.size + 1, 7, none⟩ = some (.slice none 0 0) ∧ w'.cell? ⟨w.heap.size + 1, 8, none⟩ = some (.int .i64 0) ∧ w'.cell? ⟨w.heap.size + 1, 9, none⟩ = some (.bool false) ∧ w'.cell? ⟨w.heap.size + 1, 10, none⟩ = some (.int .i64 0) ∧ w'.cell? ⟨w.heap.size + 1, 11, none⟩ = some (.int .i64 0) ∧ w'.cell? ⟨w.heap.size + 1, 12, none⟩ = some (.int .i64 0) ∧ w'.cell? ⟨w.heap.size + 1, 13, none⟩ = some (.slice none 0 0) ∧ w'.cell? ⟨w.heap.size + 1, 14, none⟩ = some (.slice none 0 0) ∧ Below X.heap.size X w')
    (first | with_reducible assumption | exact ansKeep HBB.out (by repeat (first | with_reducible refine ext_alloc ?_ _ | with_reducible refine Below.drew ?_ | with_reducible refine ext_drewN ?_ _ | with_reducible assumption | with_reducible exact ext_refl _)))
    (first
      | (go_at_call 136; (with_reducible refine (ansNums0 _).mono ?_); rintro e Z ⟨rfl, hb'⟩; have hXZ := ext_call (ansKeepB (by assumption)) hb'; clear hb')
      | (go_at_call 134; (with_reducible refine (nilProofs _).mono ?_); rintro e Z ⟨rfl, rfl⟩)
      | (go_at_call 138; (with_reducible refine (nilRecs _).mono ?_); rintro e Z ⟨rfl, rfl⟩))
  all_goals
    have HZ := Lib.hid (ext_call HE.out (by first | exact hXZ | exact ansKeepB (by assumption)))
    go_wp2
    go_ret
    exact ⟨rfl, HZ.out⟩

end Go.Proofs.YtbgfmbmcabekeaaGreatDoor

/-
  Loads of whole structs as a rule for the walk. Package message: Same at equal messages.
-/
namespace Go.Proofs.YtbgfmbmcabekeaaGreatDoor
open Go.RowKit Go.Shelf

/-- a load that runs -/
def LdOK (P : Program) (w : World) (p : Value) (ty : TypeId) : Prop := ∃ v, (Instr.loadAt ty p).run P w = .ok v w
def ldV (P : Program) (w : World) (p : Value) (ty : TypeId) : Value := match (Instr.loadAt ty p).run P w with | .ok v _ => v | _ => undef
theorem ld_run {P : Program} {w : World} {p : Value} {ty : TypeId} (h : LdOK P w p ty) : (Instr.loadAt ty p).run P w = .ok (ldV P w p ty) w := by
  obtain ⟨v, h⟩ := h
  unfold ldV
  rw [h]
theorem ld_exec {P : Program} {w : World} {ρ : Operand → Value} {d : Option Tmp} {x : Operand} {ty t : TypeId} {p : String} {af : Array Edge} {g : Option (Nat × Bool)} (h : LdOK P w (ρ x) ty) :
    (execOp ρ { dst := d, op := .load ty x, type := t, pos := p, after := af, guard := g }).run P w = .ok (.value (ldV P w (ρ x) ty)) w := by
  have h' := ld_run h
  unfold execOp
  simp only [Sem.run_bind, Sem.run_pure, Result.andThen_ok, h']
theorem ld_sem {P : Program} {w : World} {ro : Option Nat} {ρ : Operand → Value} {d : Option Tmp} {x : Operand} {ty t : TypeId} {p : String} {af : Array Edge} {g : Option (Nat × Bool)} (h : LdOK P w (ρ x) ty) :
    (Oper.semAt ro ρ { dst := d, op := .load ty x, type := t, pos := p, after := af, guard := g }).run P w = .ok (.value (ldV P w (ρ x) ty)) w := by
  rw [Oper.semAt_eq ro ρ _ (by intro c h; cases h)]
  exact ld_exec h
theorem ld_blk {P : Program} {W : World} {b o e : Nat} {t ty : TypeId} {va cs : Array Value} {d : TypeDesc} (h : Blk W b t va) (hcs : va.extract o e = cs) (hu : P.underlying ty = some d) (hd : d.isRow = true) (hi : (P.info? ty).map (·.size) = some cs.size) :
    LdOK P W (.pointer (some ⟨b, o, none⟩)) ty ∧ ldV P W (.pointer (some ⟨b, o, none⟩)) ty = .agg cs := by
  have hr : W.rangeAt b o cs.toList := fun j v hv => by
    rw [h.cell]
    subst hcs
    simp only [Array.toList_extract, List.extract_eq_take_drop, List.getElem?_take, List.getElem?_drop] at hv
    split at hv
    · simpa using hv
    · cases hv
  have := run_loadAt_mid (P := P) W b o ty cs.toList d hr hu hd (by simpa using hi)
  simp only [Array.toArray_toList] at this
  exact ⟨⟨_, this⟩, by unfold ldV; rw [this]⟩

theorem sKeep {X W : World} {A B : Nat} {va qa ra ea aa ga : Array Value} (h : Blk X A 57 va ∧ Blk X B 57 va) (hm : va.extract 0 47 = va) (hqq : va.extract 10 17 = qa) (hr : va.extract 17 19 = ra) (he : va.extract 19 29 = ea) (ha : va.extract 29 44 = aa) (hg : va.extract 44 47 = ga) (zm : va.size = 47) (zq : qa.size = 7) (zr : ra.size = 2) (ze : ea.size = 10) (za : aa.size = 15) (zg : ga.size = 3) (k : Below X.heap.size X W) : (LdOK Tryz.prog W (.pointer (some ⟨A, 0, none⟩)) 57 ∧ ldV Tryz.prog W (.pointer (some ⟨A, 0, none⟩)) 57 = .agg va) ∧ (LdOK Tryz.prog W (.pointer (some ⟨A, 10, none⟩)) 44 ∧ ldV Tryz.prog W (.pointer (some ⟨A, 10, none⟩)) 44 = .agg qa) ∧ (LdOK Tryz.prog W (.pointer (some ⟨A, 17, none⟩)) 46 ∧ ldV Tryz.prog W (.pointer (some ⟨A, 17, none⟩)) 46 = .agg ra) ∧ (LdOK Tryz.prog W (.pointer (some ⟨A, 19, none⟩)) 49 ∧ ldV Tryz.prog W (.pointer (some ⟨A, 19, none⟩)) 49 = .agg ea) ∧ (LdOK Tryz.prog W (.pointer (some ⟨A, 29, none⟩)) 55 ∧ ldV Tryz.prog W (.pointer (some ⟨A, 29, none⟩)) 55 = .agg aa) ∧ (LdOK Tryz.prog W (.pointer (some ⟨A, 44, none⟩)) 30 ∧ ldV Tryz.prog W (.pointer (some ⟨A, 44, none⟩)) 30 = .agg ga) ∧ (LdOK Tryz.prog W (.pointer (some ⟨B, 0, none⟩)) 57 ∧ ldV Tryz.prog W (.pointer (some ⟨B, 0, none⟩)) 57 = .agg va) ∧ (LdOK Tryz.prog W (.pointer (some ⟨B, 10, none⟩)) 44 ∧ ldV Tryz.prog W (.pointer (some ⟨B, 10, none⟩)) 44 = .agg qa) ∧ (LdOK Tryz.prog W (.pointer (some ⟨B, 17, none⟩)) 46 ∧ ldV Tryz.prog W (.pointer (some ⟨B, 17, none⟩)) 46 = .agg ra) ∧ (LdOK Tryz.prog W (.pointer (some ⟨B, 19, none⟩)) 49 ∧ ldV Tryz.prog W (.pointer (some ⟨B, 19, none⟩)) 49 = .agg ea) ∧ (LdOK Tryz.prog W (.pointer (some ⟨B, 29, none⟩)) 55 ∧ ldV Tryz.prog W (.pointer (some ⟨B, 29, none⟩)) 55 = .agg aa) ∧ (LdOK Tryz.prog W (.pointer (some ⟨B, 44, none⟩)) 30 ∧ ldV Tryz.prog W (.pointer (some ⟨B, 44, none⟩)) 30 = .agg ga) ∧ Below X.heap.size X W :=
  ⟨ld_blk (h.1.ext k) hm Tryz.underlying57 rfl (by rw [zm]; kernel_rfl), ld_blk (h.1.ext k) hqq Tryz.underlying44 rfl (by rw [zq]; kernel_rfl), ld_blk (h.1.ext k) hr Tryz.underlying46 rfl (by rw [zr]; kernel_rfl), ld_blk (h.1.ext k) he Tryz.underlying49 rfl (by rw [ze]; kernel_rfl), ld_blk (h.1.ext k) ha Tryz.underlying55 rfl (by rw [za]; kernel_rfl), ld_blk (h.1.ext k) hg Tryz.underlying30 rfl (by rw [zg]; kernel_rfl), ld_blk (h.2.ext k) hm Tryz.underlying57 rfl (by rw [zm]; kernel_rfl), ld_blk (h.2.ext k) hqq Tryz.underlying44 rfl (by rw [zq]; kernel_rfl), ld_blk (h.2.ext k) hr Tryz.underlying46 rfl (by rw [zr]; kernel_rfl), ld_blk (h.2.ext k) he Tryz.underlying49 rfl (by rw [ze]; kernel_rfl), ld_blk (h.2.ext k) ha Tryz.underlying55 rfl (by rw [za]; kernel_rfl), ld_blk (h.2.ext k) hg Tryz.underlying30 rfl (by rw [zg]; kernel_rfl), k⟩
theorem sKeepB {X W : World} {A B : Nat} {va qa ra ea aa ga : Array Value} (h : (LdOK Tryz.prog W (.pointer (some ⟨A, 0, none⟩)) 57 ∧ ldV Tryz.prog W (.pointer (some ⟨A, 0, none⟩)) 57 = .agg va) ∧ (LdOK Tryz.prog W (.pointer (some ⟨A, 10, none⟩)) 44 ∧ ldV Tryz.prog W (.pointer (some ⟨A, 10, none⟩)) 44 = .agg qa) ∧ (LdOK Tryz.prog W (.pointer (some ⟨A, 17, none⟩)) 46 ∧ ldV Tryz.prog W (.pointer (some ⟨A, 17, none⟩)) 46 = .agg ra) ∧ (LdOK Tryz.prog W (.pointer (some ⟨A, 19, none⟩)) 49 ∧ ldV Tryz.prog W (.pointer (some ⟨A, 19, none⟩)) 49 = .agg ea) ∧ (LdOK Tryz.prog W (.pointer (some ⟨A, 29, none⟩)) 55 ∧ ldV Tryz.prog W (.pointer (some ⟨A, 29, none⟩)) 55 = .agg aa) ∧ (LdOK Tryz.prog W (.pointer (some ⟨A, 44, none⟩)) 30 ∧ ldV Tryz.prog W (.pointer (some ⟨A, 44, none⟩)) 30 = .agg ga) ∧ (LdOK Tryz.prog W (.pointer (some ⟨B, 0, none⟩)) 57 ∧ ldV Tryz.prog W (.pointer (some ⟨B, 0, none⟩)) 57 = .agg va) ∧ (LdOK Tryz.prog W (.pointer (some ⟨B, 10, none⟩)) 44 ∧ ldV Tryz.prog W (.pointer (some ⟨B, 10, none⟩)) 44 = .agg qa) ∧ (LdOK Tryz.prog W (.pointer (some ⟨B, 17, none⟩)) 46 ∧ ldV Tryz.prog W (.pointer (some ⟨B, 17, none⟩)) 46 = .agg ra) ∧ (LdOK Tryz.prog W (.pointer (some ⟨B, 19, none⟩)) 49 ∧ ldV Tryz.prog W (.pointer (some ⟨B, 19, none⟩)) 49 = .agg ea) ∧ (LdOK Tryz.prog W (.pointer (some ⟨B, 29, none⟩)) 55 ∧ ldV Tryz.prog W (.pointer (some ⟨B, 29, none⟩)) 55 = .agg aa) ∧ (LdOK Tryz.prog W (.pointer (some ⟨B, 44, none⟩)) 30 ∧ ldV Tryz.prog W (.pointer (some ⟨B, 44, none⟩)) 30 = .agg ga) ∧ Below X.heap.size X W) : Below X.heap.size X W := h.2.2.2.2.2.2.2.2.2.2.2.2

attribute [local go_sem ↓] ld_exec ld_sem
set_option maxRecDepth 100000 in
set_option maxHeartbeats 2000000 in
theorem msgSameC (va qa ra ea aa ga : Array Value) (hs : Array Value) (hqq : va.extract 10 17 = qa) (hr : va.extract 17 19 = ra) (he : va.extract 19 29 = ea) (ha : va.extract 29 44 = aa) (hg : va.extract 44 47 = ga) (zm : va.size = 47) (zq : qa.size = 7) (zr : ra.size = 2) (ze : ea.size = 10) (za : aa.size = 15) (zg : ga.size = 3)
    (HH : ∀ W, Calls Tryz.prog 86 #[.agg va] W fun e w' => e = .returned (.agg hs) ∧ Below W.heap.size W w')
    (h10 : ∀ W, (Op.equalIn 10000 167 (.agg hs) (.agg hs)).run Tryz.prog W = .ok true W)
    (hq : ∀ W, (Op.equalIn 10000 44 (.agg qa) (.agg qa)).run Tryz.prog W = .ok true W)
    (HR : ∀ W, Calls Tryz.prog 87 #[.agg ra, .agg ra] W fun e w' => e = .returned (.bool true) ∧ Below W.heap.size W w')
    (HEn : ∀ W, Calls Tryz.prog 88 #[.agg ea, .agg ea] W fun e w' => e = .returned (.bool true) ∧ Below W.heap.size W w')
    (HA : ∀ W, Calls Tryz.prog 89 #[.agg aa, .agg aa] W fun e w' => e = .returned (.bool true) ∧ Below W.heap.size W w')
    (HG : ∀ W, Calls Tryz.prog 90 #[.agg ga, .agg ga] W fun e w' => e = .returned (.bool true) ∧ Below W.heap.size W w')
    (w : World) : Calls Tryz.prog 51 #[.agg va, .agg va] w fun e w' => e = .returned (.bool true) ∧ Below w.heap.size w w' := by
  have hm : va.extract 0 47 = va := by rw [← zm]; simp
  have HH' := Lib.hid HH
  have HR' := Lib.hid HR
  have HEn' := Lib.hid HEn
  have HA' := Lib.hid HA
  have HG' := Lib.hid HG
  obtain ⟨X, hX⟩ : ∃ X, X = (w.alloc (.cells va 57)).alloc (.cells va 57) := ⟨_, rfl⟩
  have HE := Lib.hid (show Below w.heap.size w X by rw [hX]; exact ext_alloc (ext_new _ _) _)
  have HBB := Lib.hid (show Blk X w.heap.size 57 va ∧ Blk X (w.heap.size + 1) 57 va by rw [hX]; exact ⟨(Blk.new _ _ _).alloc _, Blk.new' _ _ _ (by simp)⟩)
  have HK := Lib.hid (fun W k => sKeep (W := W) HBB.out hm hqq hr he ha hg zm zq zr ze za zg k)
  have HX := Lib.hid hX
  clear hX HH HR HEn HA HG hm hr he ha hg zq zr ze za zg
  go_enter Tryz.func51, Tryz.ntmps51
  go_upto_region 1 with (fail)
  rw [← HX.out]
  go_region_held3 (fun w' => (LdOK Tryz.prog w' (.pointer (some ⟨w.heap.size, 0, none⟩)) 57 ∧ ldV Tryz.prog w' (.pointer (some ⟨w.heap.size, 0, none⟩)) 57 = .agg va) ∧ (LdOK Tryz.prog w' (.pointer (some ⟨w.heap.size, 10, none⟩)) 44 ∧ ldV Tryz.prog w' (.pointer (some ⟨w.heap.size, 10, none⟩)) 44 = .agg qa) ∧ (LdOK Tryz.prog w' (.pointer (some ⟨w.heap.size, 17, none⟩)) 46 ∧ ldV Tryz.prog w' (.pointer (some ⟨w.heap.size, 17, none⟩)) 46 = .agg ra) ∧ (LdOK Tryz.prog w' (.pointer (some ⟨w.heap.size, 19, none⟩)) 49 ∧ ldV Tryz.prog w' (.pointer (some ⟨w.heap.size, 19, none⟩)) 49 = .agg ea) ∧ (LdOK Tryz.prog w' (.pointer (some ⟨w.heap.size, 29, none⟩)) 55 ∧ ldV Tryz.prog w' (.pointer (some ⟨w.heap.size, 29, none⟩)) 55 = .agg aa) ∧ (LdOK Tryz.prog w' (.pointer (some ⟨w.heap.size, 44, none⟩)) 30 ∧ ldV Tryz.prog w' (.pointer (some ⟨w.heap.size, 44, none⟩)) 30 = .agg ga) ∧ (LdOK Tryz.prog w' (.pointer (some ⟨w.heap.size + 1, 0, none⟩)) 57 ∧ ldV Tryz.prog w' (.pointer (some ⟨w.heap.size + 1, 0, none⟩)) 57 = .agg va) ∧ (LdOK Tryz.prog w' (.pointer (some ⟨w.heap.size + 1, 10, none⟩)) 44 ∧ ldV Tryz.prog w' (.pointer (some ⟨w.heap.size + 1, 10, none⟩)) 44 = .agg qa) ∧ (LdOK Tryz.prog w' (.pointer (some ⟨w.heap.size + 1, 17, none⟩)) 46 ∧ ldV Tryz.prog w' (.pointer (some ⟨w.heap.size + 1, 17, none⟩)) 46 = .agg ra) ∧ (LdOK Tryz.prog w' (.pointer (some ⟨w.heap.size + 1, 19, none⟩)) 49 ∧ ldV Tryz.prog w' (.pointer (some ⟨w.heap.size + 1, 19, none⟩)) 49 = .agg ea) ∧ (LdOK Tryz.prog w' (.pointer (some ⟨w.heap.size + 1, 29, none⟩)) 55 ∧ ldV Tryz.prog w' (.pointer (some ⟨w.heap.size + 1, 29, none⟩)) 55 = .agg aa) ∧ (LdOK Tryz.prog w' (.pointer (some ⟨w.heap.size + 1, 44, none⟩)) 30 ∧ ldV Tryz.prog w' (.pointer (some ⟨w.heap.size + 1, 44, none⟩)) 30 = .agg ga) ∧ Below X.heap.size X w')
    (first | with_reducible assumption | exact HK.out _ (by repeat (first | with_reducible refine ext_alloc ?_ _ | with_reducible refine Below.drew ?_ | with_reducible refine ext_drewN ?_ _ | with_reducible assumption | with_reducible exact ext_refl _)))
    (first
      | (go_at_call 86; (with_reducible refine (HH'.out _).mono ?_); rintro e Z ⟨rfl, hb'⟩; have hXZ := ext_call (sKeepB (by assumption)) hb'; clear hb')
      | (go_at_call 87; (with_reducible refine (HR'.out _).mono ?_); rintro e Z ⟨rfl, hb'⟩; have hXZ := ext_call (sKeepB (by assumption)) hb'; clear hb')
      | (go_at_call 88; (with_reducible refine (HEn'.out _).mono ?_); rintro e Z ⟨rfl, hb'⟩; have hXZ := ext_call (sKeepB (by assumption)) hb'; clear hb')
      | (go_at_call 89; (with_reducible refine (HA'.out _).mono ?_); rintro e Z ⟨rfl, hb'⟩; have hXZ := ext_call (sKeepB (by assumption)) hb'; clear hb')
      | (go_at_call 90; (with_reducible refine (HG'.out _).mono ?_); rintro e Z ⟨rfl, hb'⟩; have hXZ := ext_call (sKeepB (by assumption)) hb'; clear hb'))
  all_goals
    have HZ := Lib.hid (ext_call HE.out (by first | exact hXZ | exact sKeepB (by assumption)))
    clear hXZ
    go_wp2
    go_ret
    exact ⟨rfl, HZ.out⟩

end Go.Proofs.YtbgfmbmcabekeaaGreatDoor

/-
  Package message: Same at equal messages of a header and a query.
-/
namespace Go.Proofs.YtbgfmbmcabekeaaGreatDoor
open Go.RowKit Go.Shelf

set_option maxRecDepth 100000 in
theorem msgSame (h0 h1 h2 h3 h4 h5 h6 h7 h8 h9 q0 q1 q2 q3 q4 q5 q6 : Int) (w : World) : Calls Tryz.prog 51 #[.agg #[.int .i64 h0, .int .i64 h1, .int .i64 h2, .int .i64 h3, .int .i64 h4, .int .i64 h5, .int .i64 h6, .int .i64 h7, .int .i64 h8, .int .i64 h9, .int .i64 q0, .int .i64 q1, .int .i64 q2, .int .i64 q3, .int .i64 q4, .int .i64 q5, .int .i64 q6, .int .i64 0, .slice none 0 0, .int .i64 0, .int .i64 0, .int .i64 0, .int .i64 0, .int .i64 0, .int .i64 0, .int .i64 0, .int .i64 0, .int .i64 0, .slice none 0 0, .int .i64 0, .int .i64 0, .int .i64 0, .int .i64 0, .int .i64 0, .int .i64 0, .int .i64 0, .slice none 0 0, .int .i64 0, .bool false, .int .i64 0, .int .i64 0, .int .i64 0, .slice none 0 0, .slice none 0 0, .int .i64 0, .slice none 0 0, .slice none 0 0], .agg #[.int .i64 h0, .int .i64 h1, .int .i64 h2, .int .i64 h3, .int .i64 h4, .int .i64 h5, .int .i64 h6, .int .i64 h7, .int .i64 h8, .int .i64 h9, .int .i64 q0, .int .i64 q1, .int .i64 q2, .int .i64 q3, .int .i64 q4, .int .i64 q5, .int .i64 q6, .int .i64 0, .slice none 0 0, .int .i64 0, .int .i64 0, .int .i64 0, .int .i64 0, .int .i64 0, .int .i64 0, .int .i64 0, .int .i64 0, .int .i64 0, .slice none 0 0, .int .i64 0, .int .i64 0, .int .i64 0, .int .i64 0, .int .i64 0, .int .i64 0, .int .i64 0, .slice none 0 0, .int .i64 0, .bool false, .int .i64 0, .int .i64 0, .int .i64 0, .slice none 0 0, .slice none 0 0, .int .i64 0, .slice none 0 0, .slice none 0 0]] w fun e w' => e = .returned (.bool true) ∧ Below w.heap.size w w' := by
  have HH := header_any h0 h1 h2 h3 h4 h5 h6 h7 h8 h9 q0 q1 q2 q3 q4 q5 q6
  obtain ⟨va, hva⟩ : ∃ va : Array Value, va = #[.int .i64 h0, .int .i64 h1, .int .i64 h2, .int .i64 h3, .int .i64 h4, .int .i64 h5, .int .i64 h6, .int .i64 h7, .int .i64 h8, .int .i64 h9, .int .i64 q0, .int .i64 q1, .int .i64 q2, .int .i64 q3, .int .i64 q4, .int .i64 q5, .int .i64 q6, .int .i64 0, .slice none 0 0, .int .i64 0, .int .i64 0, .int .i64 0, .int .i64 0, .int .i64 0, .int .i64 0, .int .i64 0, .int .i64 0, .int .i64 0, .slice none 0 0, .int .i64 0, .int .i64 0, .int .i64 0, .int .i64 0, .int .i64 0, .int .i64 0, .int .i64 0, .slice none 0 0, .int .i64 0, .bool false, .int .i64 0, .int .i64 0, .int .i64 0, .slice none 0 0, .slice none 0 0, .int .i64 0, .slice none 0 0, .slice none 0 0] := ⟨_, rfl⟩
  rw [← hva] at HH ⊢
  refine msgSameC va #[.int .i64 q0, .int .i64 q1, .int .i64 q2, .int .i64 q3, .int .i64 q4, .int .i64 q5, .int .i64 q6] #[.int .i64 0, .slice none 0 0] #[.int .i64 0, .int .i64 0, .int .i64 0, .int .i64 0, .int .i64 0, .int .i64 0, .int .i64 0, .int .i64 0, .int .i64 0, .slice none 0 0] #[.int .i64 0, .int .i64 0, .int .i64 0, .int .i64 0, .int .i64 0, .int .i64 0, .int .i64 0, .slice none 0 0, .int .i64 0, .bool false, .int .i64 0, .int .i64 0, .int .i64 0, .slice none 0 0, .slice none 0 0] #[.int .i64 0, .slice none 0 0, .slice none 0 0] #[.int .i64 h0, .int .i64 h1, .int .i64 h2, .int .i64 h3, .int .i64 h4, .int .i64 h5, .int .i64 h6, .int .i64 h7, .int .i64 h8, .int .i64 h9] ?_ ?_ ?_ ?_ ?_ ?_ ?_ ?_ ?_ ?_ ?_ HH (eqHead h0 h1 h2 h3 h4 h5 h6 h7 h8 h9) (qryEq q0 q1 q2 q3 q4 q5 q6) recSame0 entSame0 ansSame0 ringSame0 w
  all_goals (try subst hva; kernel_rfl)

end Go.Proofs.YtbgfmbmcabekeaaGreatDoor

/-
  package query: Valid, Scan at the law's two queries; proof.of.
-/
namespace Go.Proofs.YtbgfmbmcabekeaaGreatDoor
open Go.RowKit
attribute [local go_sem ↓] Go.wp_at_zero Go.wp_at_succ

set_option maxRecDepth 100000 in
set_option maxHeartbeats 1000000 in
theorem queryValid1 (w : World) : Calls Tryz.prog 48 #[.agg #[.int .i64 1, .int .i64 0, .int .i64 0, .int .i64 5, .int .i64 5, .int .i64 0, .int .i64 0]] w fun e w' => e = .returned (.bool true) ∧ Below w.heap.size w w' := by
  go_enter Tryz.func48, Tryz.ntmps48
  go_wp2
  go_ret
  exact ⟨rfl, ext_new _ _⟩

set_option maxRecDepth 100000 in
set_option maxHeartbeats 1000000 in
theorem queryValid0 (w : World) : Calls Tryz.prog 48 #[.agg #[.int .i64 1, .int .i64 0, .int .i64 0, .int .i64 5, .int .i64 5, .int .i64 0, .int .i64 0]] w fun e w' => e = .returned (.bool true) ∧ Below w.heap.size w w' := by
  go_enter Tryz.func48, Tryz.ntmps48
  go_wp2
  go_ret
  exact ⟨rfl, ext_new _ _⟩

set_option maxRecDepth 100000 in
set_option maxHeartbeats 1000000 in
theorem queryScan1 (w : World) : Calls Tryz.prog 206 #[.agg #[.int .i64 1, .int .i64 0, .int .i64 0, .int .i64 5, .int .i64 5, .int .i64 0, .int .i64 0]] w fun e w' => e = .returned (.tuple #[.int .i64 0, .int .i64 0, .int .i64 5, .int .i64 5]) ∧ Below w.heap.size w w' := by
  have HB := Lib.hid (Blk.new w 44 #[.int .i64 1, .int .i64 0, .int .i64 0, .int .i64 5, .int .i64 5, .int .i64 0, .int .i64 0])
  have c0 := HB.out.cell 0; have c1 := HB.out.cell 1; have c2 := HB.out.cell 2; have c3 := HB.out.cell 3; have c4 := HB.out.cell 4; have c5 := HB.out.cell 5; have c6 := HB.out.cell 6
  go_enter Tryz.func206, Tryz.ntmps206
  go_wp2_with fail
  refine (queryValid1 _).mono ?_
  rintro e W1 ⟨rfl, hb1⟩
  have HB1 := Lib.hid (HB.out.ext hb1)
  have HE1 := Lib.hid (ext_call (ext_new w _) hb1)
  clear hb1 c0 c1 c2 c3 c4 c5 c6
  have c0 := HB1.out.cell 0; have c1 := HB1.out.cell 1; have c2 := HB1.out.cell 2; have c3 := HB1.out.cell 3; have c4 := HB1.out.cell 4; have c5 := HB1.out.cell 5; have c6 := HB1.out.cell 6
  go_wp2
  go_quiet (fail)
  go_wp2
  refine bodyPost_ret (v := .tuple #[.int .i64 0, .int .i64 0, .int .i64 5, .int .i64 5]) (by simp [results, Tryz.results206, go_sem]) rfl ⟨rfl, ?_⟩
  exact ext_drewN HE1.out _

set_option maxRecDepth 100000 in
set_option maxHeartbeats 1000000 in
theorem queryScan0 (w : World) : Calls Tryz.prog 206 #[.agg #[.int .i64 1, .int .i64 0, .int .i64 0, .int .i64 5, .int .i64 5, .int .i64 0, .int .i64 0]] w fun e w' => e = .returned (.tuple #[.int .i64 0, .int .i64 0, .int .i64 5, .int .i64 5]) ∧ Below w.heap.size w w' := by
  have HB := Lib.hid (Blk.new w 44 #[.int .i64 1, .int .i64 0, .int .i64 0, .int .i64 5, .int .i64 5, .int .i64 0, .int .i64 0])
  have c0 := HB.out.cell 0; have c1 := HB.out.cell 1; have c2 := HB.out.cell 2; have c3 := HB.out.cell 3; have c4 := HB.out.cell 4; have c5 := HB.out.cell 5; have c6 := HB.out.cell 6
  go_enter Tryz.func206, Tryz.ntmps206
  go_wp2_with fail
  refine (queryValid0 _).mono ?_
  rintro e W1 ⟨rfl, hb1⟩
  have HB1 := Lib.hid (HB.out.ext hb1)
  have HE1 := Lib.hid (ext_call (ext_new w _) hb1)
  clear hb1 c0 c1 c2 c3 c4 c5 c6
  have c0 := HB1.out.cell 0; have c1 := HB1.out.cell 1; have c2 := HB1.out.cell 2; have c3 := HB1.out.cell 3; have c4 := HB1.out.cell 4; have c5 := HB1.out.cell 5; have c6 := HB1.out.cell 6
  go_wp2
  go_quiet (fail)
  go_wp2
  refine bodyPost_ret (v := .tuple #[.int .i64 0, .int .i64 0, .int .i64 5, .int .i64 5]) (by simp [results, Tryz.results206, go_sem]) rfl ⟨rfl, ?_⟩
  exact ext_drewN HE1.out _

set_option maxRecDepth 100000 in
set_option maxHeartbeats 1000000 in
theorem proofOf1 (w : World) : Calls Tryz.prog 180 #[.agg #[.int .i64 1, .int .i64 0, .int .i64 0, .int .i64 5, .int .i64 5, .int .i64 0, .int .i64 0]] w fun e w' => e = .returned (.agg #[.int .i64 0, .int .i64 0, .int .i64 5, .int .i64 5]) ∧ Below w.heap.size w w' := by
  have HS := Lib.hid (Blk.new' (w.alloc (.cells #[.int .i64 1, .int .i64 0, .int .i64 0, .int .i64 5, .int .i64 5, .int .i64 0, .int .i64 0] 44)) 276 #[.int .i64 0, .int .i64 0, .int .i64 0, .int .i64 0] (b := w.heap.size + 1) (by simp))
  go_enter Tryz.func180, Tryz.ntmps180
  go_wp2_with fail
  refine (queryScan1 _).mono ?_
  rintro e W1 ⟨rfl, hb1⟩
  have HS1 := Lib.hid (HS.out.ext hb1)
  have HE1 := Lib.hid (ext_call (ext_alloc (ext_new w _) _) hb1)
  clear hb1
  have c0 := HS1.out.cell 0; have c1 := HS1.out.cell 1; have c2 := HS1.out.cell 2; have c3 := HS1.out.cell 3
  have f0 := HS1.out.frozen 0
  have f1 := HS1.out.frozen 1
  have f2 := HS1.out.frozen 2
  have f3 := HS1.out.frozen 3
  go_wp2
  have hBf := (((((((HS1.out.set_ 0 (.int .i64 0)).set_ 1 (.int .i64 0)).set_ 2 (.int .i64 5)).set_ 3 (.int .i64 5)).set_ 0 (.int .i64 0)).set_ 1 (.int .i64 0)).set_ 2 (.int .i64 5)).set_ 3 (.int .i64 5)
  have y0 := hBf.cell 0; have y1 := hBf.cell 1; have y2 := hBf.cell 2; have y3 := hBf.cell 3
  refine bodyPost_ret (v := .agg #[.int .i64 0, .int .i64 0, .int .i64 5, .int .i64 5]) (by simp [results, Tryz.results180, go_sem, y0, y1, y2, y3]) rfl ⟨rfl, ?_⟩
  repeat (first | with_reducible exact HE1.out | refine ext_set ?_ (by simp) _)

set_option maxRecDepth 100000 in
set_option maxHeartbeats 1000000 in
theorem proofOf0 (w : World) : Calls Tryz.prog 180 #[.agg #[.int .i64 1, .int .i64 0, .int .i64 0, .int .i64 5, .int .i64 5, .int .i64 0, .int .i64 0]] w fun e w' => e = .returned (.agg #[.int .i64 0, .int .i64 0, .int .i64 5, .int .i64 5]) ∧ Below w.heap.size w w' := by
  have HS := Lib.hid (Blk.new' (w.alloc (.cells #[.int .i64 1, .int .i64 0, .int .i64 0, .int .i64 5, .int .i64 5, .int .i64 0, .int .i64 0] 44)) 276 #[.int .i64 0, .int .i64 0, .int .i64 0, .int .i64 0] (b := w.heap.size + 1) (by simp))
  go_enter Tryz.func180, Tryz.ntmps180
  go_wp2_with fail
  refine (queryScan0 _).mono ?_
  rintro e W1 ⟨rfl, hb1⟩
  have HS1 := Lib.hid (HS.out.ext hb1)
  have HE1 := Lib.hid (ext_call (ext_alloc (ext_new w _) _) hb1)
  clear hb1
  have c0 := HS1.out.cell 0; have c1 := HS1.out.cell 1; have c2 := HS1.out.cell 2; have c3 := HS1.out.cell 3
  have f0 := HS1.out.frozen 0
  have f1 := HS1.out.frozen 1
  have f2 := HS1.out.frozen 2
  have f3 := HS1.out.frozen 3
  go_wp2
  have hBf := (((((((HS1.out.set_ 0 (.int .i64 0)).set_ 1 (.int .i64 0)).set_ 2 (.int .i64 5)).set_ 3 (.int .i64 5)).set_ 0 (.int .i64 0)).set_ 1 (.int .i64 0)).set_ 2 (.int .i64 5)).set_ 3 (.int .i64 5)
  have y0 := hBf.cell 0; have y1 := hBf.cell 1; have y2 := hBf.cell 2; have y3 := hBf.cell 3
  refine bodyPost_ret (v := .agg #[.int .i64 0, .int .i64 0, .int .i64 5, .int .i64 5]) (by simp [results, Tryz.results180, go_sem, y0, y1, y2, y3]) rfl ⟨rfl, ?_⟩
  repeat (first | with_reducible exact HE1.out | refine ext_set ?_ (by simp) _)

end Go.Proofs.YtbgfmbmcabekeaaGreatDoor

/-
  package message: Valid.
-/
namespace Go.Proofs.YtbgfmbmcabekeaaGreatDoor
open Go.RowKit Go.Shelf

theorem side_q (n : Int) (h0 : 0 ≤ n) (h1 : n ≤ 23) (w : World) : Calls Tryz.prog 45 #[.int .i64 n] w fun e w' => e = .returned (.int .i64 1) ∧ w' = w :=
  (sideNode n h0 h1 w).mono fun _ _ h => ⟨h.1, h.2.symm⟩
theorem sideO_q (w : World) : Calls Tryz.prog 45 #[.int .i64 100] w fun e w' => e = .returned (.int .i64 2) ∧ w' = w :=
  (sideOrigin w).mono fun _ _ h => ⟨h.1, h.2.symm⟩
theorem mw_qy (n l h : Int) (h0 : l ≤ n) (h1 : n ≤ h) (w : World) : Calls Tryz.prog 46 #[.int .i64 n, .int .i64 l, .int .i64 h] w fun e w' => e = .returned (.bool true) ∧ w' = w :=
  (mw_yes n l h h0 h1 w).mono fun _ _ h => ⟨h.1, h.2.symm⟩
theorem mw_qn (n l h : Int) (h0 : n < l ∨ h < n) (w : World) : Calls Tryz.prog 46 #[.int .i64 n, .int .i64 l, .int .i64 h] w fun e w' => e = .returned (.bool false) ∧ w' = w :=
  (mw_no n l h h0 w).mono fun _ _ h => ⟨h.1, h.2.symm⟩

attribute [local go_sem ↓] ld_exec ld_sem bd_exec bd_sem
set_option maxRecDepth 100000 in
set_option maxHeartbeats 4000000 in
theorem validMiss (w : World) : Calls Tryz.prog 17 #[.agg #[.int .i64 7, .int .i64 2, .int .i64 100, .int .i64 0, .int .i64 0, .int .i64 0, .int .i64 7, .int .i64 0, .int .i64 0, .int .i64 0, .int .i64 1, .int .i64 0, .int .i64 0, .int .i64 5, .int .i64 5, .int .i64 0, .int .i64 0, .int .i64 0, .slice none 0 0, .int .i64 0, .int .i64 0, .int .i64 0, .int .i64 0, .int .i64 0, .int .i64 0, .int .i64 0, .int .i64 0, .int .i64 0, .slice none 0 0, .int .i64 0, .int .i64 0, .int .i64 0, .int .i64 0, .int .i64 0, .int .i64 0, .int .i64 0, .slice none 0 0, .int .i64 0, .bool false, .int .i64 0, .int .i64 0, .int .i64 0, .slice none 0 0, .slice none 0 0, .int .i64 0, .slice none 0 0, .slice none 0 0]] w fun e w' => e = .returned (.bool true) ∧ Below w.heap.size w w' := by
  obtain ⟨va, hva⟩ : ∃ va : Array Value, va = #[.int .i64 7, .int .i64 2, .int .i64 100, .int .i64 0, .int .i64 0, .int .i64 0, .int .i64 7, .int .i64 0, .int .i64 0, .int .i64 0, .int .i64 1, .int .i64 0, .int .i64 0, .int .i64 5, .int .i64 5, .int .i64 0, .int .i64 0, .int .i64 0, .slice none 0 0, .int .i64 0, .int .i64 0, .int .i64 0, .int .i64 0, .int .i64 0, .int .i64 0, .int .i64 0, .int .i64 0, .int .i64 0, .slice none 0 0, .int .i64 0, .int .i64 0, .int .i64 0, .int .i64 0, .int .i64 0, .int .i64 0, .int .i64 0, .slice none 0 0, .int .i64 0, .bool false, .int .i64 0, .int .i64 0, .int .i64 0, .slice none 0 0, .slice none 0 0, .int .i64 0, .slice none 0 0, .slice none 0 0] := ⟨_, rfl⟩
  obtain ⟨oa, hoa⟩ : ∃ oa : Array Value, oa = #[.int .i64 7, .int .i64 2, .int .i64 100, .int .i64 0, .int .i64 0, .int .i64 0, .int .i64 0, .int .i64 0, .int .i64 0, .int .i64 0, .int .i64 0, .int .i64 0, .int .i64 0, .int .i64 0, .int .i64 0, .int .i64 0, .int .i64 0, .int .i64 0, .slice none 0 0, .int .i64 0, .int .i64 0, .int .i64 0, .int .i64 0, .int .i64 0, .int .i64 0, .int .i64 0, .int .i64 0, .int .i64 0, .slice none 0 0, .int .i64 0, .int .i64 0, .int .i64 0, .int .i64 0, .int .i64 0, .int .i64 0, .int .i64 0, .slice none 0 0, .int .i64 0, .bool false, .int .i64 0, .int .i64 0, .int .i64 0, .slice none 0 0, .slice none 0 0, .int .i64 0, .slice none 0 0, .slice none 0 0] := ⟨_, rfl⟩
  obtain ⟨X0, hX⟩ : ∃ X, X = w.alloc (.cells va 57) := ⟨_, rfl⟩
  have HX := Lib.hid hX
  have HE := Lib.hid (show Below w.heap.size w X0 by rw [hX]; exact ext_new _ _)
  have HB := Lib.hid (show Blk X0 w.heap.size 57 va by rw [hX]; exact Blk.new _ _ _)
  have K1 := Lib.hid (fun W => side_q (2) (by omega) (by omega) W)
  have K2 := Lib.hid sideO_q
  have K4 := Lib.hid (fun W => mw_qy (0) 0 1000000 (by omega) (by omega) W)
  have K6 := Lib.hid (fun W => mw_qy (7) 1 4611686018427387903 (by omega) (by omega) W)
  have K3 := Lib.hid (fun W => mw_qn (0) 1 1000000 (by omega) W)
  have K7 := Lib.hid (fun W => mw_qy (0) 0 1000000 (by omega) (by omega) W)
  have K5 := Lib.hid (fun W => mw_qy (0) 0 7 (by omega) (by omega) W)
  have HVA := Lib.hid hva
  have HOA := Lib.hid hoa
  rw [← hva]
  clear hX hva hoa
  go_enter Tryz.func17, Tryz.ntmps17
  go_upto_region 1 with (fail)
  rw [← HX.out]
  have a1 := (HB.out.cell 1).trans (show _ = some (.int .i64 2) by rw [HVA.out]; rfl)
  have a2 := (HB.out.cell 2).trans (show _ = some (.int .i64 100) by rw [HVA.out]; rfl)
  go_quiet (first | (go_at_call 45; with_reducible refine Calls.quiet_of_same (K1.out _)) | (go_at_call 45; with_reducible refine Calls.quiet_of_same (K2.out _)))
  clear a1 a2
  obtain ⟨X1, hX1⟩ : ∃ X1, X1 = X0.drewN nq := ⟨_, rfl⟩
  rw [← hX1]
  have HE1 := Lib.hid (show Below X0.heap.size X0 X1 by rw [hX1]; exact ext_drewN (ext_refl _) _)
  clear hX1
  obtain ⟨bd1, bd2⟩ := bd_of w (P := Tryz.prog) (t := 57) (ps := #[(0, .int .i64 7), (1, .int .i64 2), (2, .int .i64 100)]) (cs := oa) (by rw [HOA.out]; kernel_rfl)
  have a0 := ((HB.out.ext HE1.out).cell 0).trans (show _ = some (.int .i64 7) by rw [HVA.out]; rfl)
  have a1 := ((HB.out.ext HE1.out).cell 1).trans (show _ = some (.int .i64 2) by rw [HVA.out]; rfl)
  have a2 := ((HB.out.ext HE1.out).cell 2).trans (show _ = some (.int .i64 100) by rw [HVA.out]; rfl)
  have HZ := Lib.hid (Blk.new X1 57 #[.int .i64 0, .int .i64 0, .int .i64 0, .int .i64 0, .int .i64 0, .int .i64 0, .int .i64 0, .int .i64 0, .int .i64 0, .int .i64 0, .int .i64 0, .int .i64 0, .int .i64 0, .int .i64 0, .int .i64 0, .int .i64 0, .int .i64 0, .int .i64 0, .slice none 0 0, .int .i64 0, .int .i64 0, .int .i64 0, .int .i64 0, .int .i64 0, .int .i64 0, .int .i64 0, .int .i64 0, .int .i64 0, .slice none 0 0, .int .i64 0, .int .i64 0, .int .i64 0, .int .i64 0, .int .i64 0, .int .i64 0, .int .i64 0, .slice none 0 0, .int .i64 0, .bool false, .int .i64 0, .int .i64 0, .int .i64 0, .slice none 0 0, .slice none 0 0, .int .i64 0, .slice none 0 0, .slice none 0 0])
  have HI := Lib.hid (show (Tryz.prog.info? 57).map (·.size) = some oa.size by rw [HOA.out]; kernel_rfl)
  have HSZ := Lib.hid (show (#[.int .i64 0, .int .i64 0, .int .i64 0, .int .i64 0, .int .i64 0, .int .i64 0, .int .i64 0, .int .i64 0, .int .i64 0, .int .i64 0, .int .i64 0, .int .i64 0, .int .i64 0, .int .i64 0, .int .i64 0, .int .i64 0, .int .i64 0, .int .i64 0, .slice none 0 0, .int .i64 0, .int .i64 0, .int .i64 0, .int .i64 0, .int .i64 0, .int .i64 0, .int .i64 0, .int .i64 0, .int .i64 0, .slice none 0 0, .int .i64 0, .int .i64 0, .int .i64 0, .int .i64 0, .int .i64 0, .int .i64 0, .int .i64 0, .slice none 0 0, .int .i64 0, .bool false, .int .i64 0, .int .i64 0, .int .i64 0, .slice none 0 0, .slice none 0 0, .int .i64 0, .slice none 0 0, .slice none 0 0] : Array Value).size = oa.size by rw [HOA.out]; rfl)
  have H1 := Lib.hid (show oa.all (·.oneCell') = true by rw [HOA.out]; simp [Value.oneCell'])
  go_upto_region 4 with (refine wpList_store_blk rfl 57 (.tmp 7) (.tmp 38) rfl X1.heap.size oa rfl rfl 57 #[.int .i64 0, .int .i64 0, .int .i64 0, .int .i64 0, .int .i64 0, .int .i64 0, .int .i64 0, .int .i64 0, .int .i64 0, .int .i64 0, .int .i64 0, .int .i64 0, .int .i64 0, .int .i64 0, .int .i64 0, .int .i64 0, .int .i64 0, .int .i64 0, .slice none 0 0, .int .i64 0, .int .i64 0, .int .i64 0, .int .i64 0, .int .i64 0, .int .i64 0, .int .i64 0, .int .i64 0, .int .i64 0, .slice none 0 0, .int .i64 0, .int .i64 0, .int .i64 0, .int .i64 0, .int .i64 0, .int .i64 0, .int .i64 0, .slice none 0 0, .int .i64 0, .bool false, .int .i64 0, .int .i64 0, .int .i64 0, .slice none 0 0, .slice none 0 0, .int .i64 0, .slice none 0 0, .slice none 0 0] HZ.out HI.out HSZ.out H1.out ?_; intro X2 hB2 hg2; have HO2 := Lib.hid hB2; have HE2 := Lib.hid ((ext_alloc HE1.out (.cells #[.int .i64 0, .int .i64 0, .int .i64 0, .int .i64 0, .int .i64 0, .int .i64 0, .int .i64 0, .int .i64 0, .int .i64 0, .int .i64 0, .int .i64 0, .int .i64 0, .int .i64 0, .int .i64 0, .int .i64 0, .int .i64 0, .int .i64 0, .int .i64 0, .slice none 0 0, .int .i64 0, .int .i64 0, .int .i64 0, .int .i64 0, .int .i64 0, .int .i64 0, .int .i64 0, .int .i64 0, .int .i64 0, .slice none 0 0, .int .i64 0, .int .i64 0, .int .i64 0, .int .i64 0, .int .i64 0, .int .i64 0, .int .i64 0, .slice none 0 0, .int .i64 0, .bool false, .int .i64 0, .int .i64 0, .int .i64 0, .slice none 0 0, .slice none 0 0, .int .i64 0, .slice none 0 0, .slice none 0 0] 57)).grown hg2 (ext_alloc HE1.out (.cells #[.int .i64 0, .int .i64 0, .int .i64 0, .int .i64 0, .int .i64 0, .int .i64 0, .int .i64 0, .int .i64 0, .int .i64 0, .int .i64 0, .int .i64 0, .int .i64 0, .int .i64 0, .int .i64 0, .int .i64 0, .int .i64 0, .int .i64 0, .int .i64 0, .slice none 0 0, .int .i64 0, .int .i64 0, .int .i64 0, .int .i64 0, .int .i64 0, .int .i64 0, .int .i64 0, .int .i64 0, .int .i64 0, .slice none 0 0, .int .i64 0, .int .i64 0, .int .i64 0, .int .i64 0, .int .i64 0, .int .i64 0, .int .i64 0, .slice none 0 0, .int .i64 0, .bool false, .int .i64 0, .int .i64 0, .int .i64 0, .slice none 0 0, .slice none 0 0, .int .i64 0, .slice none 0 0, .slice none 0 0] 57)).size (fun k e => by injection e with e; have := HE1.out.size; omega)); clear hB2 hg2)
  clear a0 a1 a2 bd1 bd2 HZ HI HSZ H1
  have HN := Lib.hid (show X0.heap.size ≤ X1.heap.size from HE1.out.size)
  have a4 := ((HB.out.ext HE2.out).cell 4).trans (show _ = some (.int .i64 0) by rw [HVA.out]; rfl)
  have a6 := ((HB.out.ext HE2.out).cell 6).trans (show _ = some (.int .i64 7) by rw [HVA.out]; rfl)
  go_quiet (first | (go_at_call 46; with_reducible refine Calls.quiet_of_same (K4.out _)) | (go_at_call 46; with_reducible refine Calls.quiet_of_same (K6.out _)))
  clear a4 a6
  obtain ⟨X3, hX3⟩ : ∃ X3, X3 = X2.drewN nq := ⟨_, rfl⟩
  rw [← hX3]
  have HE3 := Lib.hid (show Below X0.heap.size X0 X3 by rw [hX3]; exact ext_drewN HE2.out _)
  have HO3 := Lib.hid (show Blk X3 X1.heap.size 57 oa by rw [hX3]; exact HO2.out.ext (ext_drewN (ext_refl _) _))
  clear hX3
  go_upto_region 5 with (fail)
  have a3 := ((HB.out.ext HE3.out).cell 3).trans (show _ = some (.int .i64 0) by rw [HVA.out]; rfl)
  have a7 := ((HB.out.ext HE3.out).cell 7).trans (show _ = some (.int .i64 0) by rw [HVA.out]; rfl)
  go_quiet (first | (go_at_call 46; with_reducible refine Calls.quiet_of_same (K3.out _)) | (go_at_call 46; with_reducible refine Calls.quiet_of_same (K7.out _)))
  clear a3 a7
  obtain ⟨X4, hX4⟩ : ∃ X4, X4 = X3.drewN nq := ⟨_, rfl⟩
  rw [← hX4]
  have HE4 := Lib.hid (show Below X0.heap.size X0 X4 by rw [hX4]; exact ext_drewN HE3.out _)
  have HO4 := Lib.hid (show Blk X4 X1.heap.size 57 oa by rw [hX4]; exact HO3.out.ext (ext_drewN (ext_refl _) _))
  clear hX4
  have a5 := ((HB.out.ext HE4.out).cell 5).trans (show _ = some (.int .i64 0) by rw [HVA.out]; rfl)
  have a0 := ((HB.out.ext HE4.out).cell 0).trans (show _ = some (.int .i64 7) by rw [HVA.out]; rfl)
  go_upto_region 31 with (go_at_call 46; with_reducible refine (K5.out _).mono ?_; rintro e w' ⟨rfl, hw5⟩; subst w')
  clear a5 a0
  have a5 := ((HB.out.ext HE4.out).cell 5).trans (show _ = some (.int .i64 0) by rw [HVA.out]; rfl)
  have a6 := ((HB.out.ext HE4.out).cell 6).trans (show _ = some (.int .i64 7) by rw [HVA.out]; rfl)
  have a10 := ((HB.out.ext HE4.out).cell 10).trans (show _ = some (.int .i64 1) by rw [HVA.out]; rfl)
  have a11 := ((HB.out.ext HE4.out).cell 11).trans (show _ = some (.int .i64 0) by rw [HVA.out]; rfl)
  have a12 := ((HB.out.ext HE4.out).cell 12).trans (show _ = some (.int .i64 0) by rw [HVA.out]; rfl)
  have a13 := ((HB.out.ext HE4.out).cell 13).trans (show _ = some (.int .i64 5) by rw [HVA.out]; rfl)
  have a14 := ((HB.out.ext HE4.out).cell 14).trans (show _ = some (.int .i64 5) by rw [HVA.out]; rfl)
  have a15 := ((HB.out.ext HE4.out).cell 15).trans (show _ = some (.int .i64 0) by rw [HVA.out]; rfl)
  have a16 := ((HB.out.ext HE4.out).cell 16).trans (show _ = some (.int .i64 0) by rw [HVA.out]; rfl)
  have c5 := (HO4.out.cell 5).trans (show _ = some (.int .i64 0) by rw [HOA.out]; rfl)
  have c6 := (HO4.out.cell 6).trans (show _ = some (.int .i64 0) by rw [HOA.out]; rfl)
  have c10 := (HO4.out.cell 10).trans (show _ = some (.int .i64 0) by rw [HOA.out]; rfl)
  have c11 := (HO4.out.cell 11).trans (show _ = some (.int .i64 0) by rw [HOA.out]; rfl)
  have c12 := (HO4.out.cell 12).trans (show _ = some (.int .i64 0) by rw [HOA.out]; rfl)
  have c13 := (HO4.out.cell 13).trans (show _ = some (.int .i64 0) by rw [HOA.out]; rfl)
  have c14 := (HO4.out.cell 14).trans (show _ = some (.int .i64 0) by rw [HOA.out]; rfl)
  have c15 := (HO4.out.cell 15).trans (show _ = some (.int .i64 0) by rw [HOA.out]; rfl)
  have c16 := (HO4.out.cell 16).trans (show _ = some (.int .i64 0) by rw [HOA.out]; rfl)
  have g5 := HO4.out.frozen 5
  have g6 := HO4.out.frozen 6
  have g10 := HO4.out.frozen 10
  have g11 := HO4.out.frozen 11
  have g12 := HO4.out.frozen 12
  have g13 := HO4.out.frozen 13
  have g14 := HO4.out.frozen 14
  have g15 := HO4.out.frozen 15
  have g16 := HO4.out.frozen 16
  go_region
  obtain ⟨Y, hY⟩ : ∃ Y, Y = ((((((((((X4).setCell ⟨X1.heap.size, 10, none⟩ (.int .i64 1)).setCell ⟨X1.heap.size, 11, none⟩ (.int .i64 0)).setCell ⟨X1.heap.size, 12, none⟩ (.int .i64 0)).setCell ⟨X1.heap.size, 13, none⟩ (.int .i64 5)).setCell ⟨X1.heap.size, 14, none⟩ (.int .i64 5)).setCell ⟨X1.heap.size, 15, none⟩ (.int .i64 0)).setCell ⟨X1.heap.size, 16, none⟩ (.int .i64 0)).setCell ⟨X1.heap.size, 5, none⟩ (.int .i64 0)).setCell ⟨X1.heap.size, 6, none⟩ (.int .i64 7)).drew := ⟨_, rfl⟩
  rw [← hY]
  have HEY := Lib.hid (show Below w.heap.size w Y by rw [hY]; exact (ext_set (ext_set (ext_set (ext_set (ext_set (ext_set (ext_set (ext_set (ext_set (ext_call HE.out HE4.out) (Nat.le_trans HE.out.size HN.out) _) (Nat.le_trans HE.out.size HN.out) _) (Nat.le_trans HE.out.size HN.out) _) (Nat.le_trans HE.out.size HN.out) _) (Nat.le_trans HE.out.size HN.out) _) (Nat.le_trans HE.out.size HN.out) _) (Nat.le_trans HE.out.size HN.out) _) (Nat.le_trans HE.out.size HN.out) _) (Nat.le_trans HE.out.size HN.out) _).drew)
  have HBY := Lib.hid (show Blk Y w.heap.size 57 va by rw [hY]; exact Blk.drew ((((((((((HB.out.ext HE4.out).far (by have := HB.out.lt; have := HN.out; simp; omega) _).far (by have := HB.out.lt; have := HN.out; simp; omega) _).far (by have := HB.out.lt; have := HN.out; simp; omega) _).far (by have := HB.out.lt; have := HN.out; simp; omega) _).far (by have := HB.out.lt; have := HN.out; simp; omega) _).far (by have := HB.out.lt; have := HN.out; simp; omega) _).far (by have := HB.out.lt; have := HN.out; simp; omega) _).far (by have := HB.out.lt; have := HN.out; simp; omega) _).far (by have := HB.out.lt; have := HN.out; simp; omega) _))
  have HOY := Lib.hid (show Blk Y X1.heap.size 57 va by rw [hY]; have h9 := Blk.drew ((((((((((HO4.out).set_ 10 (.int .i64 1)).set_ 11 (.int .i64 0)).set_ 12 (.int .i64 0)).set_ 13 (.int .i64 5)).set_ 14 (.int .i64 5)).set_ 15 (.int .i64 0)).set_ 16 (.int .i64 0)).set_ 5 (.int .i64 0)).set_ 6 (.int .i64 7)); rwa [show (((((((((oa).setIfInBounds 10 (.int .i64 1)).setIfInBounds 11 (.int .i64 0)).setIfInBounds 12 (.int .i64 0)).setIfInBounds 13 (.int .i64 5)).setIfInBounds 14 (.int .i64 5)).setIfInBounds 15 (.int .i64 0)).setIfInBounds 16 (.int .i64 0)).setIfInBounds 5 (.int .i64 0)).setIfInBounds 6 (.int .i64 7) = va by rw [HOA.out, HVA.out]; kernel_rfl] at h9)
  clear hY a5 a6 a10 a11 a12 a13 a14 a15 a16 c5 c6 c10 c11 c12 c13 c14 c15 c16 g5 g6 g10 g11 g12 g13 g14 g15 g16
  obtain ⟨l0, e0⟩ := ld_blk (P := Tryz.prog) (o := 10) (e := 17) HBY.out (show va.extract 10 17 = #[.int .i64 1, .int .i64 0, .int .i64 0, .int .i64 5, .int .i64 5, .int .i64 0, .int .i64 0] by rw [HVA.out]; kernel_rfl) Tryz.underlying44 rfl (by kernel_rfl)
  go_wp2_with fail
  with_reducible refine (queryValid1 _).mono ?_
  rintro e Z ⟨rfl, hbz⟩
  have HEZ := Lib.hid (ext_call HEY.out hbz)
  have HBZ := Lib.hid (HBY.out.ext hbz)
  have HOZ := Lib.hid (HOY.out.ext hbz)
  clear hbz l0 e0
  have l1 := ld_blk (P := Tryz.prog) HBZ.out (show Array.extract va 0 47 = va by rw [HVA.out]; kernel_rfl) Tryz.underlying57 rfl (by rw [HVA.out]; kernel_rfl)
  have l2 := ld_blk (P := Tryz.prog) HOZ.out (show Array.extract va 0 47 = va by rw [HVA.out]; kernel_rfl) Tryz.underlying57 rfl (by rw [HVA.out]; kernel_rfl)
  obtain ⟨l1, e1⟩ := l1
  obtain ⟨l2, e2⟩ := l2
  have HS := Lib.hid (show ∀ W, Calls Tryz.prog 51 #[.agg va, .agg va] W fun e w' => e = .returned (.bool true) ∧ Below W.heap.size W w' by rw [HVA.out]; exact msgSame (7) (2) (100) (0) (0) (0) (7) (0) (0) (0) (1) (0) (0) (5) (5) (0) (0))
  go_wp2_with (go_at_call 51; with_reducible refine (HS.out _).mono ?_; rintro e W9 ⟨rfl, hb9⟩; have HE9 := Lib.hid (ext_call HEZ.out hb9); clear hb9)
  go_ret
  exact ⟨rfl, HE9.out⟩

end Go.Proofs.YtbgfmbmcabekeaaGreatDoor
