/-
  package cachetierlaw27: OriginBeats returns true.
-/
import Derived.Test.YtbgfmbmcabekeaaGreatDoorJ18
import Derived.Test.YtbgfmbmcabekeaaGreatDoorJ20
import Derived.Test.YtbgfmbmcabekeaaGreatDoorJ21
import Derived.Deep.Cut
import Derived.Deep.CutRange
set_option linter.unusedSimpArgs false
set_option linter.unusedVariables false

namespace Go.Proofs.YtbgfmbmcabekeaaGreatDoor
open Go.RowKit Go.Shelf

/-- a list of booleans in memory -/
def BoolsAt (w : World) (v : Value) (G : List Bool) : Prop := ∃ A c, v = .slice A G.length c ∧ (0 < G.length → ∃ b off, A = some ⟨b, off, none⟩ ∧ ∀ (j : Nat) (x : Bool), G[j]? = some x → w.cell? ⟨b, off + j, none⟩ = some (.bool x))
theorem ld_cells {P : Program} {W : World} {b o : Nat} {ty : TypeId} {cs : Array Value} {d : TypeDesc} (h : ∀ (j : Nat) (v : Value), cs[j]? = some v → W.cell? ⟨b, o + j, none⟩ = some v) (hu : P.underlying ty = some d) (hd : d.isRow = true) (hi : (P.info? ty).map (·.size) = some cs.size) :
    LdOK P W (.pointer (some ⟨b, o, none⟩)) ty ∧ ldV P W (.pointer (some ⟨b, o, none⟩)) ty = .agg cs := by
  have hr : W.rangeAt b o cs.toList := fun j v hv => h j v (by simpa using hv)
  have := run_loadAt_mid (P := P) W b o ty cs.toList d hr hu hd (by simpa using hi)
  simp only [Array.toArray_toList] at this
  exact ⟨⟨_, this⟩, by unfold ldV; rw [this]⟩
theorem idx_in {N c j r : Nat} (h : j * (c + 1) + r < N * (c + 1)) : j < N := by
  rcases Nat.lt_or_ge j N with h1 | h1
  · exact h1
  · have := Nat.mul_le_mul_right (c + 1) h1
    omega
theorem idx_out {N c j r : Nat} (hr : r ≤ c) (hj : j ≤ N) (h : ¬ j * (c + 1) + r < N * (c + 1)) : j = N := by
  rcases Nat.lt_or_ge j N with h1 | h1
  · have := Nat.mul_le_mul_right (c + 1) h1
    rw [Nat.succ_mul] at this
    omega
  · omega
/-- where the row of the messages lies -/
theorem tick_cells {W : World} {B np p : Nat} {ep : Int} {L : List (Nat × Option XT)} {A : Option Addr} {c : Nat} (h : W.ownsRow B 57 47 (.slice A L.length c) L.length (tcN np p ep L)) {i : Nat} {m : Nat × Option XT} (hi : L[i]? = some m) :
    ∃ g, A = some ⟨g, 0, none⟩ ∧ ∀ (j : Nat) (v : Value), (tmsg np p ep m)[j]? = some v → W.cell? ⟨g, i * 47 + j, none⟩ = some v := by
  have hl := (List.getElem?_eq_some_iff.1 hi).1
  obtain ⟨g, cap, hv, _, _, _, hc⟩ := own_cells h (by omega)
  injection hv with hv _ _
  refine ⟨g, hv, fun j v hj => hc _ _ ?_⟩
  have hj2 := (Array.getElem?_eq_some_iff.1 hj).1
  rw [tmsg_size] at hj2
  rw [tcN_at np p ep L i m hi j hj2]
  exact hj

/-- Commit, seen from the beats -/
theorem commitB (W1 : World) (hR : RoundOK W1) (gs gl gst gm gn gb gg : Nat) (ep : Int) (Am : Option Addr) (nm cm : Nat) (Ao : Option Addr) (no co : Nat) (vm vo : Value) (ns : List Nat) (gp np cp sent : Nat) (P : List Value) (rv hv : Value) (R : List (List ChgT × Nat × Nat)) (H : List (ByteArray × ByteArray)) (rs : List RowT) (f : Nat → Nat) (l : List ChgT) (v : Value) (w : World)
    (hS : BeatS W1 w gs gl gst gm gn gb gg ep Am nm cm Ao no co vm vo ns gp np cp sent P rv hv R H rs f) (hn : R.length ≤ 50) (hvl : ChgsAt w v l) (hnil : l.length = 0 → v = .slice none 0 0) (hl : GenL l) :
    Calls Tryz.prog 11 #[.pointer (some ⟨gs, 0, none⟩), v] w fun e w' => ∃ (a b : Int) (rv2 hv2 : Value) (R2 : List (List ChgT × Nat × Nat)) (H2 : List (ByteArray × ByteArray)) (rs2 : List RowT), e = .returned (.tuple #[.int .i64 a, .int .i64 b]) ∧ R.length ≤ R2.length ∧ R2.length ≤ R.length + 1 ∧ BeatS W1 w' gs gl gst gm gn gb gg ep Am nm cm Ao no co vm vo ns gp np cp sent P rv2 hv2 R2 H2 rs2 f :=
  (commitH W1 hR gs gl gst gm _ rv hv R H rs l v w hS.ext hS.srv hn hvl hnil hl).mono fun e w' h => by
    rcases h with ⟨h1, h2⟩ | ⟨h1, ⟨rv2, hv2, H2, rs2, x, h2⟩, h3, h4⟩
    · exact ⟨_, _, _, _, _, _, _, h1, Nat.le_refl _, Nat.le_succ _, hS.more h2⟩
    · exact ⟨_, _, _, _, _, _, _, h1, by simp, by simp, hS.commit h2 h3 h4⟩
/-- Tick, seen from the beats -/
theorem tickB (W1 : World) (gs gl gst gm gn gb gg : Nat) (ep : Int) (Am : Option Addr) (nm cm : Nat) (Ao : Option Addr) (no co : Nat) (vm vo : Value) (ns : List Nat) (gp np cp sent : Nat) (P : List Value) (rv hv : Value) (R : List (List ChgT × Nat × Nat)) (H : List (ByteArray × ByteArray)) (rs : List RowT) (f : Nat → Nat) (w : World)
    (hS : BeatS W1 w gs gl gst gm gn gb gg ep Am nm cm Ao no co vm vo ns gp np cp sent P rv hv R H rs f) (hN : NodesOK ns) (hn : R.length ≤ 20) (hnp : np ≤ 100) (hsent : sent ≤ R.length) :
    Calls Tryz.prog 13 #[.pointer (some ⟨gs, 0, none⟩)] w fun e w' => ∃ (g : Nat) (L : List (Nat × Option XT)) (cL gp' cp' : Nat), e = .returned (.slice (some ⟨g, 0, none⟩) L.length cL) ∧ w'.ownsRow W1.heap.size 57 47 (.slice (some ⟨g, 0, none⟩) L.length cL) L.length (tcN np R.length ep L) ∧ TickL ns (R.length - sent) (sent + 1) R L w' ∧
      BeatS W1 w' gs gl gst gm gn gb gg ep Am nm cm Ao no co vm vo ns gp' (np + 1) cp' R.length (P ++ [.int .i64 (R.length : Int)]) rv hv R H rs f := by
  have hb : ns.length * (R.length - sent + 1) ≤ 900 := by
    have h1 := Nat.mul_le_mul hN.few (show R.length - sent + 1 ≤ 21 by omega)
    omega
  refine (tickG W1.heap.size gs gl gst gn gp np cp 0 ep sent R.length Am nm cm Ao no co rv hv R H P ns w hS.at_ hS.srv.log hS.srv.good rfl (by omega) hS.map hN hS.past hS.np1 (by omega) hsent hb hS.ext.size).mono ?_
  rintro e w' ⟨v, L, gp', cp', rfl, ho, hT, hs, hp, hg, hx⟩
  have hL : 0 < L.length := by
    have h1 := hT.len
    have h2 := hN.some_
    have h3 := Nat.mul_le_mul h2 (show 1 ≤ R.length - sent + 1 by omega)
    omega
  obtain ⟨g, cL, rfl, -⟩ := own_cells ho hL
  exact ⟨g, L, cL, gp', cp', rfl, own_mono ho hS.ext.size, hT, hS.tick hs hp hg (by omega) hx⟩
theorem srvAtQ (gs n c k gp : Nat) (p : Int) (hk : k < n) (w : World) (h : w.cell? ⟨gs, 2, none⟩ = some (.slice (some ⟨gp, 0, none⟩) n c)) (hp : w.cell? ⟨gp, k, none⟩ = some (.int .i64 p)) :
    Calls Tryz.prog 15 #[.pointer (some ⟨gs, 0, none⟩), .int .i64 (k : Int)] w fun e w' => e = .returned (.int .i64 p) ∧ w' = w :=
  (srvAtYes gs n c k gp p hk w h hp).mono fun e w' ⟨h1, h2⟩ => ⟨h1, h2.symm⟩
/-- what the loop over the messages of a tick keeps -/
structure MsgS (W1 W : World) (g cL np p c sent : Nat) (ep : Int) (ns : List Nat) (R : List (List ChgT × Nat × Nat)) (L : List (Nat × Option XT)) : Prop where
  row : W.ownsRow W1.heap.size 57 47 (.slice (some ⟨g, 0, none⟩) L.length cL) L.length (tcN np p ep L)
  tick : TickL ns c (sent + 1) R L W
theorem MsgS.more {W1 W W' : World} {g cL np p c sent : Nat} {ep : Int} {ns : List Nat} {R : List (List ChgT × Nat × Nat)} {L : List (Nat × Option XT)} (h : MsgS W1 W g cL np p c sent ep ns R L) (k : Below W.heap.size W W') : MsgS W1 W' g cL np p c sent ep ns R L :=
  ⟨own_ext h.row k, h.tick.keep fun r x hx => hx.ext k⟩
theorem MsgS.count {W1 W W' : World} {g cL np p c sent gg : Nat} {ep : Int} {ns : List Nat} {R : List (List ChgT × Nat × Nat)} {L : List (Nat × Option XT)} {cs : Array Value} (h : MsgS W1 W g cL np p c sent ep ns R L) (hg : Blk W gg 3 cs) (k : ExtS (fun j => j = gg) W W') : MsgS W1 W' g cL np p c sent ep ns R L :=
  ⟨own_extS2 h.row k (own_notS h.row fun j cur hb => blkNe hb hg (by decide)), h.tick.keep fun r x hx => hx.extS k (fun e => by obtain ⟨cur, hb⟩ := hx.blk; exact blkNe hb hg (by decide) e)⟩

attribute [local go_sem ↓] ld_exec ld_sem Go.wp_at_zero Go.wp_at_succ

set_option maxRecDepth 100000 in
set_option maxHeartbeats 16000000 in
theorem beats27 (X : List (List (Int × Int × Int))) (G : List Bool) (v vg : Value) (rg : Int) (r0 : -9223372036854775808 ≤ rg) (r1 : rg ≤ 9223372036854775807) (w : World) (hv : TabAt w v X) (hX : ∀ T ∈ X, In64 T) (hg : BoolsAt w vg G) (hR : RoundOK w) :
    Calls Tryz.prog 3 #[v, vg, .int .i64 rg] w fun e w' => e = .returned (.bool true) ∧ Below w.heap.size w w' := by
  obtain ⟨A, c, rfl, hcell⟩ := hv
  obtain ⟨Ag, cg, rfl, hgoes⟩ := hg
  have HC := Lib.hid hcell
  have HG := Lib.hid hgoes
  have HX := Lib.hid hX
  have HR := Lib.hid hR
  have HO := Lib.hid (fun W => ringOf_any rg r0 r1 W)
  clear hcell hgoes hX hR r0 r1
  go_enter Tryz.func3, Tryz.ntmps3
  go_wp2_with fail
  refine (sane27 w HR.out).mono ?_
  rintro e W1 ⟨rfl, hb1⟩
  have HE1 := Lib.hid hb1
  have HR1 := Lib.hid (HR.out.below hb1)
  clear hb1 HR
  go_wp2_with fail
  refine (originNewH W1 HR1.out).mono ?_
  rintro e W2 ⟨gs, gl, gst, gm, gp, gn, hv, H, rfl, hS, hgs, hb2, hmn, hmap, hpast⟩
  have HS2 := Lib.hid hS
  have HM2 := Lib.hid hmap
  have HP2 := Lib.hid hpast
  have HN := Lib.hid (And.intro hgs hmn.2)
  have HMN := Lib.hid hmn.1
  have HE2 := Lib.hid hb2
  clear hS hmap hpast hgs hmn hb2
  go_wp2_with fail
  refine (HO.out W2).mono ?_
  rintro e W3 ⟨ns, ep, r, rfl, hns, he1, he9, ⟨vm, vo, os, rfl, hm, ho, hl, hos, hlim⟩, hb3⟩
  have HE3 := Lib.hid (ext_call HE2.out hb3)
  have HS3 := Lib.hid (HS2.out.ext hb3)
  have HM3 := Lib.hid (HM2.out.ext hb3)
  have HP3 := Lib.hid (own_ext HP2.out hb3)
  have HA3 := Lib.hid (And.intro hm ho)
  have HLA := Lib.hid (And.intro hl (And.intro hos hlim))
  have HNA := Lib.hid hns
  have HEA := Lib.hid (And.intro he1 he9)
  obtain ⟨Avm, cvm, rfl, -⟩ := hm
  obtain ⟨Avo, cvo, rfl, -⟩ := ho
  have HZ := Lib.hid (Blk.new W3 30 #[.int .i64 0, .slice none 0 0, .slice none 0 0])
  clear hb3 hns he1 he9 hl hos hlim HS2 HM2 HP2 HE2 HO
  go_upto_region 4 with (refine store_ring rfl (.tmp 9) (.tmp 21) rfl W3.heap.size ep Avm Avo ns.length cvm os.length cvo rfl rfl #[.int .i64 0, .slice none 0 0, .slice none 0 0] HZ.out rfl ?_; intro W4 hB9 hg9; have HT4 := Lib.hid hB9; have HB4 := Lib.hid (ext_put3 rfl hg9 rfl); clear hB9 hg9 HZ)
  have HE4 := Lib.hid (ext_call HE3.out HB4.out)
  have HS4 := Lib.hid (HS3.out.ext HB4.out)
  have HM4 := Lib.hid (HM3.out.ext HB4.out)
  have HP4 := Lib.hid (own_ext HP3.out HB4.out)
  have HA4 := Lib.hid (And.intro (HA3.out.1.ext HB4.out) (HA3.out.2.ext HB4.out))
  generalize W3.heap.size = gb at HT4 ⊢
  have HRg := Lib.hid (setRingYes gs gl gst gn gp 1 1 0 0 0 none 0 0 none 0 0 [] ns os ep _ _ W4 HS4.out.srv HM4.out HA4.out.1 HNA.out HA4.out.2 HLA.out.1 HLA.out.2.1 HLA.out.2.2 HEA.out.1 (by have := HEA.out.2; omega) (by have := HEA.out.1; omega))
  obtain ⟨x0, x1, x2⟩ := bcells3 HT4.out
  clear HB4 HS3 HM3 HP3 HA3 HE3
  go_wp2_with fail
  refine HRg.out.mono ?_
  rintro e W5 ⟨rfl, ⟨Am, nm, cm, Ao, no, co, hs5, -, -⟩, hmp5, hx5⟩
  have HS5 := Lib.hid (show ServG W1.heap.size W5 gs gl gst gm (rCells gl gst gp 1 1 ep Am nm cm Ao no co gn 0) (.slice none 0 0) hv [] H [] from
    HS4.out.extS hx5 (fun g t cur hb ht => by
      rintro (e | e)
      · exact blkNe hb HS4.out.srv (by rcases ht with rfl | rfl | rfl | rfl | rfl <;> decide) e
      · exact MapI.neBlk HM4.out hb e) (by
      obtain ⟨es, c, hm, _⟩ := HS4.out.st.2
      rintro (e | e)
      · exact blkNeMap HS4.out.srv hm e.symm
      · exact HMN.out e) hs5 rfl rfl)
  have HM5 := Lib.hid hmp5
  have HP5 := Lib.hid (own_extS2 HP4.out hx5 (own_notS HP4.out fun g cur hb => by
    rintro (e | e)
    · exact blkNe hb HS4.out.srv (by decide) e
    · exact MapI.neBlk HM4.out hb e))
  have HT5 := Lib.hid (Blk.srv HT4.out (by decide) HS4.out.srv HM4.out hx5)
  have HE5 := Lib.hid (ExtS.below HE4.out (by rintro k (h | h) <;> rw [h]; exact HN.out.1; exact HN.out.2) hx5)
  clear hs5 hmp5 hx5 HS4 HM4 HP4 HA4 HT4 HE4 HRg x0 x1 x2
  have hmk : ∀ W : World, (Instr.makeSlice 28 (.int .i64 24) (.int .i64 24)).run Tryz.prog W = .ok (.slice (some ⟨W.heap.size, 0, none⟩) 24 24) (W.alloc (.cells (Array.replicate 24 (.int .i64 0)) 3)) := fun _ => by kernel_rfl
  go_wp2
  clear hmk
  obtain ⟨gg, hgg⟩ : ∃ gg, gg = W5.heap.size := ⟨_, rfl⟩
  obtain ⟨W6, hW6⟩ : ∃ W, W = W5.alloc (.cells (Array.replicate 24 (.int .i64 0)) 3) := ⟨_, rfl⟩
  have HB6 := Lib.hid (show BeatS W1 W6 gs gl gst gm gn gb gg ep Am nm cm Ao no co _ _ ns gp 1 1 0 _ _ hv [] H [] (fun _ => 0) by
    have h9 := ext_new W5 (.cells (Array.replicate 24 (.int .i64 0)) 3)
    rw [← hW6] at h9
    exact ⟨HS5.out.ext h9, own_ext HP5.out h9, by rw [hgg]; exact Nat.ne_of_lt (HP5.out.lt gp rfl).2, HM5.out.ext h9, HMN.out, by rw [hW6, hgg]; exact Blk.new _ _ _, HT5.out.ext h9, ext_call HE5.out h9, ⟨HN.out.1, by rw [hgg]; exact HE5.out.size⟩, Nat.le_refl _⟩)
  have hz : World.heap W5 = World.heap W5 := rfl
  rw [← hW6, ← hgg]
  clear hz hW6 hgg HS5 HM5 HP5 HT5 HE5
  obtain ⟨vm, hvm⟩ : ∃ vm, vm = Value.slice Avm ns.length cvm := ⟨_, rfl⟩
  obtain ⟨vo, hvo⟩ : ∃ vo, vo = Value.slice Avo os.length cvo := ⟨_, rfl⟩
  rw [← hvm, ← hvo] at HB6
  have HVM := Lib.hid hvm
  clear hvm hvo
  go_loopg [11, 12, 13, 14, 15, 16, 17] 20 (fun gk lastv iv _ _ _ _ _ W => ∃ (k gp np cp sent : Nat) (P : List Value) (rv hv : Value) (R : List (List ChgT × Nat × Nat)) (H : List (ByteArray × ByteArray)) (rs : List RowT) (f : Nat → Nat), k + gk = 20 ∧ k ≤ X.length ∧ R.length ≤ k ∧ np ≤ k + 1 ∧ sent ≤ R.length ∧ (∀ n ∈ ns, f n = sent) ∧ lastv = .int .i64 (sent : Int) ∧ iv = .int .i64 k ∧
      BeatS W1 W gs gl gst gm gn gb gg ep Am nm cm Ao no co vm vo ns gp np cp sent P rv hv R H rs f)
  case atStart => exact ⟨0, gp, 1, 1, 0, _, _, hv, [], H, [], fun _ => 0, by omega, by omega, by simp, by omega, by simp, fun _ _ => rfl, rfl, rfl, HB6.out⟩
  case round =>
    obtain ⟨k, gp, np, cp, sent, P, rv, hv, R, H, rs, f, hk20, hkX, hRk, hnpk, hsR, hf, rfl, rfl, hB⟩ := hrel
    have HB := Lib.hid hB
    have HF := Lib.hid hf
    have hnp0 := HB.out.np1
    clear hB hf HB6
    have e2 : IntKind.i64.wrap ((k : Int) + 1) = (k : Int) + 1 := by rw [IntWalk.i64_in _ (by omega)]
    by_cases hgo : k < X.length ∧ k < 20
    · obtain ⟨hlt, hk⟩ := hgo
      obtain ⟨b, off, rfl, hc⟩ := HC.out (by omega)
      obtain ⟨T, hT⟩ : ∃ T, X[k]? = some T := ⟨_, List.getElem?_eq_getElem hlt⟩
      obtain ⟨u, hu, ht⟩ := hc k T hT
      have hE := ext_call HE1.out HB.out.ext
      have z0 := cell_ext hu hE
      have HCH := Lib.hid (changes_any T u wr (ht.ext hE) (HX.out T (List.mem_of_getElem? hT)))
      have q0 : (0 : Int) ≤ (k : Int) := by omega
      have q1 : (k : Int) < (X.length : Int) := by omega
      have q2 : (k : Int) < 20 := by omega
      clear hu ht hc hT hE
      go_wp2_with fail
      refine HCH.out.mono ?_
      rintro e W2 ⟨u2, l, rfl, hl, hg, hnil, hb2⟩
      have HCM := Lib.hid (commitB W1 HR1.out gs gl gst gm gn gb gg ep Am nm cm Ao no co vm vo ns gp np cp sent P rv hv R H rs f l u2 W2 (HB.out.more hb2) (by omega) hl hnil hg)
      clear hl hg hnil hb2 HCH HB z0
      go_wp2_with fail
      refine HCM.out.mono ?_
      rintro e W3 ⟨a1, a2, rv, hv, R2, H, rs, rfl, hR1, hR2, hB⟩
      have HB := Lib.hid hB
      clear hB HCM
      by_cases hstop : ∃ h : k < G.length, G[k] = false
      · obtain ⟨hkG, hGk⟩ := hstop
        obtain ⟨bg, og, rfl, hgc⟩ := HG.out (by omega)
        have g0 := cell_ext (hgc k false (by rw [List.getElem?_eq_getElem hkG, hGk])) (ext_call HE1.out HB.out.ext)
        have q3 : (k : Int) < (G.length : Int) := by omega
        clear hgc hGk
        go_wp2
        go_roundg (gk - 1)
        case measure => omega
        case rel => exact ⟨k + 1, gp, np, cp, sent, P, rv, hv, R2, H, rs, f, by omega, by omega, by omega, by omega, by omega, HF.out, rfl, by go_num, HB.out⟩
      · have hgoOn : (¬ k < G.length) ∨ (∃ bg og, Ag = some ⟨bg, og, none⟩ ∧ k < G.length ∧ W3.cell? ⟨bg, og + k, none⟩ = some (.bool true)) := by
          by_cases hkG : k < G.length
          · obtain ⟨bg, og, h1, hgc⟩ := HG.out (by omega)
            refine .inr ⟨bg, og, h1, hkG, cell_ext (hgc k true ?_) (ext_call HE1.out HB.out.ext)⟩
            rw [List.getElem?_eq_getElem hkG]
            cases hb9 : G[k] with
            | false => exact absurd ⟨hkG, hb9⟩ hstop
            | true => rfl
          · exact .inl hkG
        have HTK := Lib.hid (tickB W1 gs gl gst gm gn gb gg ep Am nm cm Ao no co vm vo ns gp np cp sent P rv hv R2 H rs f W3 HB.out HNA.out (by omega) (by omega) (by omega))
        have HUP := Lib.hid hgoOn
        clear hstop hgoOn HB
        go_upto_region 12 with (fail)
        go_cut [54] from 27 to 162 (fun t W => t = .bool false ∧ W = W3)
        case first =>
          rcases HUP.out with h9 | ⟨bg, og, rfl, h9, g0⟩
          · have d9 : decide ((k : Int) < (G.length : Int)) = false := by simp; omega
            go_wp2_with fail
            go_meet
            case rel => exact ⟨rfl, rfl⟩
          · have q3 : (k : Int) < (G.length : Int) := by omega
            go_wp2_with fail
            go_meet
            case rel => exact ⟨rfl, rfl⟩
        case rest =>
          obtain ⟨rfl, rfl⟩ := hcut
          go_wp2_with fail
          refine HTK.out.mono ?_
          rintro e W4 ⟨g, L, cL, gp', cp', rfl, hrow, hT, hB⟩
          have HB := Lib.hid hB
          have HMS := Lib.hid (show MsgS W1 W4 g cL np R2.length (R2.length - sent) sent ep ns R2 L from ⟨hrow, hT⟩)
          have hnp1 := hB.np1
          clear hrow hT hB HTK
          have s2 : W4.cell? ⟨gs, 2, none⟩ = some (.slice (some ⟨gp', 0, none⟩) (np + 1) cp') := Blk.cell HB.out.srv.srv 2
          have pl := past_last HB.out.past
          have HTM := Lib.hid (show Calls Tryz.prog 14 #[.pointer (some ⟨gs, 0, none⟩)] W4 fun e w' => e = .returned (.int .i64 (np : Int)) ∧ W4 = w' by
            have h9 := srvTime gs (np + 1) cp' _ (by omega) W4 s2
            rwa [show (((np + 1 : Nat) : Int) - 1) = (np : Int) by omega] at h9)
          have HPA := Lib.hid (srvAtYes gs (np + 1) cp' np gp' (R2.length : Int) (by omega) W4 s2 pl)
          have HPS := Lib.hid (show Calls Tryz.prog 16 #[.pointer (some ⟨gs, 0, none⟩)] W4 fun e w' => e = .returned (.int .i64 (R2.length : Int)) ∧ W4 = w' by
            obtain ⟨Ar, cr, hrv⟩ := own_shape HB.out.srv.log.recs
            have h9 := HB.out.srv.log.log
            rw [hrv] at h9
            exact srvPos gs gl R2.length cr Ar hv W4 (by rw [HB.out.srv.srv.cell]; exact HB.out.srv.c0) h9)
          have d3 : decide ((R2.length : Int) < (sent : Int)) = false := by simp; omega
          clear s2 pl
          go_wp2_with (first | (go_at_call 14; with_reducible refine HTM.out.mono ?_; rintro e w' ⟨rfl, hw'⟩; subst w') | (go_at_call 15; with_reducible refine HPA.out.mono ?_; rintro e w' ⟨rfl, hw'⟩; subst w') | (go_at_call 16; with_reducible refine HPS.out.mono ?_; rintro e w' ⟨rfl, hw'⟩; subst w'))
          obtain ⟨c, hc⟩ : ∃ c, c = R2.length - sent := ⟨_, rfl⟩
          rw [← hc] at HMS
          have HPC := Lib.hid (show sent + c = R2.length by omega)
          have HLL := Lib.hid (show L.length = ns.length * (c + 1) from HMS.out.tick.len)
          have hL9 : L.length ≤ 1000 := by
            have h1 := HLL.out
            have h2 := Nat.mul_le_mul HNA.out.few (show c + 1 ≤ 21 by omega)
            omega
          have HNP := Lib.hid (show 1 ≤ np ∧ np ≤ 100 ∧ R2.length ≤ 100 from ⟨hnp0, by omega, by omega⟩)
          clear d3 HTM HPA HPS hc HUP hnp1
          go_loopg [15, 16, 17] L.length (fun gi bv kv _ W => ∃ (mi j r : Nat) (f : Nat → Nat), mi + gi = L.length ∧ mi = j * (c + 1) + r ∧ r ≤ c ∧ j ≤ ns.length ∧ bv = .int .i64 j ∧ kv = .int .i64 mi ∧ GotR ns sent c j r f ∧
            BeatS W1 W gs gl gst gm gn gb gg ep Am nm cm Ao no co vm vo ns gp' (np + 1) cp' R2.length (P ++ [.int .i64 (R2.length : Int)]) rv hv R2 H rs f ∧ MsgS W1 W g cL np R2.length c sent ep ns R2 L)
          case atStart => exact ⟨0, 0, 0, f, by omega, by omega, by omega, by omega, rfl, rfl, GotR.start HF.out, HB.out, HMS.out⟩
          case round =>
            obtain ⟨mi, j, r, f, hmi, hmj, hrc, hjn, rfl, rfl, hG, hB, hM⟩ := hrel
            have HB := Lib.hid hB
            have HM := Lib.hid hM
            have HGR := Lib.hid hG
            have HMJ := Lib.hid hmj
            clear hB hM hG HMS HF hmj
            have em : IntKind.i64.wrap ((mi : Int) + 1) = (mi : Int) + 1 := IntWalk.i64_in _ (by omega)
            have ej : IntKind.i64.wrap ((j : Int) + 1) = (j : Int) + 1 := IntWalk.i64_in _ (by have := HNA.out.few; omega)
            by_cases hlt : mi < L.length
            · have HJN := Lib.hid (show j < ns.length from idx_in (c := c) (r := r) (by rw [← HMJ.out, ← HLL.out]; exact hlt))
              obtain ⟨n, hn⟩ : ∃ n, ns[j]? = some n := ⟨_, List.getElem?_eq_getElem HJN.out⟩
              have HNJ := Lib.hid hn
              have n0 : (0 : Int) ≤ (n : Int) := by omega
              have n1 : (n : Int) < 24 := by have := HNA.out.below n (List.mem_of_getElem? hn); omega
              have q0 : (0 : Int) ≤ (mi : Int) := by omega
              have q1 : (mi : Int) < (L.length : Int) := by omega
              clear hn
              rcases Nat.lt_or_ge r c with hr | hr
              · obtain ⟨x, hx, hrm⟩ := HM.out.tick.recs j n r HNJ.out hr
                rw [← HMJ.out] at hx
                obtain ⟨g', hg', hcells⟩ := tick_cells HM.out.row hx
                obtain rfl : g = g' := by injection hg' with h; injection h
                obtain ⟨va, hva⟩ : ∃ va, va = msgN (n : Int) x := ⟨_, rfl⟩
                have hcells2 : ∀ (j : Nat) (v : Value), va[j]? = some v → wr.cell? ⟨g, mi * 47 + j, none⟩ = some v := by rw [hva]; exact hcells
                obtain ⟨l1, e1⟩ := ld_cells (P := Tryz.prog) (ty := 57) hcells2 Tryz.underlying57 rfl (by rw [hva]; kernel_rfl)
                obtain ⟨y, hy1, hy2, hy3, hy4⟩ := hrm.at_
                obtain ⟨q, hq⟩ : ∃ q, q = sent + r := ⟨_, rfl⟩
                have hx1 : x.1 = q + 1 := by have := hrm.pos; omega
                have hgy := HB.out.srv.good y (List.mem_of_getElem? hy1)
                have HVA := Lib.hid hva
                have HQ := Lib.hid hq
                have HX1 := Lib.hid hx1
                have HRM := Lib.hid (And.intro hy2 (And.intro hy3 (And.intro hy4 hgy)))
                have hq9 : q ≤ 100 := by have := HPC.out; omega
                clear hq hx1
                obtain ⟨x1, x2, x3, x4⟩ := x
                have HX2 := Lib.hid (show x1 = q + 1 from HX1.out)
                have HZ := Lib.hid (Blk.new wr 57 #[.int .i64 0, .int .i64 0, .int .i64 0, .int .i64 0, .int .i64 0, .int .i64 0, .int .i64 0, .int .i64 0, .int .i64 0, .int .i64 0, .int .i64 0, .int .i64 0, .int .i64 0, .int .i64 0, .int .i64 0, .int .i64 0, .int .i64 0, .int .i64 0, .slice none 0 0, .int .i64 0, .int .i64 0, .int .i64 0, .int .i64 0, .int .i64 0, .int .i64 0, .int .i64 0, .int .i64 0, .int .i64 0, .slice none 0 0, .int .i64 0, .int .i64 0, .int .i64 0, .int .i64 0, .int .i64 0, .int .i64 0, .int .i64 0, .slice none 0 0, .int .i64 0, .bool false, .int .i64 0, .int .i64 0, .int .i64 0, .slice none 0 0, .slice none 0 0, .int .i64 0, .slice none 0 0, .slice none 0 0])
                have HI := Lib.hid (show (Tryz.prog.info? 57).map (·.size) = some va.size by rw [HVA.out]; kernel_rfl)
                have HSZ := Lib.hid (show (#[.int .i64 0, .int .i64 0, .int .i64 0, .int .i64 0, .int .i64 0, .int .i64 0, .int .i64 0, .int .i64 0, .int .i64 0, .int .i64 0, .int .i64 0, .int .i64 0, .int .i64 0, .int .i64 0, .int .i64 0, .int .i64 0, .int .i64 0, .int .i64 0, .slice none 0 0, .int .i64 0, .int .i64 0, .int .i64 0, .int .i64 0, .int .i64 0, .int .i64 0, .int .i64 0, .int .i64 0, .int .i64 0, .slice none 0 0, .int .i64 0, .int .i64 0, .int .i64 0, .int .i64 0, .int .i64 0, .int .i64 0, .int .i64 0, .slice none 0 0, .int .i64 0, .bool false, .int .i64 0, .int .i64 0, .int .i64 0, .slice none 0 0, .slice none 0 0, .int .i64 0, .slice none 0 0, .slice none 0 0] : Array Value).size = va.size by rw [HVA.out]; rfl)
                have H1 := Lib.hid (show va.all (·.oneCell') = true by rw [HVA.out]; simp [msgN, Value.oneCell'])
                clear hva hcells hcells2 hg' hx
                go_upto_region 23 with (refine wpList_store_blk rfl 57 (.tmp 17) (.tmp 84) rfl wr.heap.size va rfl rfl 57 #[.int .i64 0, .int .i64 0, .int .i64 0, .int .i64 0, .int .i64 0, .int .i64 0, .int .i64 0, .int .i64 0, .int .i64 0, .int .i64 0, .int .i64 0, .int .i64 0, .int .i64 0, .int .i64 0, .int .i64 0, .int .i64 0, .int .i64 0, .int .i64 0, .slice none 0 0, .int .i64 0, .int .i64 0, .int .i64 0, .int .i64 0, .int .i64 0, .int .i64 0, .int .i64 0, .int .i64 0, .int .i64 0, .slice none 0 0, .int .i64 0, .int .i64 0, .int .i64 0, .int .i64 0, .int .i64 0, .int .i64 0, .int .i64 0, .slice none 0 0, .int .i64 0, .bool false, .int .i64 0, .int .i64 0, .int .i64 0, .slice none 0 0, .slice none 0 0, .int .i64 0, .slice none 0 0, .slice none 0 0] HZ.out HI.out HSZ.out H1.out ?_; intro W5 hB5 hg5; have HB5 := Lib.hid hB5; have HE5 := Lib.hid (ext_put3 rfl hg5 rfl); clear hB5 hg5)
                clear l1 e1 HZ HI HSZ H1
                have hbm : wr.heap.size < W5.heap.size := HB5.out.lt
                generalize wr.heap.size = bm at HB5 hbm ⊢
                have l1 := ld_blk (P := Tryz.prog) HB5.out (show Array.extract va 0 47 = va by rw [HVA.out]; kernel_rfl) Tryz.underlying57 rfl (by rw [HVA.out]; kernel_rfl)
                obtain ⟨l1, e1⟩ := l1
                have HV := Lib.hid (show Calls Tryz.prog 17 #[.agg va] W5 fun e w' => e = .returned (.bool true) ∧ Below W5.heap.size W5 w' by
                  rw [HVA.out]
                  have h9 := HRM.out
                  dsimp only at h9
                  exact validRec (n : Int) (x1 : Int) n0 (by omega) (by have := HX2.out; omega) (by have := HX2.out; omega) (some ⟨x3, 0, none⟩) x2 x4 y.1 W5 (by rw [h9.1]; exact (h9.2.1.ext HE5.out).at_ h9.2.2.1) h9.2.2.2)
                go_wp2_with fail
                refine HV.out.mono ?_
                rintro e W6 ⟨rfl, hb6⟩
                have HE6 := Lib.hid (ext_call HE5.out hb6)
                have HB6 := Lib.hid (HB5.out.ext hb6)
                have HBT := Lib.hid (HB.out.more HE6.out)
                have HMT := Lib.hid (HM.out.more HE6.out)
                clear hb6 HV l1 e1 HB HM HE5 HB5
                have a0 := (HB6.out.cell 0).trans (show va[0]? = some (.int .i64 1) by rw [HVA.out]; rfl)
                have a1 := (HB6.out.cell 1).trans (show va[1]? = some (.int .i64 100) by rw [HVA.out]; rfl)
                have a2 := (HB6.out.cell 2).trans (show va[2]? = some (.int .i64 (n : Int)) by rw [HVA.out]; rfl)
                have a17 := (HB6.out.cell 17).trans (show va[17]? = some (.int .i64 ((q : Int) + 1)) by rw [HVA.out]; show some (Value.int .i64 (x1 : Int)) = _; rw [HX2.out]; rfl)
                have c0 := (HBT.out.got.cell n).trans ((gotF_at f n (by omega)).trans (show some (Value.int .i64 (f n : Int)) = some (.int .i64 (q : Int)) by rw [((HGR.out j n HNJ.out).2.1 rfl), HQ.out]))
                have eq1 : IntKind.i64.wrap ((q : Int) + 1) = (q : Int) + 1 := IntWalk.i64_in _ (by omega)
                go_upto_region 28 with (fail)
                go_quiet (fail)
                obtain ⟨W7, hW7⟩ : ∃ W, W = W6.drewN nq := ⟨_, rfl⟩
                rw [← hW7]
                have HE7 := Lib.hid (show Below W6.heap.size W6 W7 by rw [hW7]; exact ext_drewN (ext_refl _) _)
                have HB7 := Lib.hid (HB6.out.ext HE7.out)
                have HBT7 := Lib.hid (HBT.out.more HE7.out)
                have HMT7 := Lib.hid (HMT.out.more HE7.out)
                clear hW7 a0 a1 a2 a17 c0 HB6 HBT HMT
                have a0 := (HB7.out.cell 0).trans (show va[0]? = some (.int .i64 1) by rw [HVA.out]; rfl)
                have a2 := (HB7.out.cell 2).trans (show va[2]? = some (.int .i64 (n : Int)) by rw [HVA.out]; rfl)
                have c0 := (HBT7.out.got.cell n).trans ((gotF_at f n (by omega)).trans (show some (Value.int .i64 (f n : Int)) = some (.int .i64 (q : Int)) by rw [((HGR.out j n HNJ.out).2.1 rfl), HQ.out]))
                have f0 := HBT7.out.got.frozen n
                go_wp2
                go_roundg (gk - 1)
                case measure => omega
                case rel =>
                  have hk : ExtS (fun j => j = gg) W7 (W7.setCell ⟨gg, n, none⟩ (.int .i64 ((q : Int) + 1))) := ExtS.set1 _ _ _ _
                  refine ⟨mi + 1, j, r + 1, _, by omega, by have := HMJ.out; omega, by omega, hjn, rfl, by go_num, HGR.out.rec_ HNA.out HNJ.out, HBT7.out.count ?_ hk, HMT7.out.count HBT7.out.got hk⟩
                  rw [← gotF_set, show ((sent + r + 1 : Nat) : Int) = (q : Int) + 1 by have := HQ.out; omega]
                  exact HBT7.out.got.set_ n _
              · obtain rfl : r = c := by omega
                have hx := HM.out.tick.beat j n HNJ.out
                rw [← HMJ.out] at hx
                obtain ⟨g', hg', hcells⟩ := tick_cells HM.out.row hx
                obtain rfl : g = g' := by injection hg' with h; injection h
                obtain ⟨va, hva⟩ : ∃ va, va = msgBN (n : Int) np R2.length ep := ⟨_, rfl⟩
                have hcells2 : ∀ (j : Nat) (v : Value), va[j]? = some v → wr.cell? ⟨g, mi * 47 + j, none⟩ = some v := by rw [hva]; exact hcells
                obtain ⟨l1, e1⟩ := ld_cells (P := Tryz.prog) (ty := 57) hcells2 Tryz.underlying57 rfl (by rw [hva]; kernel_rfl)
                have HVA := Lib.hid hva
                have HZ := Lib.hid (Blk.new wr 57 #[.int .i64 0, .int .i64 0, .int .i64 0, .int .i64 0, .int .i64 0, .int .i64 0, .int .i64 0, .int .i64 0, .int .i64 0, .int .i64 0, .int .i64 0, .int .i64 0, .int .i64 0, .int .i64 0, .int .i64 0, .int .i64 0, .int .i64 0, .int .i64 0, .slice none 0 0, .int .i64 0, .int .i64 0, .int .i64 0, .int .i64 0, .int .i64 0, .int .i64 0, .int .i64 0, .int .i64 0, .int .i64 0, .slice none 0 0, .int .i64 0, .int .i64 0, .int .i64 0, .int .i64 0, .int .i64 0, .int .i64 0, .int .i64 0, .slice none 0 0, .int .i64 0, .bool false, .int .i64 0, .int .i64 0, .int .i64 0, .slice none 0 0, .slice none 0 0, .int .i64 0, .slice none 0 0, .slice none 0 0])
                have HI := Lib.hid (show (Tryz.prog.info? 57).map (·.size) = some va.size by rw [HVA.out]; kernel_rfl)
                have HSZ := Lib.hid (show (#[.int .i64 0, .int .i64 0, .int .i64 0, .int .i64 0, .int .i64 0, .int .i64 0, .int .i64 0, .int .i64 0, .int .i64 0, .int .i64 0, .int .i64 0, .int .i64 0, .int .i64 0, .int .i64 0, .int .i64 0, .int .i64 0, .int .i64 0, .int .i64 0, .slice none 0 0, .int .i64 0, .int .i64 0, .int .i64 0, .int .i64 0, .int .i64 0, .int .i64 0, .int .i64 0, .int .i64 0, .int .i64 0, .slice none 0 0, .int .i64 0, .int .i64 0, .int .i64 0, .int .i64 0, .int .i64 0, .int .i64 0, .int .i64 0, .slice none 0 0, .int .i64 0, .bool false, .int .i64 0, .int .i64 0, .int .i64 0, .slice none 0 0, .slice none 0 0, .int .i64 0, .slice none 0 0, .slice none 0 0] : Array Value).size = va.size by rw [HVA.out]; rfl)
                have H1 := Lib.hid (show va.all (·.oneCell') = true by rw [HVA.out]; simp [msgBN, Value.oneCell'])
                clear hva hcells hcells2 hg' hx
                go_upto_region 23 with (refine wpList_store_blk rfl 57 (.tmp 17) (.tmp 84) rfl wr.heap.size va rfl rfl 57 #[.int .i64 0, .int .i64 0, .int .i64 0, .int .i64 0, .int .i64 0, .int .i64 0, .int .i64 0, .int .i64 0, .int .i64 0, .int .i64 0, .int .i64 0, .int .i64 0, .int .i64 0, .int .i64 0, .int .i64 0, .int .i64 0, .int .i64 0, .int .i64 0, .slice none 0 0, .int .i64 0, .int .i64 0, .int .i64 0, .int .i64 0, .int .i64 0, .int .i64 0, .int .i64 0, .int .i64 0, .int .i64 0, .slice none 0 0, .int .i64 0, .int .i64 0, .int .i64 0, .int .i64 0, .int .i64 0, .int .i64 0, .int .i64 0, .slice none 0 0, .int .i64 0, .bool false, .int .i64 0, .int .i64 0, .int .i64 0, .slice none 0 0, .slice none 0 0, .int .i64 0, .slice none 0 0, .slice none 0 0] HZ.out HI.out HSZ.out H1.out ?_; intro W5 hB5 hg5; have HB5 := Lib.hid hB5; have HE5 := Lib.hid (ext_put3 rfl hg5 rfl); clear hB5 hg5)
                clear l1 e1 HZ HI HSZ H1
                have hbm : wr.heap.size < W5.heap.size := HB5.out.lt
                generalize wr.heap.size = bm at HB5 hbm ⊢
                have l1 := ld_blk (P := Tryz.prog) HB5.out (show Array.extract va 0 47 = va by rw [HVA.out]; kernel_rfl) Tryz.underlying57 rfl (by rw [HVA.out]; kernel_rfl)
                obtain ⟨l1, e1⟩ := l1
                have HV := Lib.hid (show Calls Tryz.prog 17 #[.agg va] W5 fun e w' => e = .returned (.bool true) ∧ Below W5.heap.size W5 w' by
                  rw [HVA.out]
                  exact validBeat (n : Int) (np : Int) (R2.length : Int) ep n0 (by omega) (by have := HNP.out.1; omega) (by have := HNP.out.2.1; omega) (by omega) (by have := HNP.out.2.2; omega) (by have := HEA.out.1; omega) (by have := HEA.out.2; omega) W5)
                go_wp2_with fail
                refine HV.out.mono ?_
                rintro e W6 ⟨rfl, hb6⟩
                have HE6 := Lib.hid (ext_call HE5.out hb6)
                have HB6 := Lib.hid (HB5.out.ext hb6)
                have HBT := Lib.hid (HB.out.more HE6.out)
                have HMT := Lib.hid (HM.out.more HE6.out)
                clear hb6 HV l1 e1 HB HM HE5 HB5
                have a0 := (HB6.out.cell 0).trans (show va[0]? = some (.int .i64 2) by rw [HVA.out]; rfl)
                have a1 := (HB6.out.cell 1).trans (show va[1]? = some (.int .i64 100) by rw [HVA.out]; rfl)
                have a2 := (HB6.out.cell 2).trans (show va[2]? = some (.int .i64 (n : Int)) by rw [HVA.out]; rfl)
                have a4 := (HB6.out.cell 4).trans (show va[4]? = some (.int .i64 ep) by rw [HVA.out]; rfl)
                have a7 := (HB6.out.cell 7).trans (show va[7]? = some (.int .i64 (np : Int)) by rw [HVA.out]; rfl)
                have a9 := (HB6.out.cell 9).trans (show va[9]? = some (.int .i64 (R2.length : Int)) by rw [HVA.out]; rfl)
                have c0 := (HBT.out.got.cell n).trans ((gotF_at f n (by omega)).trans (show some (Value.int .i64 (f n : Int)) = some (.int .i64 (R2.length : Int)) by rw [((HGR.out j n HNJ.out).2.1 rfl), HPC.out]))
                have b0 := HBT.out.ring.cell 0
                have HPQ := Lib.hid (show ∀ k : Nat, Calls Tryz.prog 15 #[.pointer (some ⟨gs, 0, none⟩), .int .i64 (np : Int)] (W6.drewN k) fun e w' => e = .returned (.int .i64 (R2.length : Int)) ∧ w' = W6.drewN k from fun k =>
                  srvAtQ gs (np + 1) cp' np gp' (R2.length : Int) (by omega) (W6.drewN k) (Blk.cell ((HBT.out.more (ext_drewN (ext_refl _) k)).srv.srv) 2) (past_last (HBT.out.more (ext_drewN (ext_refl _) k)).past))
                go_upto_region 33 with (fail)
                go_quiet ((go_at_call 15; with_reducible refine Calls.quiet_of_same (HPQ.out _)))
                obtain ⟨W7, hW7⟩ : ∃ W, W = W6.drewN nq := ⟨_, rfl⟩
                rw [← hW7]
                have HE7 := Lib.hid (show Below W6.heap.size W6 W7 by rw [hW7]; exact ext_drewN (ext_refl _) _)
                have HBT7 := Lib.hid (HBT.out.more HE7.out)
                have HMT7 := Lib.hid (HMT.out.more HE7.out)
                clear hW7 a0 a1 a2 a4 a7 a9 b0 c0 HB6 HBT HMT HPQ
                go_wp2
                go_roundg (gk - 1)
                case measure => omega
                case rel => exact ⟨mi + 1, j + 1, 0, f, by omega, by have := HMJ.out; rw [Nat.succ_mul]; omega, by omega, HJN.out, by go_num, by go_num, HGR.out.beat, HBT7.out, HMT7.out⟩
            · have hj : j = ns.length := idx_out hrc hjn (by rw [← HMJ.out, ← HLL.out]; exact hlt)
              subst hj
              have b1 := (HB.out.ring.cell 1).trans (show some vm = some (Value.slice Avm ns.length cvm) by rw [HVM.out])
              have HDN := Lib.hid (show ∀ n ∈ ns, f n = R2.length from fun n hn => by rw [HGR.out.done n hn, HPC.out])
              have hbx : decide ((ns.length : Int) ≠ (ns.length : Int)) = false := by simp
              clear HGR HMJ HM
              go_wp2
              go_roundg (19 - k)
              case measure => omega
              case rel => exact ⟨k + 1, gp', np + 1, cp', R2.length, _, rv, hv, R2, H, rs, f, by omega, by omega, by omega, by omega, by omega, HDN.out, rfl, by go_num, HB.out⟩
    · have hexit : (¬ k < X.length) ∨ ¬ k < 20 := by omega
      have s2 : wr.cell? ⟨gs, 2, none⟩ = some (.slice (some ⟨gp, 0, none⟩) np cp) := Blk.cell HB.out.srv.srv 2
      have HE9 := Lib.hid (ext_call HE1.out HB.out.ext)
      have HTM := Lib.hid (srvTime gs np cp _ (by omega) wr s2)
      have HAT := Lib.hid (fun (t : Int) (ht : t < 0 ∨ (np : Int) ≤ t) => srvAtNo gs np cp _ t ht wr s2)
      have en : IntKind.i64.wrap ((np : Int) - 1 + 1) = (np : Int) := by rw [IntWalk.i64_in _ (by omega)]; omega
      clear s2 HB HF
      rcases hexit with h9 | h9
      · have d9 : decide ((k : Int) < (X.length : Int)) = false := by simp; omega
        go_wp2_with (first | (go_at_call 14; with_reducible refine HTM.out.mono ?_; rintro e w' ⟨rfl, hw'⟩; subst w') | (go_at_call 15; refine (HAT.out _ (by omega)).mono ?_; rintro e w' ⟨rfl, hw'⟩; subst w'))
        all_goals
          go_ret
          exact ⟨rfl, HE9.out⟩
      · have d9 : decide ((k : Int) < 20) = false := by simp; omega
        go_wp2_with (first | (go_at_call 14; with_reducible refine HTM.out.mono ?_; rintro e w' ⟨rfl, hw'⟩; subst w') | (go_at_call 15; refine (HAT.out _ (by omega)).mono ?_; rintro e w' ⟨rfl, hw'⟩; subst w'))
        all_goals
          go_ret
          exact ⟨rfl, HE9.out⟩

end Go.Proofs.YtbgfmbmcabekeaaGreatDoor
