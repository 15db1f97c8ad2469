/-
  package origin: New; package cachetierlaw27: built: all values are told.
-/
import Derived.Test.YtbgfmbmcabekeaaGreatDoorJ33
import Derived.Test.YtbgfmbmcabekeaaGreatDoorJ16
set_option linter.unusedSimpArgs false
set_option linter.unusedVariables false

namespace Go.Proofs.YtbgfmbmcabekeaaGreatDoor
open Go.RowKit Go.Shelf

theorem HeadsOK.start (z : ByteArray) : HeadsOK [] [(z, stRootF [])] := fun i h hi => by
  have e : ∀ k, stF ((trs []).take k) = [] := fun k => by rw [show trs [] = [] from rfl, List.take_nil]; rfl
  rw [e]
  generalize stRootF [] = s at *
  cases i with
  | zero => simp at hi; subst hi; rfl
  | succ i => simp at hi
theorem ChainOK.nil (H : List (ByteArray × ByteArray)) : ChainOK [] H := fun i x h k hi _ _ => by simp at hi

set_option maxRecDepth 100000 in
set_option maxHeartbeats 2000000 in
theorem originNewX (w : World) (hR : RoundOK w) : Calls Tryz.prog 8 #[] w fun e w' => ∃ gs gl gst gm gp gn hv, e = .returned (.pointer (some ⟨gs, 0, none⟩)) ∧ ServX w.heap.size w' gs gl gst gm (srvCells gl gst gp gn) (.slice none 0 0) hv [] [(zeros32, stRootF [])] [] ∧ w.heap.size ≤ gs ∧ Below w.heap.size w w' ∧ (gm ≠ gn ∧ w.heap.size ≤ gn) ∧ MapI w' gn [] ∧ w'.ownsRow w.heap.size 3 1 (.slice (some ⟨gp, 0, none⟩) 1 1) 1 [.int .i64 0] := by
  have HR := Lib.hid hR
  clear hR
  have hmm := @run_makeMap Tryz.prog
  have hrt := fun (gs gm : Nat) (W : World) (h : StateR W gs gm 0 []) (hR : RoundOK W) => stateRootS [] (by simp) (by simp) List.Pairwise.nil gs gm 0 W h hR
  have hhd := HeadsOK.start zeros32
  have hsz := stRootF_size []
  generalize stRootF [] = s at *
  have HRT := Lib.hid hrt
  have HHD := Lib.hid hhd
  have HSZ := Lib.hid hsz
  clear hrt hhd hsz
  go_enter Tryz.func8, Tryz.ntmps8
  go_wp2_with fail
  refine (storeNew w).mono ?_
  rintro e W1 ⟨rfl, hw⟩
  have HE1 := Lib.hid (show Below w.heap.size w W1 by rw [← hw]; exact ext_alloc (ext_new _ _) _)
  have HS1 := Lib.hid (show StateR W1 (w.heap.size + 1) w.heap.size 0 [] by rw [← hw]; exact ⟨Blk.new' _ _ _ (by simp), (MapR.new w).ext (ext_new _ _)⟩)
  clear hw
  go_wp2_with fail
  refine (HRT.out _ _ W1 HS1.out (HR.out.below HE1.out)).mono ?_
  rintro e W2 ⟨rfl, hb2⟩
  have HE2 := Lib.hid (ext_call HE1.out hb2)
  have HS2 := Lib.hid (HS1.out.ext hb2)
  clear hb2 HS1
  go_wp2_with fail
  refine (logNewB s HSZ.out W2).mono ?_
  rintro e W3 ⟨gl, gh, rfl, hl3, hh3, hgl, hgh, hb3⟩
  have HE3 := Lib.hid (ext_call HE2.out hb3)
  have HS3 := Lib.hid (HS2.out.ext hb3)
  have HL3 := Lib.hid (And.intro hl3 hh3)
  have hz2 := HE2.out.size
  have hz3 := HE3.out.size
  clear hb3 hl3 hh3 HS2
  go_wp2
  go_ret
  have e1 := ext_new W3 (.cells #[.int .i64 0] 3)
  have e2 := ext_alloc e1 (.map #[] 0)
  refine ⟨_, gl, w.heap.size + 1, w.heap.size, _, _, .slice (some ⟨gh, 0, none⟩) 1 1, rfl, ⟨Blk.new' _ _ _ (by simp), rfl, rfl, ?_, (HS3.out.ext e2).ext (ext_new _ _), by simp, List.Pairwise.nil, by simp, by simp, RunG.nil, rfl, HHD.out, ChainOK.nil _, ?_⟩, ?_, ext_alloc (ext_call HE3.out e2) _, ⟨by simp; omega, by omega⟩, ?_, ?_⟩
  · have hl4 := (HL3.out.1.ext e2).ext (ext_new _ (.cells (srvCells gl (w.heap.size + 1) W3.heap.size (W3.heap.size + 1)) 101))
    have hh4 := (HL3.out.2.ext e2).ext (ext_new _ (.cells (srvCells gl (w.heap.size + 1) W3.heap.size (W3.heap.size + 1)) 101))
    have hlog : LogG w.heap.size (((W3.alloc (.cells #[.int .i64 0] 3)).alloc (.map #[] 0)).alloc (.cells (srvCells gl (w.heap.size + 1) W3.heap.size (W3.heap.size + 1)) 101)) gl (.slice none 0 0) (.slice (some ⟨gh, 0, none⟩) 1 1) [] [(zeros32, s)] :=
      ⟨hl4, World.ownsRow_nil _ _ _ _, ⟨rfl, .inr ⟨gh, 1, _, rfl, by omega, hh4, Nat.le_refl _, by unfold maxLen; omega, rfl, rfl⟩⟩, by simp, rfl, by intro h hh; simp at hh; subst hh; exact ⟨zeros32_size, HSZ.out⟩⟩
    exact hlog
  · refine ⟨?_, ?_, ?_⟩ <;> omega
  · try simp
    omega
  · have h9 := (MapI.new (W3.alloc (.cells #[.int .i64 0] 3))).ext (ext_new _ (.cells (srvCells gl (w.heap.size + 1) W3.heap.size (W3.heap.size + 1)) 101))
    rw [World.size_alloc] at h9
    exact h9
  · exact ⟨rfl, .inr ⟨W3.heap.size, 1, _, rfl, by omega, ((Blk.new W3 3 #[.int .i64 0]).alloc _).alloc _, Nat.le_refl _, by unfold maxLen; omega, rfl, rfl⟩⟩

section
attribute [local go_sem ↓] Go.wp_at_zero Go.wp_at_succ
set_option maxRecDepth 100000 in
set_option maxHeartbeats 4000000 in
theorem builtX (X : List (List (Int × Int × Int))) (v : Value) (w : World) (hv : TabAt w v X) (hX : ∀ T ∈ X, In64 T) (hR : RoundOK w) : Calls Tryz.prog 18 #[v] w fun e w' =>
    ∃ gs gl gst gm gp gn rv hv R H rs, e = .returned (.tuple #[.pointer (some ⟨gs, 0, none⟩), .int .i64 (R.length : Int)]) ∧ StOK rs ∧ ServX w.heap.size w' gs gl gst gm (srvCells gl gst gp gn) rv hv R H rs ∧ R.length ≤ 12 ∧ w.heap.size ≤ gs ∧ Below w.heap.size w w' := by
  obtain ⟨A, c, rfl, hcell⟩ := hv
  have HC := Lib.hid hcell
  have HX := Lib.hid hX
  have HR := Lib.hid hR
  clear hcell hX hR
  go_enter Tryz.func18, Tryz.ntmps18
  go_wp2_with fail
  refine (originNewX w HR.out).mono ?_
  rintro e W1 ⟨gs, gl, gst, gm, gp, gn, hv, rfl, hS, hgs, hb, -⟩
  obtain ⟨cs, hcs⟩ : ∃ cs, cs = srvCells gl gst gp gn := ⟨_, rfl⟩
  rw [← hcs] at hS
  have HCS := Lib.hid hcs
  have HS1 := Lib.hid hS
  have HE1 := Lib.hid hb
  clear hS hb hcs
  go_wp2
  go_loopw [5, 6, 7, 8] (fun nv iv _ _ W => ∃ (k : Nat) (rv hv : Value) (R : List (List ChgT × Nat × Nat)) (H : List (ByteArray × ByteArray)) (rs : List RowT), k ≤ 12 ∧ k ≤ X.length ∧ R.length ≤ k ∧ nv = .int .i64 (R.length : Int) ∧ iv = .int .i64 k ∧ StOK rs ∧ ServX w.heap.size W gs gl gst gm cs rv hv R H rs ∧ Below w.heap.size w W) (fun _ iv _ _ _ => X.length - (intOf iv).toNat)
  case atStart => exact ⟨0, _, _, [], _, _, by omega, by omega, by simp, rfl, rfl, StOK.nil, HS1.out, HE1.out⟩
  case round =>
    obtain ⟨k, rv, hv, R, H, rs, hk12, hkX, hRk, rfl, rfl, hok, hS, hE⟩ := hrel
    have HOK := Lib.hid hok
    clear hok
    have HS := Lib.hid hS
    have HE := Lib.hid hE
    clear hS hE HS1 HE1
    have e2 : IntKind.i64.wrap ((k : Int) + 1) = (k : Int) + 1 := by rw [IntWalk.i64_in _ (by omega)]
    have e3 : IntKind.i64.wrap ((R.length : Int) + 1) = (R.length : Int) + 1 := by rw [IntWalk.i64_in _ (by omega)]
    by_cases hlt : k < X.length
    · by_cases hk : k < 12
      · obtain ⟨b, off, rfl, hc⟩ := HC.out (by omega)
        obtain ⟨T, hT⟩ : ∃ T, X[k]? = some T := ⟨_, List.getElem?_eq_getElem hlt⟩
        obtain ⟨u, hu, ht⟩ := hc k T hT
        have z0 := cell_ext hu HE.out
        have HCH := Lib.hid (changes_any T u wr (ht.ext HE.out) (HX.out T (List.mem_of_getElem? hT)))
        have q0 : (0 : Int) ≤ (k : Int) := by omega
        have q1 : (k : Int) < (X.length : Int) := by omega
        have q2 : (k : Int) < 12 := by omega
        clear hu ht hc hT
        go_wp2_with fail
        refine HCH.out.mono ?_
        rintro e W2 ⟨u2, l, rfl, hl, hg, hnil, hb2⟩
        have HE2 := Lib.hid (ext_call HE.out hb2)
        obtain ⟨hok2, hgen2, hfit2⟩ := hg.fill HOK.out
        have HOK2 := Lib.hid (HOK.out.apply hgen2)
        obtain ⟨last, hlast⟩ : ∃ x, H[R.length]? = some x := ⟨_, List.getElem?_eq_getElem (by have := HS.out.log.len; omega)⟩
        have HCM := Lib.hid (commitX w HR.out gs gl gst gm cs rv hv R H rs last hlast l u2 W2 HE2.out (HS.out.ext hb2) (by omega) hl (by have := hg.few; omega) (by have := HOK2.out.few; omega))
        clear hok2 hgen2 hfit2 hlast
        have HS2 := Lib.hid (HS.out.ext hb2)
        clear hl hg hnil hb2 HCH HE HS
        go_wp2_with fail
        refine HCM.out.mono ?_
        rintro e W3 (⟨-, rfl, hb3⟩ | ⟨-, rfl, ⟨rv2, hv2, g, d, hS3⟩, hb3, -⟩)
        · have HE3 := Lib.hid (ext_call HE2.out hb3)
          have HS3 := Lib.hid (HS2.out.ext hb3)
          clear hb3
          go_wp2
          go_roundw
          case rel => exact ⟨k + 1, rv, hv, R, H, rs, by omega, by omega, by omega, rfl, by go_num, HOK.out, HS3.out, HE3.out⟩
          case measure => simp [intOf]; omega
        · have HE3 := Lib.hid hb3
          have HS3 := Lib.hid hS3
          clear hb3 hS3
          go_wp2
          go_roundw
          case rel => exact ⟨k + 1, rv2, hv2, R ++ [_], _, _, by omega, by omega, by simp; omega, by simp, by go_num, HOK2.out, HS3.out, HE3.out⟩
          case measure => simp [intOf]; omega
      · have d1 : decide ((k : Int) < (X.length : Int)) = true := by simp; omega
        have d2 : decide ((k : Int) < 12) = false := by simp; omega
        go_wp2
        go_ret2
        exact ⟨gs, gl, gst, gm, gp, gn, rv, hv, R, H, rs, rfl, HOK.out, by rw [← HCS.out]; exact HS.out, by omega, hgs, HE.out⟩
    · have d1 : decide ((k : Int) < (X.length : Int)) = false := by simp; omega
      go_wp2
      go_ret2
      exact ⟨gs, gl, gst, gm, gp, gn, rv, hv, R, H, rs, rfl, HOK.out, by rw [← HCS.out]; exact HS.out, by omega, hgs, HE.out⟩

end

end Go.Proofs.YtbgfmbmcabekeaaGreatDoor
