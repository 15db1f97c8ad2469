/-
  package cachetierlaw27: OriginAsked returns true.
-/
import Derived.Test.YtbgfmbmcabekeaaGreatDoorJ18
import Derived.Deep.Cut
import Derived.Deep.CutRange
set_option linter.unusedSimpArgs false
set_option linter.unusedVariables false

namespace Go.Proofs.YtbgfmbmcabekeaaGreatDoor
open Go.RowKit Go.Shelf
attribute [local go_sem ↓] ld_exec ld_sem bd_exec bd_sem bs_exec bs_sem Go.wp_at_zero Go.wp_at_succ

theorem recV_info : (Tryz.prog.info? 46).map (fun i => (i.zero, i.size, i.bytes)) = some (some (.agg #[.int .i64 0, .slice none 0 0]), 2, 32) := by kernel_rfl
theorem rec_slice (oa : Array Value) (hs : oa.size = 2) : BsOK Tryz.prog 53 1 #[(0, .agg oa)] oa 46 := by
  obtain ⟨im, him, hz0, hz1, hz2⟩ := info_parts recV_info
  obtain ⟨z0, hz⟩ : ∃ z0, im.zero = some z0 := ⟨_, hz0⟩
  intro w
  refine run_buildSlice w 53 46 1 #[(0, .agg oa)] oa im z0 Tryz.underlying53 him hz (by rw [hz1]; decide) (by rw [hz1]; decide) ?_
  rw [hz1]
  have h := Great.fill_whole (s := 2) (by decide) [.agg oa] ((Array.range (1 * 2)).map (z0.cells[· % z0.cells.size]!)) (by simp [Value.cells, hs]) (by simp)
  simp [Value.cells] at h ⊢
  exact h
theorem TabAt.ext {w W : World} {v : Value} {X : List (List (Int × Int × Int))} (h : TabAt w v X) (k : Below w.heap.size w W) : TabAt W v X := by
  obtain ⟨A, c, rfl, h⟩ := h
  refine ⟨A, c, rfl, fun h0 => ?_⟩
  obtain ⟨b, off, hA, hc⟩ := h h0
  exact ⟨b, off, hA, fun j T hT => by obtain ⟨u, hu, ht⟩ := hc j T hT; exact ⟨u, cell_ext hu k, ht.ext k⟩⟩
theorem pick_nat (c n : Int) (hn : 0 < n) (hn2 : n ≤ 1000) (hc : -9223372036854775808 ≤ c) (hc2 : c ≤ 9223372036854775807) : ∃ k : Nat, (k : Int) < n ∧ ∀ w : World, Calls Tryz.prog 19 #[.int .i64 c, .int .i64 n] w fun e w' => e = .returned (.int .i64 (k : Int)) ∧ w = w' := by
  have h := pickF_lt c n hn
  obtain ⟨k, hk⟩ := Int.eq_ofNat_of_zero_le h.1
  refine ⟨k, by rw [← hk]; exact h.2, fun w => ?_⟩
  have h2 := pick_any c n hn hn2 hc hc2 w
  rw [hk] at h2
  exact h2

set_option maxRecDepth 100000 in
set_option maxHeartbeats 8000000 in
theorem asked27 (X : List (List (Int × Int × Int))) (v : Value) (nd fi le : Int) (n0 : -9223372036854775808 ≤ nd) (n1 : nd ≤ 9223372036854775807) (f0 : -9223372036854775808 ≤ fi) (f1 : fi ≤ 9223372036854775807) (l0 : -9223372036854775808 ≤ le) (l1 : le ≤ 9223372036854775807) (w : World) (hv : TabAt w v X) (hX : ∀ T ∈ X, In64 T) (hR : RoundOK w) :
    Calls Tryz.prog 4 #[v, .int .i64 nd, .int .i64 fi, .int .i64 le] w fun e w' => e = .returned (.bool true) ∧ Below w.heap.size w w' := by
  have HR := Lib.hid hR
  have HV := Lib.hid hv
  have HX := Lib.hid hX
  obtain ⟨nN, hnN, hPN⟩ := pick_nat nd 24 (by omega) (by omega) n0 n1
  have HPN := Lib.hid hPN
  obtain ⟨n, hn⟩ : ∃ n : Int, n = (nN : Int) := ⟨_, rfl⟩
  rw [← hn] at hPN
  have HPN := Lib.hid hPN
  obtain ⟨fN, hfN, hPF⟩ := pick_nat fi 14 (by omega) (by omega) f0 f1
  have HPF := Lib.hid hPF
  obtain ⟨lN, hlN, hPL⟩ := pick_nat le 64 (by omega) (by omega) l0 l1
  have HPL := Lib.hid hPL
  obtain ⟨first, hfirst⟩ : ∃ first, first = 1 + fN := ⟨_, rfl⟩
  obtain ⟨last, hlast⟩ : ∃ last, last = first + lN := ⟨_, rfl⟩
  have e1 : IntKind.i64.wrap (1 + (fN : Int)) = (first : Int) := by rw [IntWalk.i64_in _ (by omega)]; omega
  have e2 : IntKind.i64.wrap ((first : Int) + (lN : Int)) = (last : Int) := by rw [IntWalk.i64_in _ (by omega)]; omega
  have hb := And.intro (show 0 ≤ n by omega) (And.intro (show n ≤ 23 by omega) (And.intro (show 1 ≤ first by omega) (And.intro (show first ≤ 14 by omega) (And.intro (show first ≤ last by omega) (And.intro (show last ≤ 77 by omega) (show last - first ≤ 63 by omega))))))
  have HBD := Lib.hid hb
  have HE12 := Lib.hid (And.intro e1 e2)
  clear hPN hPF hPL hn hfirst hlast hnN hfN hlN n0 n1 f0 f1 l0 l1 hv hX hR hb e1 e2
  obtain ⟨va, hva⟩ : ∃ va : Array Value, va = #[.int .i64 3, .int .i64 n, .int .i64 100, .int .i64 0, .int .i64 0, .int .i64 0, .int .i64 0, .int .i64 0, .int .i64 (first : Int), .int .i64 (last : Int), .int .i64 0, .int .i64 0, .int .i64 0, .int .i64 0, .int .i64 0, .int .i64 0, .int .i64 0, .int .i64 0, .slice none 0 0, .int .i64 0, .int .i64 0, .int .i64 0, .int .i64 0, .int .i64 0, .int .i64 0, .int .i64 0, .int .i64 0, .int .i64 0, .slice none 0 0, .int .i64 0, .int .i64 0, .int .i64 0, .int .i64 0, .int .i64 0, .int .i64 0, .int .i64 0, .slice none 0 0, .int .i64 0, .bool false, .int .i64 0, .int .i64 0, .int .i64 0, .slice none 0 0, .slice none 0 0, .int .i64 0, .slice none 0 0, .slice none 0 0] := ⟨_, rfl⟩
  have HVA := Lib.hid hva
  clear hva
  go_enter Tryz.func4, Tryz.ntmps4
  go_wp2_with fail
  refine (sane27 w HR.out).mono ?_
  rintro e W1 ⟨rfl, hb1⟩
  have HE1 := Lib.hid hb1
  clear hb1
  go_wp2_with fail
  refine (built_any X v W1 (HV.out.ext HE1.out) HX.out (HR.out.below HE1.out)).mono ?_
  rintro e W2 ⟨gs, gl, gst, gm, gp, gn, rv, hv, R, H, rs, rfl, hs, hR12, -, hb2⟩
  have hs0 : W2.cell? ⟨gs, 0, none⟩ = some (.pointer (some ⟨gl, 0, none⟩)) := by rw [hs.srv.cell]; exact hs.c0
  have HS0 := Lib.hid hs0
  have HLOG := Lib.hid hs.log
  have HG := Lib.hid hs.good
  have HR12 := Lib.hid hR12
  have HE2 := Lib.hid (ext_call HE1.out hb2)
  clear hs hR12 hb2 hs0 HV HX HR HE1
  have e1 := HE12.out.1
  have e2 := HE12.out.2
  go_wp2_with fail
  refine (HPN.out W2).mono ?_
  rintro e w' ⟨rfl, hw'⟩
  subst w'
  go_wp2_with fail
  refine (HPF.out W2).mono ?_
  rintro e w' ⟨rfl, hw'⟩
  subst w'
  go_wp2_with fail
  refine (HPL.out W2).mono ?_
  rintro e w' ⟨rfl, hw'⟩
  subst w'
  obtain ⟨bd1, bd2⟩ := bd_of w (P := Tryz.prog) (t := 57) (ps := #[(0, .int .i64 3), (1, .int .i64 n), (2, .int .i64 100), (8, .int .i64 (first : Int)), (9, .int .i64 (last : Int))]) (cs := va) (by rw [HVA.out]; kernel_rfl)
  have HZ := Lib.hid (Blk.new W2 57 #[.int .i64 0, .int .i64 0, .int .i64 0, .int .i64 0, .int .i64 0, .int .i64 0, .int .i64 0, .int .i64 0, .int .i64 0, .int .i64 0, .int .i64 0, .int .i64 0, .int .i64 0, .int .i64 0, .int .i64 0, .int .i64 0, .int .i64 0, .int .i64 0, .slice none 0 0, .int .i64 0, .int .i64 0, .int .i64 0, .int .i64 0, .int .i64 0, .int .i64 0, .int .i64 0, .int .i64 0, .int .i64 0, .slice none 0 0, .int .i64 0, .int .i64 0, .int .i64 0, .int .i64 0, .int .i64 0, .int .i64 0, .int .i64 0, .slice none 0 0, .int .i64 0, .bool false, .int .i64 0, .int .i64 0, .int .i64 0, .slice none 0 0, .slice none 0 0, .int .i64 0, .slice none 0 0, .slice none 0 0])
  have HI := Lib.hid (show (Tryz.prog.info? 57).map (·.size) = some va.size by rw [HVA.out]; kernel_rfl)
  have HSZ := Lib.hid (show (#[.int .i64 0, .int .i64 0, .int .i64 0, .int .i64 0, .int .i64 0, .int .i64 0, .int .i64 0, .int .i64 0, .int .i64 0, .int .i64 0, .int .i64 0, .int .i64 0, .int .i64 0, .int .i64 0, .int .i64 0, .int .i64 0, .int .i64 0, .int .i64 0, .slice none 0 0, .int .i64 0, .int .i64 0, .int .i64 0, .int .i64 0, .int .i64 0, .int .i64 0, .int .i64 0, .int .i64 0, .int .i64 0, .slice none 0 0, .int .i64 0, .int .i64 0, .int .i64 0, .int .i64 0, .int .i64 0, .int .i64 0, .int .i64 0, .slice none 0 0, .int .i64 0, .bool false, .int .i64 0, .int .i64 0, .int .i64 0, .slice none 0 0, .slice none 0 0, .int .i64 0, .slice none 0 0, .slice none 0 0] : Array Value).size = va.size by rw [HVA.out]; rfl)
  have H1 := Lib.hid (show va.all (·.oneCell') = true by rw [HVA.out]; simp [Value.oneCell'])
  go_upto_region 7 with (refine wpList_store_blk rfl 57 (.tmp 13) (.tmp 36) rfl W2.heap.size va rfl rfl 57 #[.int .i64 0, .int .i64 0, .int .i64 0, .int .i64 0, .int .i64 0, .int .i64 0, .int .i64 0, .int .i64 0, .int .i64 0, .int .i64 0, .int .i64 0, .int .i64 0, .int .i64 0, .int .i64 0, .int .i64 0, .int .i64 0, .int .i64 0, .int .i64 0, .slice none 0 0, .int .i64 0, .int .i64 0, .int .i64 0, .int .i64 0, .int .i64 0, .int .i64 0, .int .i64 0, .int .i64 0, .int .i64 0, .slice none 0 0, .int .i64 0, .int .i64 0, .int .i64 0, .int .i64 0, .int .i64 0, .int .i64 0, .int .i64 0, .slice none 0 0, .int .i64 0, .bool false, .int .i64 0, .int .i64 0, .int .i64 0, .slice none 0 0, .slice none 0 0, .int .i64 0, .slice none 0 0, .slice none 0 0] HZ.out HI.out HSZ.out H1.out ?_; intro W3 hB3 hg3; have HB3 := Lib.hid hB3; have HE23 := Lib.hid ((ext_new W2 (.cells #[.int .i64 0, .int .i64 0, .int .i64 0, .int .i64 0, .int .i64 0, .int .i64 0, .int .i64 0, .int .i64 0, .int .i64 0, .int .i64 0, .int .i64 0, .int .i64 0, .int .i64 0, .int .i64 0, .int .i64 0, .int .i64 0, .int .i64 0, .int .i64 0, .slice none 0 0, .int .i64 0, .int .i64 0, .int .i64 0, .int .i64 0, .int .i64 0, .int .i64 0, .int .i64 0, .int .i64 0, .int .i64 0, .slice none 0 0, .int .i64 0, .int .i64 0, .int .i64 0, .int .i64 0, .int .i64 0, .int .i64 0, .int .i64 0, .slice none 0 0, .int .i64 0, .bool false, .int .i64 0, .int .i64 0, .int .i64 0, .slice none 0 0, .slice none 0 0, .int .i64 0, .slice none 0 0, .slice none 0 0] 57)).grown hg3 (ext_new W2 (.cells #[.int .i64 0, .int .i64 0, .int .i64 0, .int .i64 0, .int .i64 0, .int .i64 0, .int .i64 0, .int .i64 0, .int .i64 0, .int .i64 0, .int .i64 0, .int .i64 0, .int .i64 0, .int .i64 0, .int .i64 0, .int .i64 0, .int .i64 0, .int .i64 0, .slice none 0 0, .int .i64 0, .int .i64 0, .int .i64 0, .int .i64 0, .int .i64 0, .int .i64 0, .int .i64 0, .int .i64 0, .int .i64 0, .slice none 0 0, .int .i64 0, .int .i64 0, .int .i64 0, .int .i64 0, .int .i64 0, .int .i64 0, .int .i64 0, .slice none 0 0, .int .i64 0, .bool false, .int .i64 0, .int .i64 0, .int .i64 0, .slice none 0 0, .slice none 0 0, .int .i64 0, .slice none 0 0, .slice none 0 0] 57)).size (fun k e => by injection e with e; omega)); clear hB3 hg3)
  have HE3 := Lib.hid (ext_call HE2.out HE23.out)
  have HS3 := Lib.hid (cell_ext HS0.out HE23.out)
  have HL3 := Lib.hid (HLOG.out.ext HE23.out)
  have HNB := Lib.hid (show w.heap.size ≤ W2.heap.size from HE2.out.size)
  generalize W2.heap.size = b13 at HB3 HNB ⊢
  clear bd1 bd2 HZ HI HSZ H1 HE2 HS0 HLOG HE23 HPN HPF HPL e1 e2
  go_wp2
  go_loopw [14, 15, 16, 17] (fun i _ _ _ W => ∃ k : Nat, k ≤ 2 ∧ i = .int .i64 k ∧ Below W3.heap.size W3 W) (fun i _ _ _ _ => 2 - (intOf i).toNat)
  case atStart => exact ⟨0, Nat.zero_le _, rfl, ext_refl _⟩
  case round =>
    obtain ⟨i, hi, rfl, hE⟩ := hrel
    have HE := Lib.hid hE
    clear hE
    by_cases hlt : i < 2
    · have d1 : decide ((i : Int) < 2) = true := by simp; omega
      have e3 : IntKind.i64.wrap ((i : Int) + 1) = (i : Int) + 1 := IntWalk.i64_in _ (by omega)
      have ll := ld_blk (P := Tryz.prog) (HB3.out.ext HE.out) (show Array.extract va 0 47 = va by rw [HVA.out]; kernel_rfl) Tryz.underlying57 rfl (by rw [HVA.out]; kernel_rfl)
      obtain ⟨ll1, ll2⟩ := ll
      have HRC := Lib.hid (fun (W : World) (k : Below W3.heap.size W3 W) => show Calls Tryz.prog 20 #[.pointer (some ⟨gs, 0, none⟩), .agg va] W fun e w' => ∃ v xs, e = .returned v ∧ xs.length = nRec first last R.length ∧ w'.ownsRow W.heap.size 57 47 v xs.length (mcN n xs) ∧ (∀ (i : Nat) (x : Nat × Nat × Nat × Nat), xs[i]? = some x → RecMG first R i x w') ∧ Below W.heap.size W w' by rw [HVA.out]; exact recvAsk _ gs gl first last rv hv R H HBD.out.2.2.1 HBD.out.2.2.2.1 (by have := HR12.out; omega) HG.out n HBD.out.1 HBD.out.2.1 HBD.out.2.2.2.2.1 HBD.out.2.2.2.2.2.1 HBD.out.2.2.2.2.2.2 W (cell_ext HS3.out k) (HL3.out.ext k))
      go_wp2_with fail
      refine (HRC.out _ HE.out).mono ?_
      rintro e W4 ⟨u, xs, rfl, hlen, hown, hxr, hb4⟩
      have HE4 := Lib.hid (ext_call HE.out hb4)
      have HOWN := Lib.hid hown
      have HXR := Lib.hid hxr
      obtain ⟨Au, cu, rfl⟩ := own_shape hown
      obtain ⟨m, hm⟩ : ∃ m, m = min last R.length := ⟨_, rfl⟩
      have hmR : m ≤ R.length := by omega
      have hmm : min (last : Int) (R.length : Int) = (m : Int) := by omega
      have hxl : xs.length = m + 1 - first := by rw [hlen, hm]; rfl
      have hmb := And.intro HBD.out.2.2.1 HBD.out.2.2.2.1
      have hx12 : xs.length ≤ 12 := by have := HR12.out; omega
      have hR12 := HR12.out
      have e4 : IntKind.i64.wrap ((m : Int) - (first : Int)) = (m : Int) - (first : Int) := IntWalk.i64_in _ (by omega)
      have e5 : IntKind.i64.wrap ((m : Int) - (first : Int) + 1) = (m : Int) - (first : Int) + 1 := IntWalk.i64_in _ (by omega)
      have hmx : max (0 : Int) ((m : Int) - (first : Int) + 1) = (xs.length : Int) := by omega
      have HXL := Lib.hid hxl
      clear hb4 hown hxr hlen hm HRC HE ll1 ll2 hxl
      go_wp2
      go_loopw [16, 17] (fun j _ W => ∃ k : Nat, k ≤ xs.length ∧ j = .int .i64 k ∧ Below W4.heap.size W4 W) (fun j _ _ => xs.length - (intOf j).toNat)
      case atStart => exact ⟨0, Nat.zero_le _, rfl, ext_refl _⟩
      case round =>
        obtain ⟨k, hk, rfl, hE⟩ := hrel
        have HE := Lib.hid hE
        clear hE hmm e4 e5 hmx
        by_cases hlk : k < xs.length
        · have d2 : decide ((k : Int) < (xs.length : Int)) = true := by simp; omega
          obtain ⟨x, hx⟩ : ∃ x, xs[k]? = some x := ⟨_, List.getElem?_eq_getElem hlk⟩
          obtain ⟨p, hp⟩ : ∃ p, p = first + k := ⟨_, rfl⟩
          have e6 : IntKind.i64.wrap ((first : Int) + (k : Int)) = (p : Int) := by rw [IntWalk.i64_in _ (by omega)]; omega
          have e7 : IntKind.i64.wrap ((k : Int) + 1) = (k : Int) + 1 := IntWalk.i64_in _ (by omega)
          have q0 : (0 : Int) ≤ (k : Int) := by omega
          have q1 : (k : Int) < (xs.length : Int) := by omega
          have hpR : p ≤ R.length := by have := HXL.out; omega
          have HRG := Lib.hid (fun (W : World) (kk : Below W4.heap.size W4 W) => recordsG1 _ gs gl p rv hv R H (by omega) hpR (by omega) HG.out W (cell_ext HS3.out (ext_call HE4.out kk)) (HL3.out.ext (ext_call HE4.out kk)))
          have HXK := Lib.hid (HXR.out k x hx)
          have HPX := Lib.hid hp
          have HXX := Lib.hid hx
          clear hx hp
          go_wp2_with fail
          refine (HRG.out _ HE.out).mono ?_
          rintro e W5 ⟨g, c, y, rfl, hc, hh, hy, hb5⟩
          have HE5 := Lib.hid (ext_call HE.out hb5)
          have HH := Lib.hid hh
          have HY := Lib.hid hy
          clear hh hy hb5 HRG HE
          obtain ⟨g0, cap, hcu, _, _, hcap, hcells⟩ := own_cells HOWN.out (show 0 < xs.length by omega)
          injection hcu with hA0 _ hc0
          subst hA0
          subst hc0
          have hcl : ∀ j, j < 47 → W5.cell? ⟨g0, k * 47 + j, none⟩ = some ((msgN n x).getD j undef) := fun j hj => by
            refine cell_ext (hcells (k * 47 + j) _ ?_) HE5.out
            rw [mcN_at n xs k x HXX.out j hj]
            rw [Array.getD_eq_getD_getElem?]
            have hjz : j < (msgN n x).size := hj
            rw [Array.getElem?_eq_getElem hjz]
            rfl
          have b0 := hcl 0 (by omega)
          have b2 := hcl 2 (by omega)
          have b17 := hcl 17 (by omega)
          have b18 := hcl 18 (by omega)
          rw [show (msgN n x).getD 0 undef = .int .i64 1 from rfl, Nat.add_zero] at b0
          rw [show (msgN n x).getD 2 undef = .int .i64 n from rfl] at b2
          rw [show (msgN n x).getD 17 undef = .int .i64 (x.1 : Int) from rfl] at b17
          rw [show (msgN n x).getD 18 undef = .slice (some ⟨x.2.2.1, 0, none⟩) x.2.1 x.2.2.2 from rfl] at b18
          have r0 := HH.out.cells 0 (by show 0 < 2; omega)
          have r1 := HH.out.cells 1 (by show 1 < 2; omega)
          obtain ⟨x1, x2, x3, x4⟩ := x
          obtain ⟨z1, z2, z3, z4⟩ := y
          obtain ⟨ye, hye, hx2, hxc, hxd⟩ := HXK.out.at_
          obtain ⟨yf, hyf, hz2, hzc, hzd⟩ := HY.out.at_
          have hef : yf = ye := by
            rw [show p + 0 - 1 = first + k - 1 by have := HPX.out; omega] at hyf
            exact Option.some.inj (hyf.symm.trans hye)
          subst hef
          dsimp only at hx2 hxc hxd hz2 hzc hzd
          have hx1 : x1 = p := by have h8 := HXK.out.pos; have h9 := HPX.out; dsimp only at h8; omega
          have hz1 : z1 = p := by have h8 := HY.out.pos; dsimp only at h8; omega
          dsimp only [recN] at b17 b18 r0 r1
          rw [hx1] at b17
          rw [hz1] at r0
          obtain ⟨oa, hoa⟩ : ∃ oa : Array Value, oa = #[.int .i64 (p : Int), .slice (some ⟨x3, 0, none⟩) x2 x4] := ⟨_, rfl⟩
          have hos : oa.size = 2 := by rw [hoa]; rfl
          obtain ⟨ll1, ll2⟩ := ld_rng (P := Tryz.prog) (W := W5) (b := g0) (o := k * 47 + 17) (ty := 46) (cs := oa) (fun i hi => by
            rw [hos] at hi
            rw [hoa]
            rcases (show i = 0 ∨ i = 1 by omega) with rfl | rfl
            · exact b17
            · exact b18) Tryz.underlying46 rfl (by rw [hos]; kernel_rfl)
          obtain ⟨bs1, bs2⟩ := bs_of W5 (rec_slice oa hos)
          have HOA := Lib.hid hoa
          have hgood := HG.out yf (List.mem_of_getElem? hye)
          have HSR := Lib.hid (show Calls Tryz.prog 22 #[.slice (some ⟨W5.heap.size, 0, none⟩) 1 1, .slice (some ⟨g, 0, none⟩) 1 c] (W5.alloc (.cells oa 46)) fun e w' => e = .returned (.bool true) ∧ Below (W5.alloc (.cells oa 46)).heap.size (W5.alloc (.cells oa 46)) w' from by
            have hh : HeadB (W5.alloc (.cells oa 46)) g #[.int .i64 (p : Int), .slice (some ⟨z3, 0, none⟩) z2 z4] := by
              have h9 := HH.out.alloc (.cells oa 46)
              unfold recN at h9
              dsimp only at h9
              rwa [hz1] at h9
            have hB := Blk.new W5 46 oa
            rw [HOA.out] at hB
            refine same09_one (p : Int) yf.1 (.slice (some ⟨x3, 0, none⟩) x2 x4) (.slice (some ⟨z3, 0, none⟩) z2 z4) W5.heap.size g 1 c _ ?_ hh ?_ ?_ (by have := hgood.ok.few; omega)
            · rw [HOA.out]
              exact ⟨hB.lt, fun i hi => hB.cell i⟩
            · rw [hx2]
              exact ((hxc.ext HE5.out).ext (ext_new _ _)).at_ hxd
            · rw [hz2]
              exact (hzc.ext (ext_new _ _)).at_ hzd)
          clear hgood hye hyf hx2 hxc hxd hz2 hzc hzd hoa hos hcells hcl b17 b18
          go_wp2_with fail
          refine HSR.out.mono ?_
          rintro e W6 ⟨rfl, hb6⟩
          have HE6 := Lib.hid (ext_call (HE5.out.alloc (by first | exact HE5.out.size | exact Nat.le_refl _) (.cells oa 46)) hb6)
          have r0' := cell_ext r0 (ext_call (ext_new W5 (.cells oa 46)) hb6)
          clear hb6 r0 r1 b0 b2 HSR ll1 ll2 bs1 bs2
          go_wp2
          go_roundw
          case rel => exact ⟨k + 1, by omega, by go_num, HE6.out⟩
          case measure => simp [intOf]; omega
        · have d2 : decide ((k : Int) < (xs.length : Int)) = false := by simp; omega
          go_wp2
          go_roundw
          case rel => exact ⟨i + 1, by omega, by go_num, ext_call HE4.out HE.out⟩
          case measure => simp [intOf]; omega
    · have d1 : decide ((i : Int) < 2) = false := by simp; omega
      have hbw := HB3.out.ext HE.out
      have a2 := (hbw.cell 2).trans (show va[2]? = some (.int .i64 100) by rw [HVA.out]; rfl)
      have f2 := hbw.frozen 2
      obtain ⟨U, hU⟩ : ∃ U, U = wr.setCell ⟨b13, 2, none⟩ (.int .i64 3) := ⟨_, rfl⟩
      obtain ⟨vb, hvb⟩ : ∃ vb : Array Value, vb = #[.int .i64 3, .int .i64 n, .int .i64 3, .int .i64 0, .int .i64 0, .int .i64 0, .int .i64 0, .int .i64 0, .int .i64 (first : Int), .int .i64 (last : Int), .int .i64 0, .int .i64 0, .int .i64 0, .int .i64 0, .int .i64 0, .int .i64 0, .int .i64 0, .int .i64 0, .slice none 0 0, .int .i64 0, .int .i64 0, .int .i64 0, .int .i64 0, .int .i64 0, .int .i64 0, .int .i64 0, .int .i64 0, .int .i64 0, .slice none 0 0, .int .i64 0, .int .i64 0, .int .i64 0, .int .i64 0, .int .i64 0, .int .i64 0, .int .i64 0, .slice none 0 0, .int .i64 0, .bool false, .int .i64 0, .int .i64 0, .int .i64 0, .slice none 0 0, .slice none 0 0, .int .i64 0, .slice none 0 0, .slice none 0 0] := ⟨_, rfl⟩
      have hbu : Blk U b13 57 vb := by
        have h9 := hbw.set_ 2 (.int .i64 3)
        rw [← hU] at h9
        rwa [show va.setIfInBounds 2 (.int .i64 3) = vb by rw [HVA.out, hvb]; rfl] at h9
      have ll := ld_blk (P := Tryz.prog) hbu (show Array.extract vb 0 47 = vb by rw [hvb]; kernel_rfl) Tryz.underlying57 rfl (by rw [hvb]; kernel_rfl)
      obtain ⟨ll1, ll2⟩ := ll
      have HR3 := Lib.hid (show Calls Tryz.prog 20 #[.pointer (some ⟨gs, 0, none⟩), .agg vb] U fun e w' => e = .returned (.slice none 0 0) ∧ Below U.heap.size U w' by rw [hvb]; exact recvAsk3 n first last HBD.out.1 HBD.out.2.1 (by have := HBD.out.2.2.1; omega) (by have := HBD.out.2.2.2.2.1; omega) (by have := HBD.out.2.2.2.2.2.1; omega) (by have h1 := HBD.out.2.2.2.2.2.2; have h2 := HBD.out.2.2.2.2.1; omega) gs U)
      have HEU := Lib.hid (show Below w.heap.size w U by rw [hU]; exact ext_set (ext_call HE3.out HE.out) HNB.out _)
      have HU := Lib.hid hU
      clear hbw hbu hvb
      rw [hU] at ll1 ll2
      clear hU
      go_wp2_with fail
      rw [← HU.out]
      refine HR3.out.mono ?_
      rintro e W9 ⟨rfl, hb9⟩
      have HE9 := Lib.hid (ext_call HEU.out hb9)
      clear hb9
      go_wp2
      go_ret
      exact ⟨rfl, HE9.out⟩

end Go.Proofs.YtbgfmbmcabekeaaGreatDoor
