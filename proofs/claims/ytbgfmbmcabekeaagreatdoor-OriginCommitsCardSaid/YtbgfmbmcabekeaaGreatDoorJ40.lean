/-
  package cachetierlaw27: OriginCommits returns true.
-/
import Derived.Test.YtbgfmbmcabekeaaGreatDoorJ37
import Derived.Test.YtbgfmbmcabekeaaGreatDoorJ39
import Derived.Deep.Cut
import Derived.Deep.CutRange
import Derived.BigQuiet
import Derived.Deep.RegionHeld3
set_option linter.unusedSimpArgs false
set_option linter.unusedVariables false

namespace Go.Proofs.YtbgfmbmcabekeaaGreatDoor
open Go.RowKit Go.Shelf
attribute [local go_sem ↓] ld_exec ld_sem bd_exec bd_sem bs_exec bs_sem Go.wp_at_zero Go.wp_at_succ

theorem aft_row {rs : List RowT} {x : ChgT} (h : (fillC rs x).ok) : (aftC x).isSome = x.has ∧ ((aftC x).getD zeroR).a = x.n1 ∧ ((aftC x).getD zeroR).b = x.n2 ∧ ((aftC x).getD zeroR).c = x.n3 := by
  have h1 : x.has = false → x.n1 = 0 ∧ x.n2 = 0 ∧ x.n3 = 0 := h.2.2.1
  unfold aftC
  cases hh : x.has with
  | true => exact ⟨rfl, rfl, rfl, rfl⟩
  | false =>
    obtain ⟨e1, e2, e3⟩ := h1 hh
    exact ⟨rfl, e1.symm, e2.symm, e3.symm⟩

theorem eq3t (a b c : Int) (W : World) : (Op.equalIn 10000 73 (.agg #[.int .i64 a, .int .i64 b, .int .i64 c]) (.agg #[.int .i64 a, .int .i64 b, .int .i64 c])).run Tryz.prog W = .ok true W := by
  have h := eq3 a b c a b c W
  simpa using h

set_option maxRecDepth 100000 in
set_option maxHeartbeats 8000000 in
theorem commits27 (X : List (List (Int × Int × Int))) (v : Value) (L : List ChgT) (u : Value) (w : World) (hv : TabAt w v X) (hX : ∀ T ∈ X, In64 T) (hu : ChgsAt w u L) (hR : RoundOK w) :
    Calls Tryz.prog 5 #[v, u] w fun e w' => e = .returned (.bool true) ∧ Below w.heap.size w w' := by
  have HR := Lib.hid hR
  have HV := Lib.hid hv
  have HX := Lib.hid hX
  have HU := Lib.hid hu
  clear hv hX hR hu
  go_enter Tryz.func5, Tryz.ntmps5
  go_wp2_with fail
  refine (sane27 w HR.out).mono ?_
  rintro e W1 ⟨rfl, hb1⟩
  have HE1 := Lib.hid hb1
  have HR1 := Lib.hid (HR.out.below hb1)
  clear hb1
  go_wp2_with fail
  refine (builtX X v W1 (HV.out.ext HE1.out) HX.out HR1.out).mono ?_
  rintro e W2 ⟨gs, gl, gst, gm, gp, gn, rv, hv, R, H, rs, rfl, hok, hs, hR12, -, hb2⟩
  obtain ⟨cs, hcs⟩ : ∃ cs, cs = srvCells gl gst gp gn := ⟨_, rfl⟩
  rw [← hcs] at hs
  have HS2 := Lib.hid hs
  have HAP := Lib.hid hs.apart
  have HOK := Lib.hid hok
  have HR12 := Lib.hid hR12
  have HE2 := Lib.hid hb2
  have HU2 := Lib.hid ((HU.out.ext HE1.out).ext hb2)
  clear hs hok hR12 hb2 hcs
  go_wp2_with fail
  refine (few_any L u W2 HU2.out).mono ?_
  rintro e W3 ⟨u3, rfl, hu3, hf3, hb3⟩
  obtain ⟨l, hl⟩ : ∃ l, l = L.take 10 := ⟨_, rfl⟩
  rw [← hl] at hu3
  have HL := Lib.hid (show l.length ≤ 10 by rw [hl]; exact List.length_take_le 10 L)
  have HU3 := Lib.hid hu3
  have HF3 := Lib.hid hf3
  have HE3 := Lib.hid (ext_call HE2.out hb3)
  have HS3 := Lib.hid (HS2.out.ext hb3)
  have hz3 := hb3.size
  obtain ⟨A3, c3, rfl, -⟩ := hu3
  clear hf3 hb3 hl HU2
  go_wp2_with fail
  refine (HS3.out.root (by have := HR12.out; omega) (HR1.out.below HE3.out)).mono ?_
  rintro e W4 ⟨rfl, hb4⟩
  obtain ⟨rt, hrt⟩ : ∃ rt, rt = logRootF H := ⟨_, rfl⟩
  rw [← hrt]
  have HRT := Lib.hid hrt
  have HE4 := Lib.hid (ext_call HE3.out hb4)
  have HS4 := Lib.hid (HS3.out.ext hb4)
  have HU4 := Lib.hid (HU3.out.ext hb4)
  have hz4 := hb4.size
  clear hb4 hrt HU3 HS3
  go_wp2_with fail
  refine (HS4.out.state (by have := HR12.out; omega)).mono ?_
  rintro e W5 ⟨ga, ma, rfl, hsa, hga, hma, hb5⟩
  have HA5 := Lib.hid hsa
  have HAB := Lib.hid (show W2.heap.size ≤ ga ∧ W2.heap.size ≤ ma by omega)
  have HE5 := Lib.hid (ext_call HE4.out hb5)
  have HS5 := Lib.hid (HS4.out.ext hb5)
  have HU5 := Lib.hid (HU4.out.ext hb5)
  have hz5 := hb5.size
  clear hb5 hsa hga hma HU4 HS4
  obtain ⟨last, hlast⟩ := HS5.out.last
  have HCM := Lib.hid (commitX W1 HR1.out gs gl gst gm cs rv hv R H rs last hlast l (.slice A3 l.length c3) W5 HE5.out HS5.out (by have := HR12.out; omega) HU5.out (by have := HL.out; omega) (by have h1 := commit_length (rs := rs) l; have h2 := HOK.out.few; have h3 := HL.out; omega))
  have HFR := Lib.hid HS2.out.fresh
  clear hlast
  go_wp2_with fail
  refine HCM.out.mono ?_
  rintro e W6 (⟨hno, rfl, hb6⟩ | ⟨hyes, rfl, ⟨rv2, hv2, g, d, hs6⟩, hb6, hx6⟩)
  · have HE6 := Lib.hid (ext_call HE5.out hb6)
    have HS6 := Lib.hid (HS5.out.ext hb6)
    have HA6 := Lib.hid (HA5.out.ext hb6)
    clear hno hb6 HCM HS5 HA5 HU5 HS2
    go_wp2_with fail
    refine HS6.out.pos.mono ?_
    rintro e w' ⟨rfl, hw'⟩
    subst w'
    go_wp2_with fail
    refine (HS6.out.state (by have := HR12.out; omega)).mono ?_
    rintro e W7 ⟨gb, mb, rfl, hsb, -, -, hb7⟩
    have HE7 := Lib.hid (ext_call HE6.out hb7)
    have HS7 := Lib.hid (HS6.out.ext hb7)
    have HA7 := Lib.hid (HA6.out.ext hb7)
    have HB7 := Lib.hid hsb
    clear hb7 hsb HS6 HA6
    go_wp2_with fail
    refine HS7.out.pos.mono ?_
    rintro e w' ⟨rfl, hw'⟩
    subst w'
    go_wp2_with fail
    refine (HS7.out.root (by have := HR12.out; omega) (HR1.out.below HE7.out)).mono ?_
    rintro e W8 ⟨rfl, hb8⟩
    rw [← HRT.out]
    have HE8 := Lib.hid (ext_call HE7.out hb8)
    have HA8 := Lib.hid (HA7.out.ext hb8)
    have HB8 := Lib.hid (HB7.out.ext hb8)
    clear hb8 HA7 HB7
    obtain ⟨sr, hsr⟩ : ∃ sr, sr = stRootF rs := ⟨_, rfl⟩
    have HSA := Lib.hid (HS7.out.stRoot HA8.out (HR1.out.below HE8.out))
    rw [← hsr] at HSA
    go_wp2_with fail
    refine HSA.out.mono ?_
    rintro e W9 ⟨rfl, hb9⟩
    have HE9 := Lib.hid (ext_call HE8.out hb9)
    have HSB := Lib.hid (HS7.out.stRoot (HB8.out.ext hb9) (HR1.out.below HE9.out))
    rw [← hsr] at HSB
    clear hb9
    go_wp2_with fail
    refine HSB.out.mono ?_
    rintro e W10 ⟨rfl, hb10⟩
    have HE10 := Lib.hid (ext_call HE1.out (ext_call HE9.out hb10))
    clear hb10
    go_wp2
    go_ret
    exact ⟨rfl, HE10.out⟩
  · have HYS := Lib.hid hyes
    obtain ⟨l2, hl2⟩ : ∃ l2, l2 = l.map (fillC rs) := ⟨_, rfl⟩
    obtain ⟨rs2, hrs2⟩ : ∃ rs2, rs2 = applyF rs (l.map (fillC rs)) := ⟨_, rfl⟩
    obtain ⟨H2, hH2⟩ : ∃ H2, H2 = (H ++ [(chainF last.1 (encG (encRec ((R.length : Int) + 1) (l.map (fillC rs)))), stRootF (applyF rs (l.map (fillC rs))))]) := ⟨_, rfl⟩
    rw [← hH2, ← hrs2, ← hl2] at hs6
    obtain ⟨R2, hR2⟩ : ∃ R2, R2 = R ++ [(l2, g, d)] := ⟨_, rfl⟩
    rw [← hR2] at hs6
    have HR2 := Lib.hid hR2
    have HL2 := Lib.hid hl2
    have HRS2 := Lib.hid hrs2
    have HN2 := Lib.hid (show R2.length = R.length + 1 by rw [hR2]; simp)
    have HS6 := Lib.hid hs6
    have HE6 := Lib.hid hb6
    have HU6 := Lib.hid (HU5.out.extF HF3.out HFR.out hx6)
    have HA6 := Lib.hid (HA5.out.extF HAB.out.1 HAB.out.2 HFR.out hx6)
    have e1 : ((R.length : Int) + 1) = (R2.length : Int) := by rw [HN2.out]; omega
    rw [e1]
    have HE1' := Lib.hid e1
    clear hyes hs6 hb6 hx6 HCM HS5 HA5 HU5 HS2 hR2 hl2 hrs2 hH2 HFR HF3 HAB e1
    go_wp2_with fail
    refine HS6.out.pos.mono ?_
    rintro e w' ⟨rfl, hw'⟩
    subst w'
    go_wp2_with fail
    refine (HS6.out.state (by have := HR12.out; have := HN2.out; omega)).mono ?_
    rintro e W7 ⟨gb, mb, rfl, hsb, -, -, hb7⟩
    have HE7 := Lib.hid (ext_call HE6.out hb7)
    have HS7 := Lib.hid (HS6.out.ext hb7)
    have HA7 := Lib.hid (HA6.out.ext hb7)
    have HU7 := Lib.hid (HU6.out.ext hb7)
    have HB7 := Lib.hid hsb
    clear hb7 hsb HS6 HA6 HU6
    go_wp2_with fail
    refine (recordsS _ gs gl R2.length R2.length rv2 hv2 R2 H2 (by have := HN2.out; omega) (by have := HN2.out; have := HR12.out; omega) (by have := HN2.out; have := HR12.out; omega) HS7.out.good W7 HS7.out.cell0 HS7.out.log).mono ?_
    rintro e W8 ⟨ur, xs, rfl, hlen, hown, -, hxr, hb8⟩
    have hlen1 : xs.length = 1 := by rw [hlen]; unfold nRec; omega
    obtain ⟨x0, hx0⟩ : ∃ x0, xs[0]? = some x0 := ⟨_, List.getElem?_eq_getElem (by omega)⟩
    rw [hlen1] at hown
    obtain ⟨g8, cap8, rfl, -, hg8, hcap8, hc8⟩ := own_cells hown (by omega)
    have hm := hxr 0 x0 hx0
    obtain ⟨y, hy, hy1, hyb, hyc⟩ := hm.at_
    have hyl : y.1 = l2 := by
      rw [HR2.out, show (R ++ [(l2, g, d)]).length + 0 - 1 = R.length by simp, List.getElem?_append_right (Nat.le_refl _), Nat.sub_self] at hy
      simp at hy
      rw [← hy]
    have e8 : W8.cell? ⟨g8, 1, none⟩ = some (.slice (some ⟨x0.2.2.1, 0, none⟩) x0.2.1 x0.2.2.2) := hc8 1 _ (rcN_at xs 0 x0 hx0 1 (by omega))
    have hl2n : l2.length = l.length := by rw [HL2.out, List.length_map]
    rw [hyl] at hy1 hyb hyc
    rw [hy1, hl2n] at e8
    rw [hl2n] at hyc
    obtain ⟨gc, hgc⟩ : ∃ gc, gc = x0.2.2.1 := ⟨_, rfl⟩
    obtain ⟨cc8, hcc⟩ : ∃ cc8, cc8 = x0.2.2.2 := ⟨_, rfl⟩
    rw [← hgc, ← hcc] at e8
    rw [← hgc] at hyb
    rw [← hcc] at hyc
    have HCB := Lib.hid hyb
    have HL2N := Lib.hid hl2n
    have E8 := Lib.hid e8
    have HE8 := Lib.hid (ext_call HE7.out hb8)
    have HS8 := Lib.hid (HS7.out.ext hb8)
    have HA8 := Lib.hid (HA7.out.ext hb8)
    have HU8 := Lib.hid (HU7.out.ext hb8)
    have HB8 := Lib.hid (HB7.out.ext hb8)
    have e2 : IntKind.i64.wrap ((R.length : Int) + 1) = (R2.length : Int) := by rw [IntWalk.i64_in _ (by have := HR12.out; omega)]; exact HE1'.out
    clear hb8 HS7 HA7 HU7 HB7 hlen hlen1 hown hc8 hxr hm hy hyl hy1 hyb hgc hcc hx0 hl2n
    have p1 : (0 : Int) < 1 := by omega
    have p2 : (1 : Int) ≤ (cap8 : Int) := by omega
    go_wp2_with fail
    refine HS8.out.pos.mono ?_
    rintro e w' ⟨rfl, hw'⟩
    subst w'
    go_wp2
    clear e8 p1
    go_loopw [16, 17, 18, 19, 20, 21] (fun i _ _ _ _ _ W => ∃ k : Nat, k ≤ l.length ∧ i = .int .i64 k ∧ Below W8.heap.size W8 W) (fun i _ _ _ _ _ _ => l.length - (intOf i).toNat)
    case atStart => exact ⟨0, Nat.zero_le _, rfl, ext_refl _⟩
    case round =>
      obtain ⟨k, hk, rfl, hE⟩ := hrel
      have HE := Lib.hid hE
      clear hE
      by_cases hlt : k < l.length
      · obtain ⟨x, hx⟩ : ∃ x, l[k]? = some x := ⟨_, List.getElem?_eq_getElem hlt⟩
        have hxm := List.mem_of_getElem? hx
        have hrow := aft_row (commit_ok HYS.out hxm)
        have haft : getR rs2 x.t x.k = aftC x := by rw [HRS2.out]; exact after_commit HAP.out HYS.out hxm
        have hx2 : l2[k]? = some (fillC rs x) := by rw [HL2.out, List.getElem?_map, hx]; rfl
        have HX2 := Lib.hid hx2
        have hg1 := fun (W : World) (h : StateR W ga ma (R.length : Int) rs) => getR_any ga ma _ rs x.t x.k W h
        have hg2 := fun (W : World) (h : StateR W gb mb (R2.length : Int) rs2) => getR_any gb mb _ rs2 x.t x.k W h
        rw [haft] at hg2
        rw [hrow.1, hrow.2.1, hrow.2.2.1, hrow.2.2.2] at hg2
        generalize ((aftC x).getD zeroR).t = y0 at hg2
        generalize ((aftC x).getD zeroR).k = y1 at hg2
        have hcv := (HCB.out.ext HE.out)
        have HCV := Lib.hid hcv
        have hfill : fillC rs x = { x with had := (getR rs x.t x.k).isSome, o1 := ((getR rs x.t x.k).getD zeroR).a, o2 := ((getR rs x.t x.k).getD zeroR).b, o3 := ((getR rs x.t x.k).getD zeroR).c } := rfl
        generalize (getR rs x.t x.k).isSome = had at hg1 hfill
        generalize (getR rs x.t x.k).getD zeroR = r at hg1 hfill
        obtain ⟨z0, z1, o1, o2, o3⟩ := r
        dsimp only at hg1 hfill
        rw [hfill] at HX2
        obtain ⟨b, off, c', hA, _, hc9⟩ := (HU8.out.ext HE.out).at_ hx
        injection hA with hA hn' hc'
        subst hA; subst hc'
        clear hn' hrow haft hx2 hfill hx hxm hcv
        obtain ⟨t, kk, had0, p1, p2', p3, has, n1, n2, n3⟩ := x
        dsimp only at hg1 hg2 HX2
        have HG1 := Lib.hid hg1
        have HG2 := Lib.hid hg2
        clear hg1 hg2
        have c0 : wr.cell? ⟨b, off + k * 10, none⟩ = some (.int .i64 t) := hc9 0 (by omega)
        have c1 : wr.cell? ⟨b, off + k * 10 + 1, none⟩ = some (.int .i64 kk) := hc9 1 (by omega)
        have c6 : wr.cell? ⟨b, off + k * 10 + 6, none⟩ = some (.bool has) := hc9 6 (by omega)
        have c7 : wr.cell? ⟨b, off + k * 10 + 7, none⟩ = some (.int .i64 n1) := hc9 7 (by omega)
        have c8 : wr.cell? ⟨b, off + k * 10 + 8, none⟩ = some (.int .i64 n2) := hc9 8 (by omega)
        have c9 : wr.cell? ⟨b, off + k * 10 + 9, none⟩ = some (.int .i64 n3) := hc9 9 (by omega)
        have HC := Lib.hid (And.intro c0 (And.intro c1 (And.intro c6 (And.intro c7 (And.intro c8 c9)))))
        have d0 : wr.cell? ⟨gc, k * 10, none⟩ = some (.int .i64 t) := HCV.out.cell HX2.out 0 (by omega)
        have d1 : wr.cell? ⟨gc, k * 10 + 1, none⟩ = some (.int .i64 kk) := HCV.out.cell HX2.out 1 (by omega)
        have d2 : wr.cell? ⟨gc, k * 10 + 2, none⟩ = some (.bool had) := HCV.out.cell HX2.out 2 (by omega)
        have d3 : wr.cell? ⟨gc, k * 10 + 3, none⟩ = some (.int .i64 o1) := HCV.out.cell HX2.out 3 (by omega)
        have d4 : wr.cell? ⟨gc, k * 10 + 4, none⟩ = some (.int .i64 o2) := HCV.out.cell HX2.out 4 (by omega)
        have d5 : wr.cell? ⟨gc, k * 10 + 5, none⟩ = some (.int .i64 o3) := HCV.out.cell HX2.out 5 (by omega)
        have d6 : wr.cell? ⟨gc, k * 10 + 6, none⟩ = some (.bool has) := HCV.out.cell HX2.out 6 (by omega)
        have d7 : wr.cell? ⟨gc, k * 10 + 7, none⟩ = some (.int .i64 n1) := HCV.out.cell HX2.out 7 (by omega)
        have d8 : wr.cell? ⟨gc, k * 10 + 8, none⟩ = some (.int .i64 n2) := HCV.out.cell HX2.out 8 (by omega)
        have d9 : wr.cell? ⟨gc, k * 10 + 9, none⟩ = some (.int .i64 n3) := HCV.out.cell HX2.out 9 (by omega)
        have e8 := cell_ext E8.out HE.out
        have q0 : (0 : Int) ≤ (k : Int) := by omega
        have q1 : (k : Int) < (l.length : Int) := by omega
        have q2 : (0 : Int) < 1 := by omega
        have e3 : IntKind.i64.wrap ((k : Int) + 1) = (k : Int) + 1 := IntWalk.i64_in _ (by have := HL.out; omega)
        clear hc9 HX2 HCV
        go_upto_region 17 with (fail)
        obtain ⟨X1, hX1⟩ : ∃ X1, X1 = wr.alloc (.cells #[.int .i64 t, .int .i64 kk, .bool had, .int .i64 o1, .int .i64 o2, .int .i64 o3, .bool has, .int .i64 n1, .int .i64 n2, .int .i64 n3] 75) := ⟨_, rfl⟩
        rw [← hX1]
        have HBC := Lib.hid (show Blk X1 wr.heap.size 75 #[.int .i64 t, .int .i64 kk, .bool had, .int .i64 o1, .int .i64 o2, .int .i64 o3, .bool has, .int .i64 n1, .int .i64 n2, .int .i64 n3] by rw [hX1]; exact Blk.new _ _ _)
        have HE1X := Lib.hid (show Below wr.heap.size wr X1 by rw [hX1]; exact ext_new _ _)
        have HEX := Lib.hid (show Below W8.heap.size W8 X1 by rw [hX1]; exact ext_alloc HE.out _)
        clear hX1 c0 c1 c6 c7 c8 c9 d0 d1 d2 d3 d4 d5 d6 d7 d8 d9 e8
        generalize hbc : wr.heap.size = bc at HBC ⊢
        clear hbc
        have c0 := cell_ext HC.out.1 HE1X.out
        have c1 := cell_ext HC.out.2.1 HE1X.out
        have HK := Lib.hid (And.intro c0 (And.intro c1 c0))
        go_region_held3 (fun w' => w'.cell? ⟨b, off + k * 10, none⟩ = some (.int .i64 t) ∧ w'.cell? ⟨b, off + k * 10 + 1, none⟩ = some (.int .i64 kk) ∧ w'.cell? ⟨b, off + k * 10, none⟩ = some (.int .i64 t) ∧ Below X1.heap.size X1 w')
          (first | with_reducible assumption | exact keepK HK.out (by repeat (first | with_reducible refine ext_alloc ?_ _ | with_reducible refine Below.drew ?_ | with_reducible assumption | with_reducible exact ext_refl _ | refine ext_set ?_ (Nat.le_refl _) _)))
          (first | (go_at_call 27; (with_reducible refine (HG1.out _ ?_).mono ?_); (exact HA8.out.ext (ext_call HEX.out (keep3E (by assumption)))); rintro e Z ⟨rfl, hb'⟩; have hXZ := ext_call (keep3E (by assumption)) hb'; try (have hbx := (show Blk Z X1.heap.size 77 #[.int .i64 0, .int .i64 0, .int .i64 0, .int .i64 0, .int .i64 0] from ((Blk.new X1 _ _).drew).ext hb'); have bx0 := hbx.cell 0; have bf0 := hbx.frozen 0; have bx1 := hbx.cell 1; have bf1 := hbx.frozen 1; have bx2 := hbx.cell 2; have bf2 := hbx.frozen 2; have bx3 := hbx.cell 3; have bf3 := hbx.frozen 3; have bx4 := hbx.cell 4; have bf4 := hbx.frozen 4; have HBX := Lib.hid hbx; clear hbx)))
        all_goals
          clear c0 c1
          first
          | (generalize hV : (World.setCell (World.setCell (World.setCell (World.setCell (World.setCell Z ⟨X1.heap.size, 0, none⟩ (.int .i64 z0)) ⟨X1.heap.size, 1, none⟩ (.int .i64 z1)) ⟨X1.heap.size, 2, none⟩ (.int .i64 o1)) ⟨X1.heap.size, 3, none⟩ (.int .i64 o2)) ⟨X1.heap.size, 4, none⟩ (.int .i64 o3)) = V
             have HBv := Lib.hid (show Blk V X1.heap.size 77 #[.int .i64 z0, .int .i64 z1, .int .i64 o1, .int .i64 o2, .int .i64 o3] by subst hV; exact (((((HBX.out.set_ 0 _).set_ 1 _).set_ 2 _).set_ 3 _).set_ 4 _))
             have HEv := Lib.hid (show Below X1.heap.size X1 V by subst hV; exact (ext_set (ext_set (ext_set (ext_set (ext_set hXZ (Nat.le_refl _) _) (Nat.le_refl _) _) (Nat.le_refl _) _) (Nat.le_refl _) _) (Nat.le_refl _) _))
             clear bx0 bf0 bx1 bf1 bx2 bf2 bx3 bf3 bx4 bf4 hV HBX hb' hXZ
             obtain ⟨bb, hrr⟩ : ∃ bb, bb = X1.heap.size := ⟨_, rfl⟩
             rw [← hrr] at HBv ⊢)
          | (generalize hV : World.alloc Z (.cells #[.int .i64 z0, .int .i64 z1, .int .i64 o1, .int .i64 o2, .int .i64 o3] 77) = V
             have HBv := Lib.hid (show Blk V Z.heap.size 77 #[.int .i64 z0, .int .i64 z1, .int .i64 o1, .int .i64 o2, .int .i64 o3] by subst hV; exact Blk.new _ _ _)
             have HEv := Lib.hid (show Below X1.heap.size X1 V by subst hV; exact ext_alloc hXZ _)
             clear hV hb' hXZ
             generalize hrr : Z.heap.size = bb at HBv ⊢)
          clear hrr
          have HE1V := Lib.hid (ext_call HE1X.out HEv.out)
          have HEV := Lib.hid (ext_call HEX.out HEv.out)
          have c0 := cell_ext HC.out.1 HE1V.out
          have c1 := cell_ext HC.out.2.1 HE1V.out
          have HKV := Lib.hid (And.intro c0 (And.intro c1 c0))
          go_upto_region 18 with (fail)
          go_region_held3 (fun w' => w'.cell? ⟨b, off + k * 10, none⟩ = some (.int .i64 t) ∧ w'.cell? ⟨b, off + k * 10 + 1, none⟩ = some (.int .i64 kk) ∧ w'.cell? ⟨b, off + k * 10, none⟩ = some (.int .i64 t) ∧ Below V.heap.size V w')
            (first | with_reducible assumption | exact keepK HKV.out (by repeat (first | with_reducible refine ext_alloc ?_ _ | with_reducible refine Below.drew ?_ | with_reducible assumption | with_reducible exact ext_refl _ | refine ext_set ?_ (Nat.le_refl _) _)))
            (first | (go_at_call 27; (with_reducible refine (HG2.out _ ?_).mono ?_); (exact HB8.out.ext (ext_call HEV.out (keep3E (by assumption)))); rintro e Z ⟨rfl, hb'⟩; have hXZ := ext_call (keep3E (by assumption)) hb'; try (have hbx := (show Blk Z V.heap.size 77 #[.int .i64 0, .int .i64 0, .int .i64 0, .int .i64 0, .int .i64 0] from ((Blk.new V _ _).drew).ext hb'); have bx0 := hbx.cell 0; have bf0 := hbx.frozen 0; have bx1 := hbx.cell 1; have bf1 := hbx.frozen 1; have bx2 := hbx.cell 2; have bf2 := hbx.frozen 2; have bx3 := hbx.cell 3; have bf3 := hbx.frozen 3; have bx4 := hbx.cell 4; have bf4 := hbx.frozen 4; have HBX := Lib.hid hbx; clear hbx)))
          all_goals
            clear c0 c1
            first
            | (generalize hV : (World.setCell (World.setCell (World.setCell (World.setCell (World.setCell Z ⟨V.heap.size, 0, none⟩ (.int .i64 y0)) ⟨V.heap.size, 1, none⟩ (.int .i64 y1)) ⟨V.heap.size, 2, none⟩ (.int .i64 n1)) ⟨V.heap.size, 3, none⟩ (.int .i64 n2)) ⟨V.heap.size, 4, none⟩ (.int .i64 n3)) = V2
               have HBv2 := Lib.hid (show Blk V2 V.heap.size 77 #[.int .i64 y0, .int .i64 y1, .int .i64 n1, .int .i64 n2, .int .i64 n3] by subst hV; exact (((((HBX.out.set_ 0 _).set_ 1 _).set_ 2 _).set_ 3 _).set_ 4 _))
               have HEv2 := Lib.hid (show Below V.heap.size V V2 by subst hV; exact (ext_set (ext_set (ext_set (ext_set (ext_set hXZ (Nat.le_refl _) _) (Nat.le_refl _) _) (Nat.le_refl _) _) (Nat.le_refl _) _) (Nat.le_refl _) _))
               clear bx0 bf0 bx1 bf1 bx2 bf2 bx3 bf3 bx4 bf4 hV HBX hb' hXZ
               obtain ⟨bb2, hrr⟩ : ∃ bb2, bb2 = V.heap.size := ⟨_, rfl⟩
               rw [← hrr] at HBv2 ⊢)
            | (generalize hV : World.alloc Z (.cells #[.int .i64 y0, .int .i64 y1, .int .i64 n1, .int .i64 n2, .int .i64 n3] 77) = V2
               have HBv2 := Lib.hid (show Blk V2 Z.heap.size 77 #[.int .i64 y0, .int .i64 y1, .int .i64 n1, .int .i64 n2, .int .i64 n3] by subst hV; exact Blk.new _ _ _)
               have HEv2 := Lib.hid (show Below V.heap.size V V2 by subst hV; exact ext_alloc hXZ _)
               clear hV hb' hXZ
               generalize hrr : Z.heap.size = bb2 at HBv2 ⊢)
            clear hrr
            have HE1V2 := Lib.hid (ext_call HE1V.out HEv2.out)
            have HEV2 := Lib.hid (ext_call HEV.out HEv2.out)
            have HBC2 := Lib.hid ((HBC.out.ext HEv.out).ext HEv2.out)
            have HBv3 := Lib.hid (HBv.out.ext HEv2.out)
            have c0 := cell_ext HC.out.1 HE1V2.out
            have c1 := cell_ext HC.out.2.1 HE1V2.out
            have c6 := cell_ext HC.out.2.2.1 HE1V2.out
            have c7 := cell_ext HC.out.2.2.2.1 HE1V2.out
            have c8 := cell_ext HC.out.2.2.2.2.1 HE1V2.out
            have c9 := cell_ext HC.out.2.2.2.2.2 HE1V2.out
            have d0 := HBC2.out.cell 0; have d1 := HBC2.out.cell 1; have d2 := HBC2.out.cell 2; have d3 := HBC2.out.cell 3; have d4 := HBC2.out.cell 4; have d5 := HBC2.out.cell 5; have d6 := HBC2.out.cell 6; have d7 := HBC2.out.cell 7; have d8 := HBC2.out.cell 8; have d9 := HBC2.out.cell 9
            have x0 := HBv3.out.cell 0; have x1 := HBv3.out.cell 1; have x2 := HBv3.out.cell 2; have x3 := HBv3.out.cell 3; have x4 := HBv3.out.cell 4
            have s0 := HBv2.out.cell 0; have s1 := HBv2.out.cell 1; have s2 := HBv2.out.cell 2; have s3 := HBv2.out.cell 3; have s4 := HBv2.out.cell 4
            go_upto_region 19 with (fail)
            have hq1 := fun W : World => eq3t o1 o2 o3 W
            have hq2 := fun W : World => eq3t n1 n2 n3 W
            go_quiet (fail)
            go_wp2
            go_roundw
            case rel => exact ⟨k + 1, by omega, by go_num, ext_drewN HEV2.out _⟩
            case measure => simp [intOf]; omega
      · have d1 : decide ((k : Int) < (l.length : Int)) = false := by simp; omega
        have hS9 := HS8.out.ext HE.out
        obtain ⟨last2, hlast2⟩ := hS9.last
        have HCM := Lib.hid (commitX W1 HR1.out gs gl gst gm cs rv2 hv2 R2 H2 rs2 last2 hlast2 l (.slice A3 l.length c3) wr (ext_call HE8.out HE.out) hS9 (by have := HR12.out; have := HN2.out; omega) (HU8.out.ext HE.out) (by have := HL.out; omega) (by
          have h1 := commit_length (rs := rs) l
          have h2 := commit_length (rs := rs2) l
          rw [← HRS2.out] at h1
          have h3 := HOK.out.few
          have h4 := HL.out
          omega))
        have HTW := Lib.hid (show vrecF (l.map (fillC rs2)) = false by rw [HRS2.out]; exact commit_twice HAP.out HYS.out)
        have HF := Lib.hid (ext_call (ext_call HE1.out HE8.out) HE.out)
        clear hS9 hlast2
        go_wp2_with fail
        refine HCM.out.mono ?_
        rintro e W9 (⟨-, rfl, hb9⟩ | ⟨hyes2, -⟩)
        · have HF9 := Lib.hid (ext_call HF.out hb9)
          clear hb9
          go_wp2
          go_ret
          exact ⟨rfl, HF9.out⟩
        · exfalso
          rw [HTW.out] at hyes2
          cases hyes2

end Go.Proofs.YtbgfmbmcabekeaaGreatDoor
