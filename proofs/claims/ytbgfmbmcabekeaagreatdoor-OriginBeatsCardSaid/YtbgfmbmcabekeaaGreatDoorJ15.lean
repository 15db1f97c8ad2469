/-
  Part 15 of 17: the contracts that the proof of the last part uses; each stands under its own head.
-/
import Derived.Test.YtbgfmbmcabekeaaGreatDoorJ14
import Derived.Deep.RegionHeld3
set_option linter.unusedSimpArgs false
set_option linter.unusedVariables false

/-
  package logtree: Append at any log.
-/
namespace Go.Proofs.YtbgfmbmcabekeaaGreatDoor
open Go.RowKit
attribute [local go_sem ↓] Go.wp_at_zero Go.wp_at_succ

theorem recg_info : (Tryz.prog.info? 46).map (fun i => (i.zero, i.size, i.bytes)) = some (some (.agg #[.int .i64 0, .slice none 0 0]), 2, 32) := by kernel_rfl
theorem headg_info : (Tryz.prog.info? 86).map (fun i => (i.zero, i.size, i.bytes)) = some (some (.agg #[.int .i64 0, .string ⟨#[]⟩, .string ⟨#[]⟩]), 3, 40) := by kernel_rfl
theorem agKeep5 {W0 W W' : World} {gl gh rb n : Nat} {hv : Value} {c s : ByteArray} {p : Int} {v : Value} (h : W.cell? ⟨gl, 1, none⟩ = some hv ∧ W.cell? ⟨gh, n * 3, none⟩ = some (.int .i64 (n : Int)) ∧ W.cell? ⟨gh, n * 3 + 1, none⟩ = some (.string c) ∧ W.cell? ⟨gh, n * 3 + 2, none⟩ = some (.string s) ∧
    W.cell? ⟨rb, 0, none⟩ = some (.int .i64 p) ∧ W.cell? ⟨rb, 1, none⟩ = some v ∧ Below W0.heap.size W0 W) (hb : Below W.heap.size W W') : W'.cell? ⟨gl, 1, none⟩ = some hv ∧ W'.cell? ⟨gh, n * 3, none⟩ = some (.int .i64 (n : Int)) ∧ W'.cell? ⟨gh, n * 3 + 1, none⟩ = some (.string c) ∧ W'.cell? ⟨gh, n * 3 + 2, none⟩ = some (.string s) ∧
    W'.cell? ⟨rb, 0, none⟩ = some (.int .i64 p) ∧ W'.cell? ⟨rb, 1, none⟩ = some v ∧ Below W0.heap.size W0 W' :=
  ⟨cell_ext h.1 hb, cell_ext h.2.1 hb, cell_ext h.2.2.1 hb, cell_ext h.2.2.2.1 hb, cell_ext h.2.2.2.2.1 hb, cell_ext h.2.2.2.2.2.1 hb, ext_call h.2.2.2.2.2.2 hb⟩
theorem agB5 {W0 W : World} {gl gh rb n : Nat} {hv : Value} {c s : ByteArray} {p : Int} {v : Value} (h : W.cell? ⟨gl, 1, none⟩ = some hv ∧ W.cell? ⟨gh, n * 3, none⟩ = some (.int .i64 (n : Int)) ∧ W.cell? ⟨gh, n * 3 + 1, none⟩ = some (.string c) ∧ W.cell? ⟨gh, n * 3 + 2, none⟩ = some (.string s) ∧
    W.cell? ⟨rb, 0, none⟩ = some (.int .i64 p) ∧ W.cell? ⟨rb, 1, none⟩ = some v ∧ Below W0.heap.size W0 W) : Below W0.heap.size W0 W := h.2.2.2.2.2.2

theorem aqKeepG {X W : World} {rb hx : Nat} {S : Nat → Prop} {a b c d e : Value} (h : Blk X rb 46 #[a, b] ∧ Blk X hx 86 #[c, d, e] ∧ ¬ S rb ∧ ¬ S hx) (k : ExtS S X W) :
    W.cell? ⟨rb, 0, none⟩ = some a ∧ W.cell? ⟨rb, 1, none⟩ = some b ∧ W.cell? ⟨hx, 0, none⟩ = some c ∧ W.cell? ⟨hx, 1, none⟩ = some d ∧ W.cell? ⟨hx, 2, none⟩ = some e ∧ ExtS S X W :=
  ⟨(ExtS.blk h.1 k h.2.2.1).cell 0, (ExtS.blk h.1 k h.2.2.1).cell 1, (ExtS.blk h.2.1 k h.2.2.2).cell 0, (ExtS.blk h.2.1 k h.2.2.2).cell 1, (ExtS.blk h.2.1 k h.2.2.2).cell 2, k⟩
theorem news_blk {W : World} {g : Nat} {t : TypeId} {cs : Array Value} (h : Blk W g t cs) : ∀ j u, cs.toList[j]? = some u → W.cell? ((⟨g, 0, none⟩ : Addr).add j) = some u := fun j u hu => by
  rw [add_lit0, h.cell, ← hu]
  simp
theorem ExtS.setG {gl : Nat} {rv hv : Value} {X W : World} {i : Nat} {u : Value} (h : ExtS (ApX gl rv hv) X W) : ExtS (ApX gl rv hv) X (W.setCell ⟨gl, i, none⟩ u) :=
  h.trans ⟨rfl, rfl, rfl, by simp [World.setCell], fun k _ hn => Below.heap_setCell _ _ _ _ (fun e => hn (.inl e))⟩
theorem own_setT {W : World} {B g sz n : Nat} {t e : TypeId} {cs : Array Value} {v : Value} {xs : List Value} (h : W.ownsRow B e sz v n xs) (hb : Blk W g t cs) (ht : t ≠ e) (i : Nat) (u : Value) : (W.setCell ⟨g, i, none⟩ u).ownsRow B e sz v n xs := by
  refine h.kept (row := some g) ⟨rfl, rfl, rfl, by simp [World.setCell], fun k _ hk => Below.heap_setCell _ _ _ _ (fun e => hk (by rw [e]))⟩ ?_
  rcases h.2 with ⟨rfl, _⟩ | ⟨g', cap, cur, rfl, _, hb', _⟩
  · exact .inl rfl
  · refine .inr fun e2 => ?_
    have e3 : g' = g := Option.some.inj e2
    subst e3
    exact blkNe hb hb' ht rfl
theorem ChgB.setT {W : World} {g b : Nat} {t : TypeId} {cs : Array Value} {l : List ChgT} (h : ChgB W b l) (hb : Blk W g t cs) (ht : t ≠ 75) (i : Nat) (u : Value) : ChgB (W.setCell ⟨g, i, none⟩ u) b l := by
  refine h.far (p := ⟨g, i, none⟩) ?_ u
  obtain ⟨cur, hc, _⟩ := h
  intro e
  exact blkNe hb hc ht e.symm
theorem logG_app {X U : World} {B gl n go d : Nat} {rv hv rv2 hv2 : Value} {R : List (List ChgT × Nat × Nat)} {H : List (ByteArray × ByteArray)} {l : List ChgT} {cz t : ByteArray} (hn : n = R.length) (hH : H.length = n + 1) (hX : LogG B X gl rv hv R H) (hd : l.length ≤ d) (ht : t.size = 32) (hc : cz.size = 32)
    (h1 : Blk U gl 144 #[rv2, hv2]) (h2 : U.ownsRow B 46 2 rv2 (n + 1) (rcF 0 R ++ [.int .i64 ((n : Int) + 1), .slice (some ⟨go, 0, none⟩) l.length d])) (h3 : U.ownsRow B 86 3 hv2 (n + 1 + 1) (hcF 0 H ++ [.int .i64 ((n : Int) + 1), .string cz, .string t]))
    (h4 : ∀ x ∈ R, ChgB U x.2.1 x.1) (h5 : ChgB U go l) : LogG B U gl rv2 hv2 (R ++ [(l, go, d)]) (H ++ [(cz, t)]) := by
  refine ⟨h1, ?_, ?_, fun x hx => ?_, by simp [hX.len], fun h hh => ?_⟩
  · rw [rcF_append, List.length_append, ← hn, Nat.zero_add]; exact h2
  · rw [hcF_append, List.length_append, hH, Nat.zero_add]
    have e : (((n + 1 : Nat)) : Int) = (n : Int) + 1 := by omega
    rw [e]; exact h3
  · rcases List.mem_append.1 hx with h | h
    · exact ⟨h4 x h, (hX.chg x h).2⟩
    · simp at h; subst h; exact ⟨h5, hd⟩
  · rcases List.mem_append.1 hh with h6 | h6
    · exact hX.sizes h h6
    · simp at h6; subst h6; exact ⟨hc, ht⟩

set_option maxRecDepth 100000 in
set_option maxHeartbeats 4000000 in
theorem logAppendG (B gl : Nat) (rv hv : Value) (R : List (List ChgT × Nat × Nat)) (H : List (ByteArray × ByteArray)) (l : List ChgT) (v : Value) (t : ByteArray) (ht : t.size = 32) (hn : R.length ≤ 60) (w : World) (hBw : B ≤ w.heap.size) (hL : LogG B w gl rv hv R H)
    (hvl : ChgsAt w v l) (hl : ChgsOK l) (hsm : ∀ x ∈ l, x.small) (hF : validF l = true) (hR : RoundOK w) :
    Calls Tryz.prog 41 #[.pointer (some ⟨gl, 0, none⟩), .agg #[.int .i64 ((R.length : Int) + 1), v], .string t] w
      fun e w' => e = .returned (.int .i64 0) ∧ ∃ rv2 hv2 g d cz, LogG B w' gl rv2 hv2 (R ++ [(l, g, d)]) (H ++ [(cz, t)]) ∧ ExtS (ApX gl rv hv) w w' := by
  obtain ⟨ir, hir, hzr0, hzr1, hzr2⟩ := info_parts recg_info
  obtain ⟨ih, hih, hzh0, hzh1, hzh2⟩ := info_parts headg_info
  obtain ⟨n, hnn⟩ : ∃ n, n = R.length := ⟨_, rfl⟩
  rw [← hnn] at hn ⊢
  have hHl : H.length = n + 1 := by rw [hL.len, hnn]
  obtain ⟨A, cr, hrv⟩ := own_shape hL.recs
  obtain ⟨gh, ch, curh, hhv, -, hbh⟩ := own_blk hL.heads (by omega)
  obtain ⟨last, hlast⟩ : ∃ x, H[n]? = some x := ⟨_, List.getElem?_eq_getElem (by omega)⟩
  obtain ⟨q0, q1, q2⟩ := hcF_at H 0 n last hlast
  rw [Nat.zero_add] at q0
  have hls := hL.sizes last (List.mem_of_getElem? hlast)
  have hk : ∀ i u, (hcF 0 H)[i]? = some u → w.cell? ⟨gh, i, none⟩ = some u := fun i u hu => by
    have h1 := hL.heads.cells (g := gh) (by rw [hhv]; rfl) i u hu
    rw [add_lit0] at h1
    exact h1
  obtain ⟨lc, ls⟩ := last
  rw [hHl] at hhv
  rw [← hnn] at hrv
  subst hrv hhv
  have h0l : 0 < l.length := by
    cases l with
    | nil => simp [validF] at hF
    | cons a r => simp
  have HNx := Lib.hid (fun (W : World) (k : Below w.heap.size w W) => logNextR n hn l v lc ls t hls.1 hls.2 ht W (hvl.ext k) hl hsm hF (hR.below k))
  have HOw := Lib.hid (fun (W : World) (h : ChgsAt W v l) => logOwnG ((n : Int) + 1) l v W h h0l hl.few)
  have HCZ := Lib.hid (chainF_size lc (encZ (encRec ((n : Int) + 1) l)))
  generalize chainF lc (encZ (encRec ((n : Int) + 1) l)) = cz at *
  obtain ⟨W0, hW0⟩ : ∃ W0, W0 = w.alloc (.cells #[.int .i64 ((n : Int) + 1), v] 46) := ⟨_, rfl⟩
  have HE0 := Lib.hid (show Below w.heap.size w W0 by rw [hW0]; exact ext_new _ _)
  have HX := Lib.hid (show Blk W0 w.heap.size 46 #[.int .i64 ((n : Int) + 1), v] by rw [hW0]; exact Blk.new _ _ _)
  have HLG := Lib.hid (hL.ext HE0.out)
  have HS0 := Lib.hid (show W0.cell? ⟨gl, 1, none⟩ = some (.slice (some ⟨gh, 0, none⟩) (n + 1) ch) ∧ W0.cell? ⟨gh, n * 3, none⟩ = some (.int .i64 (n : Int)) ∧ W0.cell? ⟨gh, n * 3 + 1, none⟩ = some (.string lc) ∧ W0.cell? ⟨gh, n * 3 + 2, none⟩ = some (.string ls) ∧
    W0.cell? ⟨w.heap.size, 0, none⟩ = some (.int .i64 ((n : Int) + 1)) ∧ W0.cell? ⟨w.heap.size, 1, none⟩ = some v ∧ Below W0.heap.size W0 W0 from
    ⟨HLG.out.log.cell 1, cell_ext (hk _ _ q0) HE0.out, cell_ext (hk _ _ q1) HE0.out, cell_ext (hk _ _ q2) HE0.out, HX.out.cell 0, HX.out.cell 1, ext_refl _⟩)
  have HVL := Lib.hid (hvl.ext HE0.out)
  have HW0 := Lib.hid hW0
  have HNN := Lib.hid hnn
  have HHL := Lib.hid hHl
  have hgl := hL.log.lt
  have HNA := Lib.hid (show ∀ k, w.heap.size ≤ k → ¬ ApX gl (.slice A n cr) (.slice (some ⟨gh, 0, none⟩) (n + 1) ch) k from fun k hk => by
    rintro (h | h | h)
    · have := hL.log.lt; omega
    · have := (hL.recs.lt k h).2; omega
    · have := (hL.heads.lt k h).2; omega)
  have hghl := hbh.lt
  have HT := Lib.hid ht
  obtain ⟨Av, cv, hvv, -⟩ := hvl
  subst hvv
  clear ht hL hl hsm hF hR hW0 hnn hHl hbh hlast q0 q1 q2 hls hk
  go_enter Tryz.func41, Tryz.ntmps41
  go_wp2_with fail
  rw [← HW0.out]
  have e1 : IntKind.i64.wrap (n : Int) = (n : Int) := by rw [IntWalk.i64_in _ (by omega)]
  have q0 : (0 : Int) ≤ (n : Int) := by omega
  have q1 : (n : Int) < (n : Int) + 1 := by omega
  go_region_held3 (fun w' => w'.cell? ⟨gl, 1, none⟩ = some (.slice (some ⟨gh, 0, none⟩) (n + 1) ch) ∧ w'.cell? ⟨gh, n * 3, none⟩ = some (.int .i64 (n : Int)) ∧ w'.cell? ⟨gh, n * 3 + 1, none⟩ = some (.string lc) ∧ w'.cell? ⟨gh, n * 3 + 2, none⟩ = some (.string ls) ∧ w'.cell? ⟨w.heap.size, 0, none⟩ = some (.int .i64 ((n : Int) + 1)) ∧ w'.cell? ⟨w.heap.size, 1, none⟩ = some (.slice Av l.length cv) ∧ Below W0.heap.size W0 w')
    (first | exact agKeep5 HS0.out (ext_refl W0).drew | assumption | exact agKeep5 HS0.out hbw | exact agKeep5 HS0.out (ext_alloc hbw _) | exact agKeep5 HS0.out (ext_alloc hbw _).drew | exact agKeep5 HS0.out (ext_new _ _).drew | exact agKeep5 HS0.out (ext_new _ _) | exact agKeep5 HS0.out (ext_set (ext_set (ext_set hbw (Nat.le_refl _) _) (Nat.le_refl _) _) (Nat.le_refl _) _))
    (first | (go_at_call 75; (with_reducible refine (HNx.out _ ?_).mono ?_); (exact ext_call HE0.out (agB5 (by assumption))); rintro e W1 ⟨rfl, hb'⟩; have hbw := ext_call (agB5 (by assumption)) hb'; try (have hbx := (show Blk W1 W0.heap.size 86 #[.int .i64 0, .string ⟨#[]⟩, .string ⟨#[]⟩] from ((Blk.new W0 _ _).drew).ext hb'); have bx0 := hbx.cell 0; have bf0 := hbx.frozen 0; have bx1 := hbx.cell 1; have bf1 := hbx.frozen 1; have bx2 := hbx.cell 2; have bf2 := hbx.frozen 2; have HBX := Lib.hid hbx; clear hbx)))
  all_goals
    clear hb'
    first
    | (generalize hX : World.setCell (World.setCell (World.setCell W1 ⟨W0.heap.size, 0, none⟩ (.int .i64 ((n : Int) + 1))) ⟨W0.heap.size, 1, none⟩ (.string cz)) ⟨W0.heap.size, 2, none⟩ (.string t) = X
       have HBx := Lib.hid (show Blk X W0.heap.size 86 #[.int .i64 ((n : Int) + 1), .string cz, .string t] by subst hX; exact ((HBX.out.set_ 0 _).set_ 1 _).set_ 2 _)
       have HEx := Lib.hid (show Below W0.heap.size W0 X by subst hX; exact ext_set (ext_set (ext_set hbw (Nat.le_refl _) _) (Nat.le_refl _) _) (Nat.le_refl _) _)
       have hhx : W0.heap.size ≤ W0.heap.size := Nat.le_refl _
       clear bx0 bx1 bx2 bf0 bf1 bf2 hX hbw HBX
       generalize hgx : W0.heap.size = hx at HBx hhx ⊢)
    | (generalize hX : World.alloc W1 (.cells #[.int .i64 ((n : Int) + 1), .string cz, .string t] 86) = X
       have HBx := Lib.hid (show Blk X W1.heap.size 86 #[.int .i64 ((n : Int) + 1), .string cz, .string t] by subst hX; exact Blk.new _ _ _)
       have HEx := Lib.hid (show Below W0.heap.size W0 X by subst hX; exact ext_alloc hbw _)
       have hhx : W0.heap.size ≤ W1.heap.size := hbw.size
       clear hX hbw
       generalize hgx : W1.heap.size = hx at HBx hhx ⊢)
    have HGx := Lib.hid (HLG.out.ext HEx.out)
    have HXx := Lib.hid (HX.out.ext HEx.out)
    have HVX := Lib.hid (HVL.out.ext HEx.out)
    have hw0 := HE0.out.size
    have hnr : ¬ ApX gl (.slice A n cr) (.slice (some ⟨gh, 0, none⟩) (n + 1) ch) w.heap.size := HNA.out _ (Nat.le_refl _)
    have hnh : ¬ ApX gl (.slice A n cr) (.slice (some ⟨gh, 0, none⟩) (n + 1) ch) hx := HNA.out _ (by omega)
    have HSX := Lib.hid (And.intro HXx.out (And.intro HBx.out (And.intro hnr hnh)))
    have HA := Lib.hid (show ApI B X gl (.slice A n cr) (.slice (some ⟨gh, 0, none⟩) (n + 1) ch) R (.slice A n cr) n (rcF 0 R) (.slice (some ⟨gh, 0, none⟩) (n + 1) ch) (n + 1) (hcF 0 H) X.drew by
      have h1 := ApI.start HGx.out
      rw [← HNN.out, HHL.out] at h1
      exact h1.below (ext_refl X).drew)
    have HBB := Lib.hid (show B ≤ X.heap.size by have h1 := hBw; have h2 := HE0.out.size; have h3 := HEx.out.size; omega)
    have HBD := Lib.hid (show Below X.heap.size X X.drew from (ext_refl X).drew)
    clear hnr hnh e1 q0 q1
    go_wp2
    refine wp_region_L (fun w' => w'.cell? ⟨w.heap.size, 0, none⟩ = some (.int .i64 ((n : Int) + 1)) ∧ w'.cell? ⟨w.heap.size, 1, none⟩ = some (.slice Av l.length cv) ∧ w'.cell? ⟨hx, 0, none⟩ = some (.int .i64 ((n : Int) + 1)) ∧ w'.cell? ⟨hx, 1, none⟩ = some (.string cz) ∧ w'.cell? ⟨hx, 2, none⟩ = some (.string t) ∧ ExtS (ApX gl (.slice A n cr) (.slice (some ⟨gh, 0, none⟩) (n + 1) ch)) X w')
      (fun w' => w'.cell? ⟨gl, 0, none⟩ = some (.slice A n cr) ∧ w'.cell? ⟨gl, 1, none⟩ = some (.slice (some ⟨gh, 0, none⟩) (n + 1) ch)) [19, 22] (by kernel_rfl) ?_
    generalize X.drew = U0 at *
    refine takeF 0 (v := ?_) rfl (by kernel_rfl) (by kernel_rfl) (by kernel_rfl) (by kernel_rfl) (fun _ _ _ h => h) (Or.inl ⟨by rfl, ?_⟩) (aqKeepG HSX.out HA.out.ext) (fun _ => (And.intro (HA.out.log.cell 0) (HA.out.log.cell 1))) ?_
    rotate_left 1
    · (rintro w' ⟨f0, f1, f2, f3, f4, _⟩; go_simp; with_reducible rfl)
    refine takeF 1 (v := ?_) rfl (by kernel_rfl) (by kernel_rfl) (by kernel_rfl) (by kernel_rfl) (fun _ _ _ h => h) (Or.inl ⟨by rfl, ?_⟩) (aqKeepG HSX.out HA.out.ext) (fun _ => (And.intro (HA.out.log.cell 0) (HA.out.log.cell 1))) ?_
    rotate_left 1
    · (rintro w' ⟨f0, f1, f2, f3, f4, _⟩; go_simp; with_reducible rfl)
    refine takeF 2 (v := ?_) rfl (by kernel_rfl) (by kernel_rfl) (by kernel_rfl) (by kernel_rfl) (fun _ _ _ h => h) (Or.inl ⟨by rfl, ?_⟩) (aqKeepG HSX.out HA.out.ext) (fun _ => (And.intro (HA.out.log.cell 0) (HA.out.log.cell 1))) ?_
    rotate_left 1
    · (rintro w' ⟨f0, f1, f2, f3, f4, _⟩; go_simp; with_reducible rfl)
    refine takeF 3 (v := ?_) rfl (by kernel_rfl) (by kernel_rfl) (by kernel_rfl) (by kernel_rfl) (fun _ _ _ h => h) (Or.inl ⟨by rfl, ?_⟩) (aqKeepG HSX.out HA.out.ext) (fun _ => (And.intro (HA.out.log.cell 0) (HA.out.log.cell 1))) ?_
    rotate_left 1
    · (rintro w' ⟨f0, f1, f2, f3, f4, _⟩; go_simp; with_reducible rfl)
    refine takeF 4 (v := ?_) rfl (by kernel_rfl) (by kernel_rfl) (by kernel_rfl) (by kernel_rfl) (fun _ _ _ h => h) (Or.inl ⟨by rfl, ?_⟩) (aqKeepG HSX.out HA.out.ext) (fun _ => (And.intro (HA.out.log.cell 0) (HA.out.log.cell 1))) ?_
    rotate_left 1
    · (rintro w' ⟨f0, f1, f2, f3, f4, _⟩; go_simp; with_reducible rfl)
    refine takeG 5 (v := ?_) rfl (by kernel_rfl) (by kernel_rfl) (by kernel_rfl) (by kernel_rfl) (by kernel_rfl) (by kernel_rfl) (fun _ _ _ h => h) (Or.inl ⟨by rfl, ?_⟩) (aqKeepG HSX.out HA.out.ext) (And.intro (HA.out.log.cell 0) (HA.out.log.cell 1)) ?_
    rotate_left 1
    · (rintro w' ⟨f0, f1⟩; go_simp; with_reducible rfl)
    refine takeF 6 (v := ?_) rfl (by kernel_rfl) (by kernel_rfl) (by kernel_rfl) (by kernel_rfl) (fun _ _ _ h => h) (Or.inl ⟨by rfl, ?_⟩) (aqKeepG HSX.out HA.out.ext) (fun _ => (And.intro (HA.out.log.cell 0) (HA.out.log.cell 1))) ?_
    rotate_left 1
    · (rintro w' ⟨f0, f1, f2, f3, f4, _⟩; go_simp; with_reducible rfl)
    refine takeF 10 (v := ?_) rfl (by kernel_rfl) (by kernel_rfl) (by kernel_rfl) (by kernel_rfl) (fun _ _ _ h => h) (Or.inl ⟨by rfl, ?_⟩) (aqKeepG HSX.out HA.out.ext) (fun _ => (And.intro (HA.out.log.cell 0) (HA.out.log.cell 1))) ?_
    rotate_left 1
    · (rintro w' ⟨f0, f1, f2, f3, f4, _⟩; go_simp; with_reducible rfl)
    refine takeF 11 (v := ?_) rfl (by kernel_rfl) (by kernel_rfl) (by kernel_rfl) (by kernel_rfl) (fun _ _ _ h => h) (Or.inl ⟨by rfl, ?_⟩) (aqKeepG HSX.out HA.out.ext) (fun _ => (And.intro (HA.out.log.cell 0) (HA.out.log.cell 1))) ?_
    rotate_left 1
    · (rintro w' ⟨f0, f1, f2, f3, f4, _⟩; go_simp; with_reducible rfl)
    refine takeF 12 (v := ?_) rfl (by kernel_rfl) (by kernel_rfl) (by kernel_rfl) (by kernel_rfl) (fun _ _ _ h => h) (Or.inl ⟨by rfl, ?_⟩) (aqKeepG HSX.out HA.out.ext) (fun _ => (And.intro (HA.out.log.cell 0) (HA.out.log.cell 1))) ?_
    rotate_left 1
    · (rintro w' ⟨f0, f1, f2, f3, f4, _⟩; go_simp; with_reducible rfl)
    refine takeG 13 (v := ?_) rfl (by kernel_rfl) (by kernel_rfl) (by kernel_rfl) (by kernel_rfl) (by kernel_rfl) (by kernel_rfl) (fun _ _ _ h => h) (Or.inl ⟨by rfl, ?_⟩) (aqKeepG HSX.out HA.out.ext) (And.intro (HA.out.log.cell 0) (HA.out.log.cell 1)) ?_
    rotate_left 1
    · (rintro w' ⟨f0, f1⟩; go_simp; with_reducible rfl)
    refine takeF 14 (v := ?_) rfl (by kernel_rfl) (by kernel_rfl) (by kernel_rfl) (by kernel_rfl) (fun _ _ _ h => h) (Or.inl ⟨by rfl, ?_⟩) (aqKeepG HSX.out HA.out.ext) (fun _ => (And.intro (HA.out.log.cell 0) (HA.out.log.cell 1))) ?_
    rotate_left 1
    · (rintro w' ⟨f0, f1, f2, f3, f4, _⟩; go_simp; with_reducible rfl)
    refine allL [7, 15] (by kernel_rfl) (by simp) ?_
    simp only [List.forall_mem_cons, List.not_mem_nil, false_implies, implies_true, and_true]
    refine ⟨?_, ?_⟩
    · refine stepL rfl (by rfl) (fun K hK => ?_)
      go_simp
      go_at_call 76
      refine (HOw.out _ (HVX.out.ext HBD.out)).mono ?_
      rintro e V7 ⟨go, d, rfl, -, hd, hch, hbo⟩
      have HA := Lib.hid (HA.out.below hbo)
      have HGO := Lib.hid hch
      have HD := Lib.hid hd
      have HBD := Lib.hid (ext_call HBD.out hbo)
      clear hbo hch hd
      refine hK _ _ ⟨⟨(aqKeepG HSX.out HA.out.ext), fun _ => (And.intro (HA.out.log.cell 0) (HA.out.log.cell 1))⟩, ?_⟩
      clear hK K
      refine allL [8, 15] (by kernel_rfl) (by simp) ?_
      simp only [List.forall_mem_cons, List.not_mem_nil, false_implies, implies_true, and_true]
      refine ⟨?_, ?_⟩
      · refine stepL rfl (by rfl) (fun K hK => ?_)
        go_simp
        obtain ⟨U8, hU⟩ : ∃ Z, Z = World.alloc V7 (.cells #[.int .i64 ((n : Int) + 1), .slice (some ⟨go, 0, none⟩) l.length d] 46) := ⟨_, rfl⟩
        have hbo : Below V7.heap.size V7 U8 := by rw [hU]; exact ext_new _ _
        have HNB := Lib.hid (show Blk U8 V7.heap.size 46 #[.int .i64 ((n : Int) + 1), .slice (some ⟨go, 0, none⟩) l.length d] by rw [hU]; exact Blk.new _ _ _)
        have HA := Lib.hid (HA.out.below hbo)
        have HBD := Lib.hid (ext_call HBD.out hbo)
        have HGO := Lib.hid (HGO.out.ext hbo)
        rw [← hU]
        clear hU hbo
        generalize V7.heap.size = nb at HNB ⊢
        refine hK _ _ ⟨⟨(aqKeepG HSX.out HA.out.ext), fun _ => (And.intro (HA.out.log.cell 0) (HA.out.log.cell 1))⟩, ?_⟩
        clear hK K
        refine allL [9, 15] (by kernel_rfl) (by simp) ?_
        simp only [List.forall_mem_cons, List.not_mem_nil, false_implies, implies_true, and_true]
        refine ⟨?_, ?_⟩
        · refine stepL rfl (by rfl) (fun K hK => ?_)
          refine wp_append_own _ (.tmp 37) (.tmp 40) 53 rfl B 46 ir (.agg #[.int .i64 0, .slice none 0 0]) 2 32 Tryz.underlying53 hir hzr0 hzr1 hzr2 rfl (by decide) (.slice A n cr) n (rcF 0 R) (by rfl) HA.out.recs ⟨nb, 0, none⟩ 1 1 [.int .i64 ((n : Int) + 1), .slice (some ⟨go, 0, none⟩) l.length d] (by rfl) rfl (news_blk HNB.out) (by simp [Value.oneCell']) (by unfold maxLen; omega) (by omega) (Nat.le_trans HBB.out HA.out.ext.size) ?_
          intro v9 W9 ho9 hg9 _
          obtain ⟨A9, c9, h9⟩ := own_shape ho9
          subst h9
          have HGO := Lib.hid (HGO.out.grownT hg9 HA.out.recs (by decide))
          have HA := Lib.hid (HA.out.app_rec ho9 hg9)
          clear ho9 hg9
          simp only [Act.put, List.setIfInBounds_toArray, List.set_cons_succ, List.set_cons_zero]
          refine hK _ _ ⟨⟨(aqKeepG HSX.out HA.out.ext), fun _ => (And.intro (HA.out.log.cell 0) (HA.out.log.cell 1))⟩, ?_⟩
          clear hK K
          refine allL [15] (by kernel_rfl) (by simp) ?_
          simp only [List.forall_mem_cons, List.not_mem_nil, false_implies, implies_true, and_true]
          refine stepL rfl (by rfl) (fun K hK => ?_)
          go_simp
          obtain ⟨U15, hU⟩ : ∃ Z, Z = World.alloc W9 (.cells #[.int .i64 ((n : Int) + 1), .string cz, .string t] 86) := ⟨_, rfl⟩
          have hbo : Below W9.heap.size W9 U15 := by rw [hU]; exact ext_new _ _
          have HMB := Lib.hid (show Blk U15 W9.heap.size 86 #[.int .i64 ((n : Int) + 1), .string cz, .string t] by rw [hU]; exact Blk.new _ _ _)
          have HA := Lib.hid (HA.out.below hbo)
          have HGO := Lib.hid (HGO.out.ext hbo)
          rw [← hU]
          clear hU hbo
          generalize W9.heap.size = mb at HMB ⊢
          refine hK _ _ ⟨⟨(aqKeepG HSX.out HA.out.ext), fun _ => (And.intro (HA.out.log.cell 0) (HA.out.log.cell 1))⟩, ?_⟩
          clear hK K
          refine allL [16] (by kernel_rfl) (by simp) ?_
          simp only [List.forall_mem_cons, List.not_mem_nil, false_implies, implies_true, and_true]
          refine stepL rfl (by rfl) (fun K hK => ?_)
          refine wp_append_own _ (.tmp 45) (.tmp 47) 142 rfl B 86 ih (.agg #[.int .i64 0, .string ⟨#[]⟩, .string ⟨#[]⟩]) 3 40 Tryz.underlying142 hih hzh0 hzh1 hzh2 rfl (by decide) (.slice (some ⟨gh, 0, none⟩) (n + 1) ch) (n + 1) (hcF 0 H) (by rfl) HA.out.heads ⟨mb, 0, none⟩ 1 1 [.int .i64 ((n : Int) + 1), .string cz, .string t] (by rfl) rfl (news_blk HMB.out) (by simp [Value.oneCell']) (by unfold maxLen; omega) (by omega) (Nat.le_trans HBB.out HA.out.ext.size) ?_
          intro v16 W16 ho9 hg9 _
          obtain ⟨A16, c16, h9⟩ := own_shape ho9
          subst h9
          have HGO := Lib.hid (HGO.out.grownT hg9 HA.out.heads (by decide))
          have HA := Lib.hid (HA.out.app_head ho9 hg9)
          clear ho9 hg9
          simp only [Act.put, List.setIfInBounds_toArray, List.set_cons_succ, List.set_cons_zero]
          refine hK _ _ ⟨⟨(aqKeepG HSX.out HA.out.ext), fun _ => (And.intro (HA.out.log.cell 0) (HA.out.log.cell 1))⟩, ?_⟩
          clear hK K
          refine takeF 17 (v := ?_) rfl (by kernel_rfl) (by kernel_rfl) (by kernel_rfl) (by kernel_rfl) (fun _ _ _ h => h) (Or.inl ⟨by rfl, ?_⟩) (aqKeepG HSX.out HA.out.ext) (fun _ => (And.intro (HA.out.log.cell 0) (HA.out.log.cell 1))) ?_
          rotate_left 1
          · (rintro w' ⟨f0, f1, f2, f3, f4, _⟩; go_simp; with_reducible rfl)
          refine takeF 18 (v := ?_) rfl (by kernel_rfl) (by kernel_rfl) (by kernel_rfl) (by kernel_rfl) (fun _ _ _ h => h) (Or.inl ⟨by rfl, ?_⟩) (aqKeepG HSX.out HA.out.ext) (fun _ => (And.intro (HA.out.log.cell 0) (HA.out.log.cell 1))) ?_
          rotate_left 1
          · (rintro w' ⟨f0, f1, f2, f3, f4, _⟩; go_simp; with_reducible rfl)
          have p0 := HA.out.log.cell 0
          have pf0 := HA.out.log.frozen 0
          have pl := HA.out.log.lt
          refine allL [19] (by kernel_rfl) (by simp) ?_
          simp only [List.forall_mem_cons, List.not_mem_nil, false_implies, implies_true, and_true]
          refine stepL rfl (by rfl) (fun K hK => ?_)
          go_simp
          obtain ⟨U19, hU⟩ : ∃ Z, Z = World.setCell W16 ⟨gl, 0, none⟩ (.slice A9 (n + 1) c9) := ⟨_, rfl⟩
          rw [← hU]
          have HE19 := Lib.hid (show ExtS (ApX gl (.slice A n cr) (.slice (some ⟨gh, 0, none⟩) (n + 1) ch)) X U19 by rw [hU]; exact HA.out.ext.setG)
          have HL19 := Lib.hid (show Blk U19 gl 144 #[.slice A9 (n + 1) c9, .slice (some ⟨gh, 0, none⟩) (n + 1) ch] by rw [hU]; exact HA.out.log.set_ 0 _)
          have HR19 := Lib.hid (show World.ownsRow U19 B 46 2 _ _ _ by rw [hU]; exact own_setT HA.out.recs HA.out.log (by decide) _ _)
          have HH19 := Lib.hid (show World.ownsRow U19 B 86 3 _ _ _ by rw [hU]; exact own_setT HA.out.heads HA.out.log (by decide) _ _)
          have HC19 := Lib.hid (show ∀ x ∈ R, ChgB U19 x.2.1 x.1 from fun x hx => by rw [hU]; exact (HA.out.chg x hx).setT HA.out.log (by decide) _ _)
          have HGO := Lib.hid (show ChgB U19 go l by rw [hU]; exact HGO.out.setT HA.out.log (by decide) _ _)
          clear hU p0 pf0 pl HA
          refine hK _ _ ⟨⟨aqKeepG HSX.out HE19.out, fun h => absurd h (by decide)⟩, ?_⟩
          clear hK K
          refine takeF 20 (v := ?_) rfl (by kernel_rfl) (by kernel_rfl) (by kernel_rfl) (by kernel_rfl) (fun _ _ _ h => h) (Or.inl ⟨by rfl, ?_⟩) (aqKeepG HSX.out HE19.out) (fun h => absurd h (by decide)) ?_
          rotate_left 1
          · (rintro w' ⟨f0, f1, f2, f3, f4, _⟩; go_simp; with_reducible rfl)
          refine takeF 21 (v := ?_) rfl (by kernel_rfl) (by kernel_rfl) (by kernel_rfl) (by kernel_rfl) (fun _ _ _ h => h) (Or.inl ⟨by rfl, ?_⟩) (aqKeepG HSX.out HE19.out) (fun h => absurd h (by decide)) ?_
          rotate_left 1
          · (rintro w' ⟨f0, f1, f2, f3, f4, _⟩; go_simp; with_reducible rfl)
          have p0 := HL19.out.cell 1
          have pf0 := HL19.out.frozen 1
          have pl := HL19.out.lt
          refine allL [22] (by kernel_rfl) (by simp) ?_
          simp only [List.forall_mem_cons, List.not_mem_nil, false_implies, implies_true, and_true]
          refine stepL rfl (by rfl) (fun K hK => ?_)
          go_simp
          obtain ⟨U22, hU⟩ : ∃ Z, Z = World.setCell U19 ⟨gl, 1, none⟩ (.slice A16 (n + 1 + 1) c16) := ⟨_, rfl⟩
          rw [← hU]
          have HE22 := Lib.hid (show ExtS (ApX gl (.slice A n cr) (.slice (some ⟨gh, 0, none⟩) (n + 1) ch)) X U22 by rw [hU]; exact HE19.out.setG)
          have HL22 := Lib.hid (show Blk U22 gl 144 #[.slice A9 (n + 1) c9, .slice A16 (n + 1 + 1) c16] by rw [hU]; exact HL19.out.set_ 1 _)
          have HR22 := Lib.hid (show World.ownsRow U22 B 46 2 _ _ _ by rw [hU]; exact own_setT HR19.out HL19.out (by decide) _ _)
          have HH22 := Lib.hid (show World.ownsRow U22 B 86 3 _ _ _ by rw [hU]; exact own_setT HH19.out HL19.out (by decide) _ _)
          have HC22 := Lib.hid (show ∀ x ∈ R, ChgB U22 x.2.1 x.1 from fun x hx => by rw [hU]; exact (HC19.out x hx).setT HL19.out (by decide) _ _)
          have HGO := Lib.hid (show ChgB U22 go l by rw [hU]; exact HGO.out.setT HL19.out (by decide) _ _)
          clear hU p0 pf0 pl
          refine hK _ _ ⟨⟨aqKeepG HSX.out HE22.out, fun h => absurd h (by decide)⟩, ?_⟩
          clear hK K
          refine doneL (by kernel_rfl) ?_ _
          go_wp2
          go_ret
          refine ⟨rfl, _, _, go, d, cz, logG_app HNN.out HHL.out HGx.out HD.out HT.out HCZ.out HL22.out HR22.out HH22.out HC22.out HGO.out, ?_⟩
          exact (ExtS.of_ext (ext_call HE0.out HEx.out)).trans HE22.out
        · refine stepL rfl (by rfl) (fun K hK => ?_)
          go_simp
          obtain ⟨U15, hU⟩ : ∃ Z, Z = World.alloc U8 (.cells #[.int .i64 ((n : Int) + 1), .string cz, .string t] 86) := ⟨_, rfl⟩
          have hbo : Below U8.heap.size U8 U15 := by rw [hU]; exact ext_new _ _
          have HMB := Lib.hid (show Blk U15 U8.heap.size 86 #[.int .i64 ((n : Int) + 1), .string cz, .string t] by rw [hU]; exact Blk.new _ _ _)
          have HA := Lib.hid (HA.out.below hbo)
          have HBD := Lib.hid (ext_call HBD.out hbo)
          have HGO := Lib.hid (HGO.out.ext hbo)
          have HNB := Lib.hid (HNB.out.ext hbo)
          rw [← hU]
          clear hU hbo
          generalize U8.heap.size = mb at HMB ⊢
          refine hK _ _ ⟨⟨(aqKeepG HSX.out HA.out.ext), fun _ => (And.intro (HA.out.log.cell 0) (HA.out.log.cell 1))⟩, ?_⟩
          clear hK K
          refine allL [9] (by kernel_rfl) (by simp) ?_
          simp only [List.forall_mem_cons, List.not_mem_nil, false_implies, implies_true, and_true]
          refine stepL rfl (by rfl) (fun K hK => ?_)
          refine wp_append_own _ (.tmp 37) (.tmp 40) 53 rfl B 46 ir (.agg #[.int .i64 0, .slice none 0 0]) 2 32 Tryz.underlying53 hir hzr0 hzr1 hzr2 rfl (by decide) (.slice A n cr) n (rcF 0 R) (by rfl) HA.out.recs ⟨nb, 0, none⟩ 1 1 [.int .i64 ((n : Int) + 1), .slice (some ⟨go, 0, none⟩) l.length d] (by rfl) rfl (news_blk HNB.out) (by simp [Value.oneCell']) (by unfold maxLen; omega) (by omega) (Nat.le_trans HBB.out HA.out.ext.size) ?_
          intro v9 W9 ho9 hg9 _
          obtain ⟨A9, c9, h9⟩ := own_shape ho9
          subst h9
          have HGO := Lib.hid (HGO.out.grownT hg9 HA.out.recs (by decide))
          have HMB := Lib.hid (HMB.out.grownT hg9 HA.out.recs (by decide))
          have HA := Lib.hid (HA.out.app_rec ho9 hg9)
          clear ho9 hg9
          simp only [Act.put, List.setIfInBounds_toArray, List.set_cons_succ, List.set_cons_zero]
          refine hK _ _ ⟨⟨(aqKeepG HSX.out HA.out.ext), fun _ => (And.intro (HA.out.log.cell 0) (HA.out.log.cell 1))⟩, ?_⟩
          clear hK K
          refine allL [16] (by kernel_rfl) (by simp) ?_
          simp only [List.forall_mem_cons, List.not_mem_nil, false_implies, implies_true, and_true]
          refine stepL rfl (by rfl) (fun K hK => ?_)
          refine wp_append_own _ (.tmp 45) (.tmp 47) 142 rfl B 86 ih (.agg #[.int .i64 0, .string ⟨#[]⟩, .string ⟨#[]⟩]) 3 40 Tryz.underlying142 hih hzh0 hzh1 hzh2 rfl (by decide) (.slice (some ⟨gh, 0, none⟩) (n + 1) ch) (n + 1) (hcF 0 H) (by rfl) HA.out.heads ⟨mb, 0, none⟩ 1 1 [.int .i64 ((n : Int) + 1), .string cz, .string t] (by rfl) rfl (news_blk HMB.out) (by simp [Value.oneCell']) (by unfold maxLen; omega) (by omega) (Nat.le_trans HBB.out HA.out.ext.size) ?_
          intro v16 W16 ho9 hg9 _
          obtain ⟨A16, c16, h9⟩ := own_shape ho9
          subst h9
          have HGO := Lib.hid (HGO.out.grownT hg9 HA.out.heads (by decide))
          have HA := Lib.hid (HA.out.app_head ho9 hg9)
          clear ho9 hg9
          simp only [Act.put, List.setIfInBounds_toArray, List.set_cons_succ, List.set_cons_zero]
          refine hK _ _ ⟨⟨(aqKeepG HSX.out HA.out.ext), fun _ => (And.intro (HA.out.log.cell 0) (HA.out.log.cell 1))⟩, ?_⟩
          clear hK K
          refine takeF 17 (v := ?_) rfl (by kernel_rfl) (by kernel_rfl) (by kernel_rfl) (by kernel_rfl) (fun _ _ _ h => h) (Or.inl ⟨by rfl, ?_⟩) (aqKeepG HSX.out HA.out.ext) (fun _ => (And.intro (HA.out.log.cell 0) (HA.out.log.cell 1))) ?_
          rotate_left 1
          · (rintro w' ⟨f0, f1, f2, f3, f4, _⟩; go_simp; with_reducible rfl)
          refine takeF 18 (v := ?_) rfl (by kernel_rfl) (by kernel_rfl) (by kernel_rfl) (by kernel_rfl) (fun _ _ _ h => h) (Or.inl ⟨by rfl, ?_⟩) (aqKeepG HSX.out HA.out.ext) (fun _ => (And.intro (HA.out.log.cell 0) (HA.out.log.cell 1))) ?_
          rotate_left 1
          · (rintro w' ⟨f0, f1, f2, f3, f4, _⟩; go_simp; with_reducible rfl)
          have p0 := HA.out.log.cell 0
          have pf0 := HA.out.log.frozen 0
          have pl := HA.out.log.lt
          refine allL [19] (by kernel_rfl) (by simp) ?_
          simp only [List.forall_mem_cons, List.not_mem_nil, false_implies, implies_true, and_true]
          refine stepL rfl (by rfl) (fun K hK => ?_)
          go_simp
          obtain ⟨U19, hU⟩ : ∃ Z, Z = World.setCell W16 ⟨gl, 0, none⟩ (.slice A9 (n + 1) c9) := ⟨_, rfl⟩
          rw [← hU]
          have HE19 := Lib.hid (show ExtS (ApX gl (.slice A n cr) (.slice (some ⟨gh, 0, none⟩) (n + 1) ch)) X U19 by rw [hU]; exact HA.out.ext.setG)
          have HL19 := Lib.hid (show Blk U19 gl 144 #[.slice A9 (n + 1) c9, .slice (some ⟨gh, 0, none⟩) (n + 1) ch] by rw [hU]; exact HA.out.log.set_ 0 _)
          have HR19 := Lib.hid (show World.ownsRow U19 B 46 2 _ _ _ by rw [hU]; exact own_setT HA.out.recs HA.out.log (by decide) _ _)
          have HH19 := Lib.hid (show World.ownsRow U19 B 86 3 _ _ _ by rw [hU]; exact own_setT HA.out.heads HA.out.log (by decide) _ _)
          have HC19 := Lib.hid (show ∀ x ∈ R, ChgB U19 x.2.1 x.1 from fun x hx => by rw [hU]; exact (HA.out.chg x hx).setT HA.out.log (by decide) _ _)
          have HGO := Lib.hid (show ChgB U19 go l by rw [hU]; exact HGO.out.setT HA.out.log (by decide) _ _)
          clear hU p0 pf0 pl HA
          refine hK _ _ ⟨⟨aqKeepG HSX.out HE19.out, fun h => absurd h (by decide)⟩, ?_⟩
          clear hK K
          refine takeF 20 (v := ?_) rfl (by kernel_rfl) (by kernel_rfl) (by kernel_rfl) (by kernel_rfl) (fun _ _ _ h => h) (Or.inl ⟨by rfl, ?_⟩) (aqKeepG HSX.out HE19.out) (fun h => absurd h (by decide)) ?_
          rotate_left 1
          · (rintro w' ⟨f0, f1, f2, f3, f4, _⟩; go_simp; with_reducible rfl)
          refine takeF 21 (v := ?_) rfl (by kernel_rfl) (by kernel_rfl) (by kernel_rfl) (by kernel_rfl) (fun _ _ _ h => h) (Or.inl ⟨by rfl, ?_⟩) (aqKeepG HSX.out HE19.out) (fun h => absurd h (by decide)) ?_
          rotate_left 1
          · (rintro w' ⟨f0, f1, f2, f3, f4, _⟩; go_simp; with_reducible rfl)
          have p0 := HL19.out.cell 1
          have pf0 := HL19.out.frozen 1
          have pl := HL19.out.lt
          refine allL [22] (by kernel_rfl) (by simp) ?_
          simp only [List.forall_mem_cons, List.not_mem_nil, false_implies, implies_true, and_true]
          refine stepL rfl (by rfl) (fun K hK => ?_)
          go_simp
          obtain ⟨U22, hU⟩ : ∃ Z, Z = World.setCell U19 ⟨gl, 1, none⟩ (.slice A16 (n + 1 + 1) c16) := ⟨_, rfl⟩
          rw [← hU]
          have HE22 := Lib.hid (show ExtS (ApX gl (.slice A n cr) (.slice (some ⟨gh, 0, none⟩) (n + 1) ch)) X U22 by rw [hU]; exact HE19.out.setG)
          have HL22 := Lib.hid (show Blk U22 gl 144 #[.slice A9 (n + 1) c9, .slice A16 (n + 1 + 1) c16] by rw [hU]; exact HL19.out.set_ 1 _)
          have HR22 := Lib.hid (show World.ownsRow U22 B 46 2 _ _ _ by rw [hU]; exact own_setT HR19.out HL19.out (by decide) _ _)
          have HH22 := Lib.hid (show World.ownsRow U22 B 86 3 _ _ _ by rw [hU]; exact own_setT HH19.out HL19.out (by decide) _ _)
          have HC22 := Lib.hid (show ∀ x ∈ R, ChgB U22 x.2.1 x.1 from fun x hx => by rw [hU]; exact (HC19.out x hx).setT HL19.out (by decide) _ _)
          have HGO := Lib.hid (show ChgB U22 go l by rw [hU]; exact HGO.out.setT HL19.out (by decide) _ _)
          clear hU p0 pf0 pl
          refine hK _ _ ⟨⟨aqKeepG HSX.out HE22.out, fun h => absurd h (by decide)⟩, ?_⟩
          clear hK K
          refine doneL (by kernel_rfl) ?_ _
          go_wp2
          go_ret
          refine ⟨rfl, _, _, go, d, cz, logG_app HNN.out HHL.out HGx.out HD.out HT.out HCZ.out HL22.out HR22.out HH22.out HC22.out HGO.out, ?_⟩
          exact (ExtS.of_ext (ext_call HE0.out HEx.out)).trans HE22.out
      · refine stepL rfl (by rfl) (fun K hK => ?_)
        go_simp
        obtain ⟨U15, hU⟩ : ∃ Z, Z = World.alloc V7 (.cells #[.int .i64 ((n : Int) + 1), .string cz, .string t] 86) := ⟨_, rfl⟩
        have hbo : Below V7.heap.size V7 U15 := by rw [hU]; exact ext_new _ _
        have HMB := Lib.hid (show Blk U15 V7.heap.size 86 #[.int .i64 ((n : Int) + 1), .string cz, .string t] by rw [hU]; exact Blk.new _ _ _)
        have HA := Lib.hid (HA.out.below hbo)
        have HBD := Lib.hid (ext_call HBD.out hbo)
        have HGO := Lib.hid (HGO.out.ext hbo)
        rw [← hU]
        clear hU hbo
        generalize V7.heap.size = mb at HMB ⊢
        refine hK _ _ ⟨⟨(aqKeepG HSX.out HA.out.ext), fun _ => (And.intro (HA.out.log.cell 0) (HA.out.log.cell 1))⟩, ?_⟩
        clear hK K
        refine allL [8] (by kernel_rfl) (by simp) ?_
        simp only [List.forall_mem_cons, List.not_mem_nil, false_implies, implies_true, and_true]
        refine stepL rfl (by rfl) (fun K hK => ?_)
        go_simp
        obtain ⟨U8, hU⟩ : ∃ Z, Z = World.alloc U15 (.cells #[.int .i64 ((n : Int) + 1), .slice (some ⟨go, 0, none⟩) l.length d] 46) := ⟨_, rfl⟩
        have hbo : Below U15.heap.size U15 U8 := by rw [hU]; exact ext_new _ _
        have HNB := Lib.hid (show Blk U8 U15.heap.size 46 #[.int .i64 ((n : Int) + 1), .slice (some ⟨go, 0, none⟩) l.length d] by rw [hU]; exact Blk.new _ _ _)
        have HA := Lib.hid (HA.out.below hbo)
        have HBD := Lib.hid (ext_call HBD.out hbo)
        have HGO := Lib.hid (HGO.out.ext hbo)
        have HMB := Lib.hid (HMB.out.ext hbo)
        rw [← hU]
        clear hU hbo
        generalize U15.heap.size = nb at HNB ⊢
        refine hK _ _ ⟨⟨(aqKeepG HSX.out HA.out.ext), fun _ => (And.intro (HA.out.log.cell 0) (HA.out.log.cell 1))⟩, ?_⟩
        clear hK K
        refine allL [9] (by kernel_rfl) (by simp) ?_
        simp only [List.forall_mem_cons, List.not_mem_nil, false_implies, implies_true, and_true]
        refine stepL rfl (by rfl) (fun K hK => ?_)
        refine wp_append_own _ (.tmp 37) (.tmp 40) 53 rfl B 46 ir (.agg #[.int .i64 0, .slice none 0 0]) 2 32 Tryz.underlying53 hir hzr0 hzr1 hzr2 rfl (by decide) (.slice A n cr) n (rcF 0 R) (by rfl) HA.out.recs ⟨nb, 0, none⟩ 1 1 [.int .i64 ((n : Int) + 1), .slice (some ⟨go, 0, none⟩) l.length d] (by rfl) rfl (news_blk HNB.out) (by simp [Value.oneCell']) (by unfold maxLen; omega) (by omega) (Nat.le_trans HBB.out HA.out.ext.size) ?_
        intro v9 W9 ho9 hg9 _
        obtain ⟨A9, c9, h9⟩ := own_shape ho9
        subst h9
        have HGO := Lib.hid (HGO.out.grownT hg9 HA.out.recs (by decide))
        have HMB := Lib.hid (HMB.out.grownT hg9 HA.out.recs (by decide))
        have HA := Lib.hid (HA.out.app_rec ho9 hg9)
        clear ho9 hg9
        simp only [Act.put, List.setIfInBounds_toArray, List.set_cons_succ, List.set_cons_zero]
        refine hK _ _ ⟨⟨(aqKeepG HSX.out HA.out.ext), fun _ => (And.intro (HA.out.log.cell 0) (HA.out.log.cell 1))⟩, ?_⟩
        clear hK K
        refine allL [16] (by kernel_rfl) (by simp) ?_
        simp only [List.forall_mem_cons, List.not_mem_nil, false_implies, implies_true, and_true]
        refine stepL rfl (by rfl) (fun K hK => ?_)
        refine wp_append_own _ (.tmp 45) (.tmp 47) 142 rfl B 86 ih (.agg #[.int .i64 0, .string ⟨#[]⟩, .string ⟨#[]⟩]) 3 40 Tryz.underlying142 hih hzh0 hzh1 hzh2 rfl (by decide) (.slice (some ⟨gh, 0, none⟩) (n + 1) ch) (n + 1) (hcF 0 H) (by rfl) HA.out.heads ⟨mb, 0, none⟩ 1 1 [.int .i64 ((n : Int) + 1), .string cz, .string t] (by rfl) rfl (news_blk HMB.out) (by simp [Value.oneCell']) (by unfold maxLen; omega) (by omega) (Nat.le_trans HBB.out HA.out.ext.size) ?_
        intro v16 W16 ho9 hg9 _
        obtain ⟨A16, c16, h9⟩ := own_shape ho9
        subst h9
        have HGO := Lib.hid (HGO.out.grownT hg9 HA.out.heads (by decide))
        have HA := Lib.hid (HA.out.app_head ho9 hg9)
        clear ho9 hg9
        simp only [Act.put, List.setIfInBounds_toArray, List.set_cons_succ, List.set_cons_zero]
        refine hK _ _ ⟨⟨(aqKeepG HSX.out HA.out.ext), fun _ => (And.intro (HA.out.log.cell 0) (HA.out.log.cell 1))⟩, ?_⟩
        clear hK K
        refine takeF 17 (v := ?_) rfl (by kernel_rfl) (by kernel_rfl) (by kernel_rfl) (by kernel_rfl) (fun _ _ _ h => h) (Or.inl ⟨by rfl, ?_⟩) (aqKeepG HSX.out HA.out.ext) (fun _ => (And.intro (HA.out.log.cell 0) (HA.out.log.cell 1))) ?_
        rotate_left 1
        · (rintro w' ⟨f0, f1, f2, f3, f4, _⟩; go_simp; with_reducible rfl)
        refine takeF 18 (v := ?_) rfl (by kernel_rfl) (by kernel_rfl) (by kernel_rfl) (by kernel_rfl) (fun _ _ _ h => h) (Or.inl ⟨by rfl, ?_⟩) (aqKeepG HSX.out HA.out.ext) (fun _ => (And.intro (HA.out.log.cell 0) (HA.out.log.cell 1))) ?_
        rotate_left 1
        · (rintro w' ⟨f0, f1, f2, f3, f4, _⟩; go_simp; with_reducible rfl)
        have p0 := HA.out.log.cell 0
        have pf0 := HA.out.log.frozen 0
        have pl := HA.out.log.lt
        refine allL [19] (by kernel_rfl) (by simp) ?_
        simp only [List.forall_mem_cons, List.not_mem_nil, false_implies, implies_true, and_true]
        refine stepL rfl (by rfl) (fun K hK => ?_)
        go_simp
        obtain ⟨U19, hU⟩ : ∃ Z, Z = World.setCell W16 ⟨gl, 0, none⟩ (.slice A9 (n + 1) c9) := ⟨_, rfl⟩
        rw [← hU]
        have HE19 := Lib.hid (show ExtS (ApX gl (.slice A n cr) (.slice (some ⟨gh, 0, none⟩) (n + 1) ch)) X U19 by rw [hU]; exact HA.out.ext.setG)
        have HL19 := Lib.hid (show Blk U19 gl 144 #[.slice A9 (n + 1) c9, .slice (some ⟨gh, 0, none⟩) (n + 1) ch] by rw [hU]; exact HA.out.log.set_ 0 _)
        have HR19 := Lib.hid (show World.ownsRow U19 B 46 2 _ _ _ by rw [hU]; exact own_setT HA.out.recs HA.out.log (by decide) _ _)
        have HH19 := Lib.hid (show World.ownsRow U19 B 86 3 _ _ _ by rw [hU]; exact own_setT HA.out.heads HA.out.log (by decide) _ _)
        have HC19 := Lib.hid (show ∀ x ∈ R, ChgB U19 x.2.1 x.1 from fun x hx => by rw [hU]; exact (HA.out.chg x hx).setT HA.out.log (by decide) _ _)
        have HGO := Lib.hid (show ChgB U19 go l by rw [hU]; exact HGO.out.setT HA.out.log (by decide) _ _)
        clear hU p0 pf0 pl HA
        refine hK _ _ ⟨⟨aqKeepG HSX.out HE19.out, fun h => absurd h (by decide)⟩, ?_⟩
        clear hK K
        refine takeF 20 (v := ?_) rfl (by kernel_rfl) (by kernel_rfl) (by kernel_rfl) (by kernel_rfl) (fun _ _ _ h => h) (Or.inl ⟨by rfl, ?_⟩) (aqKeepG HSX.out HE19.out) (fun h => absurd h (by decide)) ?_
        rotate_left 1
        · (rintro w' ⟨f0, f1, f2, f3, f4, _⟩; go_simp; with_reducible rfl)
        refine takeF 21 (v := ?_) rfl (by kernel_rfl) (by kernel_rfl) (by kernel_rfl) (by kernel_rfl) (fun _ _ _ h => h) (Or.inl ⟨by rfl, ?_⟩) (aqKeepG HSX.out HE19.out) (fun h => absurd h (by decide)) ?_
        rotate_left 1
        · (rintro w' ⟨f0, f1, f2, f3, f4, _⟩; go_simp; with_reducible rfl)
        have p0 := HL19.out.cell 1
        have pf0 := HL19.out.frozen 1
        have pl := HL19.out.lt
        refine allL [22] (by kernel_rfl) (by simp) ?_
        simp only [List.forall_mem_cons, List.not_mem_nil, false_implies, implies_true, and_true]
        refine stepL rfl (by rfl) (fun K hK => ?_)
        go_simp
        obtain ⟨U22, hU⟩ : ∃ Z, Z = World.setCell U19 ⟨gl, 1, none⟩ (.slice A16 (n + 1 + 1) c16) := ⟨_, rfl⟩
        rw [← hU]
        have HE22 := Lib.hid (show ExtS (ApX gl (.slice A n cr) (.slice (some ⟨gh, 0, none⟩) (n + 1) ch)) X U22 by rw [hU]; exact HE19.out.setG)
        have HL22 := Lib.hid (show Blk U22 gl 144 #[.slice A9 (n + 1) c9, .slice A16 (n + 1 + 1) c16] by rw [hU]; exact HL19.out.set_ 1 _)
        have HR22 := Lib.hid (show World.ownsRow U22 B 46 2 _ _ _ by rw [hU]; exact own_setT HR19.out HL19.out (by decide) _ _)
        have HH22 := Lib.hid (show World.ownsRow U22 B 86 3 _ _ _ by rw [hU]; exact own_setT HH19.out HL19.out (by decide) _ _)
        have HC22 := Lib.hid (show ∀ x ∈ R, ChgB U22 x.2.1 x.1 from fun x hx => by rw [hU]; exact (HC19.out x hx).setT HL19.out (by decide) _ _)
        have HGO := Lib.hid (show ChgB U22 go l by rw [hU]; exact HGO.out.setT HL19.out (by decide) _ _)
        clear hU p0 pf0 pl
        refine hK _ _ ⟨⟨aqKeepG HSX.out HE22.out, fun h => absurd h (by decide)⟩, ?_⟩
        clear hK K
        refine doneL (by kernel_rfl) ?_ _
        go_wp2
        go_ret
        refine ⟨rfl, _, _, go, d, cz, logG_app HNN.out HHL.out HGx.out HD.out HT.out HCZ.out HL22.out HR22.out HH22.out HC22.out HGO.out, ?_⟩
        exact (ExtS.of_ext (ext_call HE0.out HEx.out)).trans HE22.out
    · refine stepL rfl (by rfl) (fun K hK => ?_)
      go_simp
      obtain ⟨U15, hU⟩ : ∃ Z, Z = World.alloc U0 (.cells #[.int .i64 ((n : Int) + 1), .string cz, .string t] 86) := ⟨_, rfl⟩
      have hbo : Below U0.heap.size U0 U15 := by rw [hU]; exact ext_new _ _
      have HMB := Lib.hid (show Blk U15 U0.heap.size 86 #[.int .i64 ((n : Int) + 1), .string cz, .string t] by rw [hU]; exact Blk.new _ _ _)
      have HA := Lib.hid (HA.out.below hbo)
      have HBD := Lib.hid (ext_call HBD.out hbo)
      rw [← hU]
      clear hU hbo
      generalize U0.heap.size = mb at HMB ⊢
      refine hK _ _ ⟨⟨(aqKeepG HSX.out HA.out.ext), fun _ => (And.intro (HA.out.log.cell 0) (HA.out.log.cell 1))⟩, ?_⟩
      clear hK K
      refine allL [7] (by kernel_rfl) (by simp) ?_
      simp only [List.forall_mem_cons, List.not_mem_nil, false_implies, implies_true, and_true]
      refine stepL rfl (by rfl) (fun K hK => ?_)
      go_simp
      go_at_call 76
      refine (HOw.out _ (HVX.out.ext HBD.out)).mono ?_
      rintro e V7 ⟨go, d, rfl, -, hd, hch, hbo⟩
      have HA := Lib.hid (HA.out.below hbo)
      have HGO := Lib.hid hch
      have HD := Lib.hid hd
      have HBD := Lib.hid (ext_call HBD.out hbo)
      have HMB := Lib.hid (HMB.out.ext hbo)
      clear hbo hch hd
      refine hK _ _ ⟨⟨(aqKeepG HSX.out HA.out.ext), fun _ => (And.intro (HA.out.log.cell 0) (HA.out.log.cell 1))⟩, ?_⟩
      clear hK K
      refine allL [8] (by kernel_rfl) (by simp) ?_
      simp only [List.forall_mem_cons, List.not_mem_nil, false_implies, implies_true, and_true]
      refine stepL rfl (by rfl) (fun K hK => ?_)
      go_simp
      obtain ⟨U8, hU⟩ : ∃ Z, Z = World.alloc V7 (.cells #[.int .i64 ((n : Int) + 1), .slice (some ⟨go, 0, none⟩) l.length d] 46) := ⟨_, rfl⟩
      have hbo : Below V7.heap.size V7 U8 := by rw [hU]; exact ext_new _ _
      have HNB := Lib.hid (show Blk U8 V7.heap.size 46 #[.int .i64 ((n : Int) + 1), .slice (some ⟨go, 0, none⟩) l.length d] by rw [hU]; exact Blk.new _ _ _)
      have HA := Lib.hid (HA.out.below hbo)
      have HBD := Lib.hid (ext_call HBD.out hbo)
      have HGO := Lib.hid (HGO.out.ext hbo)
      have HMB := Lib.hid (HMB.out.ext hbo)
      rw [← hU]
      clear hU hbo
      generalize V7.heap.size = nb at HNB ⊢
      refine hK _ _ ⟨⟨(aqKeepG HSX.out HA.out.ext), fun _ => (And.intro (HA.out.log.cell 0) (HA.out.log.cell 1))⟩, ?_⟩
      clear hK K
      refine allL [9] (by kernel_rfl) (by simp) ?_
      simp only [List.forall_mem_cons, List.not_mem_nil, false_implies, implies_true, and_true]
      refine stepL rfl (by rfl) (fun K hK => ?_)
      refine wp_append_own _ (.tmp 37) (.tmp 40) 53 rfl B 46 ir (.agg #[.int .i64 0, .slice none 0 0]) 2 32 Tryz.underlying53 hir hzr0 hzr1 hzr2 rfl (by decide) (.slice A n cr) n (rcF 0 R) (by rfl) HA.out.recs ⟨nb, 0, none⟩ 1 1 [.int .i64 ((n : Int) + 1), .slice (some ⟨go, 0, none⟩) l.length d] (by rfl) rfl (news_blk HNB.out) (by simp [Value.oneCell']) (by unfold maxLen; omega) (by omega) (Nat.le_trans HBB.out HA.out.ext.size) ?_
      intro v9 W9 ho9 hg9 _
      obtain ⟨A9, c9, h9⟩ := own_shape ho9
      subst h9
      have HGO := Lib.hid (HGO.out.grownT hg9 HA.out.recs (by decide))
      have HMB := Lib.hid (HMB.out.grownT hg9 HA.out.recs (by decide))
      have HA := Lib.hid (HA.out.app_rec ho9 hg9)
      clear ho9 hg9
      simp only [Act.put, List.setIfInBounds_toArray, List.set_cons_succ, List.set_cons_zero]
      refine hK _ _ ⟨⟨(aqKeepG HSX.out HA.out.ext), fun _ => (And.intro (HA.out.log.cell 0) (HA.out.log.cell 1))⟩, ?_⟩
      clear hK K
      refine allL [16] (by kernel_rfl) (by simp) ?_
      simp only [List.forall_mem_cons, List.not_mem_nil, false_implies, implies_true, and_true]
      refine stepL rfl (by rfl) (fun K hK => ?_)
      refine wp_append_own _ (.tmp 45) (.tmp 47) 142 rfl B 86 ih (.agg #[.int .i64 0, .string ⟨#[]⟩, .string ⟨#[]⟩]) 3 40 Tryz.underlying142 hih hzh0 hzh1 hzh2 rfl (by decide) (.slice (some ⟨gh, 0, none⟩) (n + 1) ch) (n + 1) (hcF 0 H) (by rfl) HA.out.heads ⟨mb, 0, none⟩ 1 1 [.int .i64 ((n : Int) + 1), .string cz, .string t] (by rfl) rfl (news_blk HMB.out) (by simp [Value.oneCell']) (by unfold maxLen; omega) (by omega) (Nat.le_trans HBB.out HA.out.ext.size) ?_
      intro v16 W16 ho9 hg9 _
      obtain ⟨A16, c16, h9⟩ := own_shape ho9
      subst h9
      have HGO := Lib.hid (HGO.out.grownT hg9 HA.out.heads (by decide))
      have HA := Lib.hid (HA.out.app_head ho9 hg9)
      clear ho9 hg9
      simp only [Act.put, List.setIfInBounds_toArray, List.set_cons_succ, List.set_cons_zero]
      refine hK _ _ ⟨⟨(aqKeepG HSX.out HA.out.ext), fun _ => (And.intro (HA.out.log.cell 0) (HA.out.log.cell 1))⟩, ?_⟩
      clear hK K
      refine takeF 17 (v := ?_) rfl (by kernel_rfl) (by kernel_rfl) (by kernel_rfl) (by kernel_rfl) (fun _ _ _ h => h) (Or.inl ⟨by rfl, ?_⟩) (aqKeepG HSX.out HA.out.ext) (fun _ => (And.intro (HA.out.log.cell 0) (HA.out.log.cell 1))) ?_
      rotate_left 1
      · (rintro w' ⟨f0, f1, f2, f3, f4, _⟩; go_simp; with_reducible rfl)
      refine takeF 18 (v := ?_) rfl (by kernel_rfl) (by kernel_rfl) (by kernel_rfl) (by kernel_rfl) (fun _ _ _ h => h) (Or.inl ⟨by rfl, ?_⟩) (aqKeepG HSX.out HA.out.ext) (fun _ => (And.intro (HA.out.log.cell 0) (HA.out.log.cell 1))) ?_
      rotate_left 1
      · (rintro w' ⟨f0, f1, f2, f3, f4, _⟩; go_simp; with_reducible rfl)
      have p0 := HA.out.log.cell 0
      have pf0 := HA.out.log.frozen 0
      have pl := HA.out.log.lt
      refine allL [19] (by kernel_rfl) (by simp) ?_
      simp only [List.forall_mem_cons, List.not_mem_nil, false_implies, implies_true, and_true]
      refine stepL rfl (by rfl) (fun K hK => ?_)
      go_simp
      obtain ⟨U19, hU⟩ : ∃ Z, Z = World.setCell W16 ⟨gl, 0, none⟩ (.slice A9 (n + 1) c9) := ⟨_, rfl⟩
      rw [← hU]
      have HE19 := Lib.hid (show ExtS (ApX gl (.slice A n cr) (.slice (some ⟨gh, 0, none⟩) (n + 1) ch)) X U19 by rw [hU]; exact HA.out.ext.setG)
      have HL19 := Lib.hid (show Blk U19 gl 144 #[.slice A9 (n + 1) c9, .slice (some ⟨gh, 0, none⟩) (n + 1) ch] by rw [hU]; exact HA.out.log.set_ 0 _)
      have HR19 := Lib.hid (show World.ownsRow U19 B 46 2 _ _ _ by rw [hU]; exact own_setT HA.out.recs HA.out.log (by decide) _ _)
      have HH19 := Lib.hid (show World.ownsRow U19 B 86 3 _ _ _ by rw [hU]; exact own_setT HA.out.heads HA.out.log (by decide) _ _)
      have HC19 := Lib.hid (show ∀ x ∈ R, ChgB U19 x.2.1 x.1 from fun x hx => by rw [hU]; exact (HA.out.chg x hx).setT HA.out.log (by decide) _ _)
      have HGO := Lib.hid (show ChgB U19 go l by rw [hU]; exact HGO.out.setT HA.out.log (by decide) _ _)
      clear hU p0 pf0 pl HA
      refine hK _ _ ⟨⟨aqKeepG HSX.out HE19.out, fun h => absurd h (by decide)⟩, ?_⟩
      clear hK K
      refine takeF 20 (v := ?_) rfl (by kernel_rfl) (by kernel_rfl) (by kernel_rfl) (by kernel_rfl) (fun _ _ _ h => h) (Or.inl ⟨by rfl, ?_⟩) (aqKeepG HSX.out HE19.out) (fun h => absurd h (by decide)) ?_
      rotate_left 1
      · (rintro w' ⟨f0, f1, f2, f3, f4, _⟩; go_simp; with_reducible rfl)
      refine takeF 21 (v := ?_) rfl (by kernel_rfl) (by kernel_rfl) (by kernel_rfl) (by kernel_rfl) (fun _ _ _ h => h) (Or.inl ⟨by rfl, ?_⟩) (aqKeepG HSX.out HE19.out) (fun h => absurd h (by decide)) ?_
      rotate_left 1
      · (rintro w' ⟨f0, f1, f2, f3, f4, _⟩; go_simp; with_reducible rfl)
      have p0 := HL19.out.cell 1
      have pf0 := HL19.out.frozen 1
      have pl := HL19.out.lt
      refine allL [22] (by kernel_rfl) (by simp) ?_
      simp only [List.forall_mem_cons, List.not_mem_nil, false_implies, implies_true, and_true]
      refine stepL rfl (by rfl) (fun K hK => ?_)
      go_simp
      obtain ⟨U22, hU⟩ : ∃ Z, Z = World.setCell U19 ⟨gl, 1, none⟩ (.slice A16 (n + 1 + 1) c16) := ⟨_, rfl⟩
      rw [← hU]
      have HE22 := Lib.hid (show ExtS (ApX gl (.slice A n cr) (.slice (some ⟨gh, 0, none⟩) (n + 1) ch)) X U22 by rw [hU]; exact HE19.out.setG)
      have HL22 := Lib.hid (show Blk U22 gl 144 #[.slice A9 (n + 1) c9, .slice A16 (n + 1 + 1) c16] by rw [hU]; exact HL19.out.set_ 1 _)
      have HR22 := Lib.hid (show World.ownsRow U22 B 46 2 _ _ _ by rw [hU]; exact own_setT HR19.out HL19.out (by decide) _ _)
      have HH22 := Lib.hid (show World.ownsRow U22 B 86 3 _ _ _ by rw [hU]; exact own_setT HH19.out HL19.out (by decide) _ _)
      have HC22 := Lib.hid (show ∀ x ∈ R, ChgB U22 x.2.1 x.1 from fun x hx => by rw [hU]; exact (HC19.out x hx).setT HL19.out (by decide) _ _)
      have HGO := Lib.hid (show ChgB U22 go l by rw [hU]; exact HGO.out.setT HL19.out (by decide) _ _)
      clear hU p0 pf0 pl
      refine hK _ _ ⟨⟨aqKeepG HSX.out HE22.out, fun h => absurd h (by decide)⟩, ?_⟩
      clear hK K
      refine doneL (by kernel_rfl) ?_ _
      go_wp2
      go_ret
      refine ⟨rfl, _, _, go, d, cz, logG_app HNN.out HHL.out HGx.out HD.out HT.out HCZ.out HL22.out HR22.out HH22.out HC22.out HGO.out, ?_⟩
      exact (ExtS.of_ext (ext_call HE0.out HEx.out)).trans HE22.out

end Go.Proofs.YtbgfmbmcabekeaaGreatDoor

/-
  The rows of a state stay few: their keys are apart, and small.
-/
namespace Go.Proofs.YtbgfmbmcabekeaaGreatDoor
open Go.RowKit

theorem nodup_lt : ∀ (n : Nat) (l : List Nat), l.Nodup → (∀ x ∈ l, x < n) → l.length ≤ n
  | 0, l, _, h => by
    cases l with
    | nil => simp
    | cons a r => exact absurd (h a (by simp)) (by omega)
  | n + 1, l, hn, h => by
    by_cases hm : n ∈ l
    · have h1 := nodup_lt n (l.erase n) (hn.erase n) (fun x hx => by
        have h2 := (hn.mem_erase_iff).1 hx
        have h3 := h x h2.2
        have h4 := h2.1
        omega)
      rw [List.length_erase_of_mem hm] at h1
      omega
    · have h1 := nodup_lt n l hn (fun x hx => by
        have h3 := h x hx
        have h4 : x ≠ n := fun e => hm (e ▸ hx)
        omega)
      omega

/-- a key of the generator's -/
def keyN (t k : Int) : Nat := (9 * t + (k - 1)).toNat
def tinyK (t k : Int) : Prop := (0 ≤ t ∧ t ≤ 2) ∧ (1 ≤ k ∧ k ≤ 9)
theorem keyN_lt {t k : Int} (h : tinyK t k) : keyN t k < 27 := by unfold keyN; obtain ⟨⟨h1, h2⟩, h3, h4⟩ := h; omega
theorem keyN_inj {t k t' k' : Int} (h : tinyK t k) (h' : tinyK t' k') (e : keyN t k = keyN t' k') : t = t' ∧ k = k' := by
  unfold keyN at e; obtain ⟨⟨h1, h2⟩, h3, h4⟩ := h; obtain ⟨⟨h5, h6⟩, h7, h8⟩ := h'; omega
/-- the rows of a state -/
structure StOK (rs : List RowT) : Prop where
  sm : ∀ r ∈ rs, r.sm
  tiny : ∀ r ∈ rs, tinyK r.t r.k
  apart : (rs.map fun r => keyN r.t r.k).Nodup
theorem StOK.nil : StOK [] := ⟨by simp, by simp, by simp⟩
theorem StOK.few {rs : List RowT} (h : StOK rs) : rs.length ≤ 27 := by
  have := nodup_lt 27 _ h.apart (fun x hx => by
    obtain ⟨r, hr, rfl⟩ := List.mem_map.1 hx
    exact keyN_lt (h.tiny r hr))
  simpa using this
theorem StOK.del {rs : List RowT} (h : StOK rs) (t k : Int) : StOK (delR rs t k) := by
  unfold delR
  split
  · rename_i i _
    have hs := List.eraseIdx_sublist rs i
    exact ⟨fun r hr => h.sm r (hs.subset hr), fun r hr => h.tiny r (hs.subset hr), h.apart.sublist (hs.map _)⟩
  · exact h
theorem StOK.put {rs : List RowT} (h : StOK rs) (r : RowT) (h1 : r.sm) (h2 : tinyK r.t r.k) : StOK (putR rs r) := by
  unfold putR
  split
  · rename_i i hi
    rw [List.findIdx?_eq_some_iff_getElem] at hi
    obtain ⟨hlt, his, _⟩ := hi
    simp only [RowT.is, Bool.and_eq_true, decide_eq_true_eq] at his
    refine ⟨fun x hx => ?_, fun x hx => ?_, ?_⟩
    · rcases List.mem_or_eq_of_mem_set hx with hx | rfl
      · exact h.sm x hx
      · exact h1
    · rcases List.mem_or_eq_of_mem_set hx with hx | rfl
      · exact h.tiny x hx
      · exact h2
    · rw [List.map_set]
      have e : (rs.map fun r => keyN r.t r.k).set i (keyN r.t r.k) = rs.map fun r => keyN r.t r.k := by
        apply List.ext_getElem?
        intro j
        rw [List.getElem?_set]
        by_cases hij : i = j
        · subst hij
          rw [if_pos rfl]
          simp [hlt, his.1, his.2]
        · rw [if_neg hij]
      rw [e]
      exact h.apart
  · rename_i hn
    rw [List.findIdx?_eq_none_iff] at hn
    refine ⟨fun x hx => ?_, fun x hx => ?_, ?_⟩
    · rcases List.mem_append.1 hx with hx | hx
      · exact h.sm x hx
      · simp at hx; rw [hx]; exact h1
    · rcases List.mem_append.1 hx with hx | hx
      · exact h.tiny x hx
      · simp at hx; rw [hx]; exact h2
    · rw [List.map_append, List.nodup_append]
      refine ⟨h.apart, by simp, fun a ha b hb => ?_⟩
      obtain ⟨x, hx, rfl⟩ := List.mem_map.1 ha
      simp only [List.map_cons, List.map_nil, List.mem_singleton] at hb
      subst hb
      intro e
      have h3 := keyN_inj (h.tiny x hx) h2 e
      have h4 := hn x hx
      simp [RowT.is, h3.1, h3.2] at h4
/-- a change of the generator's -/
structure ChgG (c : ChgT) : Prop where
  ok : c.ok
  small : c.small
  tiny : tinyK c.t c.k
theorem ChgG.row {c : ChgT} (h : ChgG c) : RowT.sm ⟨c.t, c.k, c.n1, c.n2, c.n3⟩ := by
  have h1 := h.ok
  have h2 := h.small
  have h3 := h.tiny
  unfold ChgT.small at h2
  simp only [List.mem_cons, List.not_mem_nil, or_false, forall_eq_or_imp, forall_eq] at h2
  refine ⟨⟨h1.1.1, h1.1.2, h1.2.2.2.2.1, h1.2.2.2.2.2.1, h1.2.2.2.2.2.2⟩, h2.1.2, h2.2.1.2, ?_⟩
  simp only [List.mem_cons, List.not_mem_nil, or_false, forall_eq_or_imp, forall_eq]
  exact ⟨h2.2.2.2.2.2.1, h2.2.2.2.2.2.2.1, h2.2.2.2.2.2.2.2⟩
theorem StOK.apply {l : List ChgT} : ∀ {rs : List RowT}, StOK rs → (∀ c ∈ l, ChgG c) → StOK (applyF rs l) := by
  induction l with
  | nil => intro rs h _; exact h
  | cons c l ih =>
    intro rs h hc
    have h1 : StOK (applyC rs c) := by
      have h2 := hc c (by simp)
      unfold applyC
      split
      · exact h.put _ h2.row h2.tiny
      · exact h.del _ _
    exact ih h1 (fun d hd => hc d (by simp [hd]))
theorem getR_mem {rs : List RowT} {t k : Int} {r : RowT} (h : getR rs t k = some r) : r ∈ rs := List.mem_of_find?_eq_some h
/-- what is filled in is small, too -/
theorem ChgG.fill {rs : List RowT} (h : StOK rs) {c : ChgT} (hc : ChgG c) : ChgG (fillC rs c) := by
  have h1 := hc.ok
  have h2 := hc.small
  unfold ChgT.small at h2
  simp only [List.mem_cons, List.not_mem_nil, or_false, forall_eq_or_imp, forall_eq] at h2
  cases hg : getR rs c.t c.k with
  | none =>
    refine ⟨?_, ?_, hc.tiny⟩
    · simp only [fillC, hg, ChgT.ok, Option.isSome_none, Option.getD_none, zeroR]
      exact ⟨h1.1, fun _ => ⟨trivial, trivial, trivial⟩, h1.2.2.1, by omega, h1.2.2.2.2⟩
    · simp only [fillC, hg, ChgT.small, Option.getD_none, zeroR, List.mem_cons, List.not_mem_nil, or_false, forall_eq_or_imp, forall_eq]
      exact ⟨h2.1, h2.2.1, by omega, by omega, by omega, h2.2.2.2.2.2⟩
  | some r =>
    have hr := h.sm r (getR_mem hg)
    obtain ⟨⟨_, _, q1, q2, q3⟩, _, _, q4⟩ := hr
    simp only [List.mem_cons, List.not_mem_nil, or_false, forall_eq_or_imp, forall_eq] at q4
    refine ⟨?_, ?_, hc.tiny⟩
    · simp only [fillC, hg, ChgT.ok, Option.isSome_some, Option.getD_some]
      exact ⟨h1.1, fun h => (by cases h), h1.2.2.1, ⟨q1, q2, q3⟩, h1.2.2.2.2⟩
    · simp only [fillC, hg, ChgT.small, Option.getD_some, List.mem_cons, List.not_mem_nil, or_false, forall_eq_or_imp, forall_eq]
      exact ⟨h2.1, h2.2.1, q4.1, q4.2.1, q4.2.2, h2.2.2.2.2.2⟩
theorem fill_fill (rs : List RowT) (c : ChgT) : fillC rs (fillC rs c) = fillC rs c := rfl

end Go.Proofs.YtbgfmbmcabekeaaGreatDoor

/-
  package origin: Commit at any server.
-/
namespace Go.Proofs.YtbgfmbmcabekeaaGreatDoor
open Go.RowKit Go.Shelf
attribute [local go_sem ↓] Go.wp_at_zero Go.wp_at_succ

/-- the changes of a record of the log -/
structure GoodL (l : List ChgT) : Prop where
  ok : ChgsOK l
  gen : ∀ c ∈ l, ChgG c
  turns : validF l = true
/-- a server with these records and this state -/
structure ServG (B : Nat) (w : World) (gs gl gst gm : Nat) (cs : Array Value) (rv hv : Value) (R : List (List ChgT × Nat × Nat)) (H : List (ByteArray × ByteArray)) (rs : List RowT) : Prop where
  srv : Blk w gs 101 cs
  c0 : cs[0]? = some (.pointer (some ⟨gl, 0, none⟩))
  c1 : cs[1]? = some (.pointer (some ⟨gst, 0, none⟩))
  log : LogG B w gl rv hv R H
  st : StateR w gst gm (R.length : Int) rs
  ok : StOK rs
  good : ∀ x ∈ R, GoodL x.1
  base : B ≤ gl ∧ B ≤ gst ∧ B ≤ gm
theorem ServG.ext {B gs gl gst gm : Nat} {w W : World} {cs : Array Value} {rv hv : Value} {R : List (List ChgT × Nat × Nat)} {H : List (ByteArray × ByteArray)} {rs : List RowT} (h : ServG B w gs gl gst gm cs rv hv R H rs) (k : Below w.heap.size w W) : ServG B W gs gl gst gm cs rv hv R H rs :=
  ⟨h.srv.ext k, h.c0, h.c1, h.log.ext k, h.st.ext k, h.ok, h.good, h.base⟩
/-- the changes that the generator makes -/
structure GenL (l : List ChgT) : Prop where
  few : l.length ≤ 6
  gen : ∀ c ∈ l, ChgG c
  asc : ∀ (j : Nat) (a b : ChgT), l[j]? = some a → l[j + 1]? = some b → a.t < b.t ∨ (a.t = b.t ∧ a.k < b.k)
theorem GenL.fill {rs : List RowT} {l : List ChgT} (h : GenL l) (hs : StOK rs) : ChgsOK (l.map (fillC rs)) ∧ (∀ c ∈ l.map (fillC rs), ChgG c) ∧ (∀ c ∈ l.map (fillC rs), fillC rs c = c) := by
  have h1 : ∀ c ∈ l.map (fillC rs), ChgG c := fun c hc => by
    obtain ⟨d, hd, rfl⟩ := List.mem_map.1 hc
    exact (h.gen d hd).fill hs
  refine ⟨⟨by have := h.few; rw [List.length_map]; omega, fun c hc => (h1 c hc).ok, fun j a b ha hb => ?_⟩, h1, fun c hc => ?_⟩
  · rw [List.getElem?_map, Option.map_eq_some_iff] at ha hb
    obtain ⟨x, hx, rfl⟩ := ha
    obtain ⟨y, hy, rfl⟩ := hb
    exact h.asc j x y hx hy
  · obtain ⟨d, hd, rfl⟩ := List.mem_map.1 hc
    exact fill_fill rs d
/-- what Apply changes -/
def StS (gst gm : Nat) (k : Nat) : Prop := k = gst ∨ k = gm
theorem ChgsAt.extS {w W : World} {v : Value} {l : List ChgT} {gs gm : Nat} {pos : Int} {rs : List RowT} (h : ChgsAt w v l) (hS : StateR w gs gm pos rs) (k : ExtS (StS gs gm) w W) : ChgsAt W v l :=
  h.ext2 hS ⟨k.os, k.tape, k.output, k.size, fun j hj h1 h2 => k.block j hj (by rintro (h | h); exact h1 h; exact h2 h)⟩
theorem own_not {W : World} {B sz n g : Nat} {t e : TypeId} {v : Value} {xs : List Value} {cs : Array Value} (h : W.ownsRow B e sz v n xs) (hb : Blk W g t cs) (ht : t ≠ e) : v.ownBlock ≠ some g := by
  rcases h.2 with ⟨rfl, _⟩ | ⟨g', cap, cur, rfl, _, hb', _⟩
  · simp [Value.ownBlock]
  · intro e2
    have e3 : g' = g := Option.some.inj e2
    subst e3
    exact blkNe hb hb' ht rfl
theorem own_notMap {W : World} {B sz n g : Nat} {e : TypeId} {v : Value} {xs : List Value} {rs : List RowT} (h : W.ownsRow B e sz v n xs) (hm : MapR W g rs) : v.ownBlock ≠ some g := by
  obtain ⟨es, c, hm, _⟩ := hm
  rcases h.2 with ⟨rfl, _⟩ | ⟨g', cap, cur, rfl, _, hb', _⟩
  · simp [Value.ownBlock]
  · intro e2
    have e3 : g' = g := Option.some.inj e2
    subst e3
    unfold MapAt at hm
    rw [hm] at hb'
    cases hb'
theorem own_extS2 {W W' : World} {S : Nat → Prop} {base n sz : Nat} {e : TypeId} {v : Value} {xs : List Value} (h : W.ownsRow base e sz v n xs) (k : ExtS S W W') (hn : ∀ g, v.ownBlock = some g → ¬ S g) : W'.ownsRow base e sz v n xs := by
  refine ⟨h.1, ?_⟩
  rcases h.2 with hn' | ⟨g, cap, cur, h1, h2, h3, h4⟩
  · exact .inl hn'
  · exact .inr ⟨g, cap, cur, h1, h2, (k.block g (Array.getElem?_eq_some_iff.1 h3).1 (hn g (by rw [h1]; rfl))).trans h3, h4⟩
theorem ChgB.notS {W : World} {g b : Nat} {t : TypeId} {cs : Array Value} {l : List ChgT} (h : ChgB W b l) (hb : Blk W g t cs) (ht : t ≠ 75) : b ≠ g := by
  obtain ⟨cur, hc, _⟩ := h
  exact fun e => blkNe hb hc ht e.symm
theorem ChgB.notMap {W : World} {g b : Nat} {l : List ChgT} {rs : List RowT} (h : ChgB W b l) (hm : MapR W g rs) : b ≠ g := by
  obtain ⟨cur, hc, _⟩ := h
  obtain ⟨es, c, hm, _⟩ := hm
  rintro rfl
  unfold Blk at hc
  unfold MapAt at hm
  rw [hm] at hc
  cases hc
theorem ChgB.extS {W W' : World} {S : Nat → Prop} {b : Nat} {l : List ChgT} (h : ChgB W b l) (k : ExtS S W W') (hn : ¬ S b) : ChgB W' b l := by
  obtain ⟨cur, hc, h2⟩ := h
  exact ⟨cur, ExtS.blk hc k hn, h2⟩
theorem LogG.keepSt {B : Nat} {W W' : World} {gl gst gm : Nat} {pos : Int} {rv hv : Value} {R : List (List ChgT × Nat × Nat)} {H : List (ByteArray × ByteArray)} {rs : List RowT} (h : LogG B W gl rv hv R H) (hs : StateR W gst gm pos rs) (k : ExtS (StS gst gm) W W') : LogG B W' gl rv hv R H := by
  have hm : ∀ {g : Nat} {t : TypeId} {cs : Array Value}, Blk W g t cs → t ≠ 134 → ¬ StS gst gm g := fun hb ht => by
    rintro (e | e)
    · exact blkNe hb hs.1 ht e
    · subst e
      obtain ⟨es, c, hm, _⟩ := hs.2
      unfold Blk at hb
      unfold MapAt at hm
      rw [hm] at hb
      cases hb
  refine ⟨ExtS.blk h.log k (hm h.log (by decide)), own_extS2 h.recs k (fun g hg => ?_), own_extS2 h.heads k (fun g hg => ?_), fun x hx => ⟨?_, (h.chg x hx).2⟩, h.len, h.sizes⟩
  · rintro (e | e)
    · subst e; exact own_not h.recs hs.1 (by decide) hg
    · subst e; exact own_notMap h.recs hs.2 hg
  · rintro (e | e)
    · subst e; exact own_not h.heads hs.1 (by decide) hg
    · subst e; exact own_notMap h.heads hs.2 hg
  · refine (h.chg x hx).1.extS k ?_
    rintro (e | e)
    · exact (h.chg x hx).1.notS hs.1 (by decide) e
    · exact (h.chg x hx).1.notMap hs.2 e
theorem StateR.keepLog {B : Nat} {W W' : World} {gl gst gm : Nat} {pos : Int} {rv hv : Value} {R : List (List ChgT × Nat × Nat)} {H : List (ByteArray × ByteArray)} {rs : List RowT} (hs : StateR W gst gm pos rs) (h : LogG B W gl rv hv R H) (k : ExtS (ApX gl rv hv) W W') : StateR W' gst gm pos rs := by
  refine ⟨ExtS.blk hs.1 k ?_, ?_⟩
  · rintro (e | e | e)
    · exact blkNe hs.1 h.log (by decide) e
    · exact own_not h.recs hs.1 (by decide) e
    · exact own_not h.heads hs.1 (by decide) e
  · obtain ⟨es, c, hm, h2⟩ := hs.2
    refine ⟨es, c, (k.block gm hm.lt ?_).trans hm, h2⟩
    rintro (e | e | e)
    · subst e
      have hb := h.log
      unfold Blk at hb
      unfold MapAt at hm
      rw [hm] at hb
      cases hb
    · exact own_notMap h.recs hs.2 e
    · exact own_notMap h.heads hs.2 e

end Go.Proofs.YtbgfmbmcabekeaaGreatDoor

/-
  package origin: Commit at any server: refused, or one record more.
-/
namespace Go.Proofs.YtbgfmbmcabekeaaGreatDoor
open Go.RowKit Go.Shelf
attribute [local go_sem ↓] Go.wp_at_zero Go.wp_at_succ

set_option maxRecDepth 100000 in
set_option maxHeartbeats 4000000 in
theorem commitH (w0 : World) (hR : RoundOK w0) (gs gl gst gm : Nat) (cs : Array Value) (rv hv : Value) (R : List (List ChgT × Nat × Nat)) (H : List (ByteArray × ByteArray)) (rs : List RowT) (l : List ChgT) (v : Value) (w : World) (hE0 : Below w0.heap.size w0 w)
    (hS : ServG w0.heap.size w gs gl gst gm cs rv hv R H rs) (hn : R.length ≤ 50) (hvl : ChgsAt w v l) (hnil : l.length = 0 → v = .slice none 0 0) (hl : GenL l) :
    Calls Tryz.prog 11 #[.pointer (some ⟨gs, 0, none⟩), v] w fun e w' =>
      (e = .returned (.tuple #[.int .i64 0, .int .i64 270]) ∧ Below w.heap.size w w') ∨
      (e = .returned (.tuple #[.int .i64 ((R.length : Int) + 1), .int .i64 0]) ∧ (∃ rv2 hv2 H2 rs2 x, ServG w0.heap.size w' gs gl gst gm cs rv2 hv2 (R ++ [x]) H2 rs2) ∧ Below w0.heap.size w0 w' ∧ ExtS (fun k => StS gst gm k ∨ ApX gl rv hv k) w w') := by
  have h0 : w.cell? ⟨gs, 0, none⟩ = some (.pointer (some ⟨gl, 0, none⟩)) := (hS.srv.cell 0).trans hS.c0
  have h1 : w.cell? ⟨gs, 1, none⟩ = some (.pointer (some ⟨gst, 0, none⟩)) := (hS.srv.cell 1).trans hS.c1
  obtain ⟨A, cr, hrv⟩ := own_shape hS.log.recs
  have hF := filledR rs l v gs gl gst R.length cr A hv (by omega) w h0 h1 (by have h9 := hS.log.log; rw [hrv] at h9; exact h9) hvl (by have := hl.few; omega) hnil (fun t k W hk => getR_any gst gm _ rs t k W (hS.st.ext hk))
  have HF := Lib.hid hF
  obtain ⟨hok2, hgen2, hfit2⟩ := hl.fill hS.ok
  have HL := Lib.hid (And.intro hok2 (And.intro hgen2 hfit2))
  obtain ⟨l2, hl2⟩ : ∃ l2, l2 = l.map (fillC rs) := ⟨_, rfl⟩
  rw [← hl2] at HF HL
  have HS := Lib.hid hS
  have HE0 := Lib.hid hE0
  have HR := Lib.hid hR
  have hR50 := hn
  have hgsl := hS.srv.lt
  obtain ⟨n, hnn⟩ : ∃ n, n = R.length := ⟨_, rfl⟩
  have HNN := Lib.hid hnn
  rw [← hnn] at HF hn ⊢
  have H0 := Lib.hid (And.intro h0 h1)
  clear h0 h1 hrv hF hok2 hgen2 hfit2 hl2 hS hE0 hR hvl hnil hl hR50 hnn
  go_enter Tryz.func11, Tryz.ntmps11
  go_wp2_with fail
  refine HF.out.mono ?_
  rintro e W1 ⟨u, rfl, hu, -, hb1⟩
  have hu2 := hu
  obtain ⟨Au, cu, huv, -⟩ := hu2
  subst huv
  go_wp2
  obtain ⟨X, hX⟩ : ∃ X, X = W1.alloc (.cells #[.int .i64 ((n : Int) + 1), .slice Au l2.length cu] 46) := ⟨_, rfl⟩
  rw [← hX]
  have HE := Lib.hid (show Below w.heap.size w X by rw [hX]; exact ext_alloc hb1 _)
  have HRX := Lib.hid (show Blk X W1.heap.size 46 #[.int .i64 ((n : Int) + 1), .slice Au l2.length cu] by rw [hX]; exact Blk.new _ _ _)
  have HUX := Lib.hid (show ChgsAt X (.slice Au l2.length cu) l2 by rw [hX]; exact hu.ext (ext_new _ _))
  have HSX := Lib.hid (HS.out.ext HE.out)
  have hw1 := hb1.size
  clear hX hu hb1
  have hpos : (0 : Int) ≤ (n : Int) ∧ (n : Int) ≤ 1000 := by omega
  have hfew := HSX.out.ok.few
  have HST := Lib.hid (show StateR X gst gm (n : Int) rs by have := HSX.out.st; rw [← HNN.out] at this; exact this)
  have HA := Lib.hid (fun (W : World) (k : Below X.heap.size X W) => applyR rs l2 (.slice Au l2.length cu) gst gm (n : Int) hpos W (HST.out.ext k) (HUX.out.ext k) HL.out.1 (by omega) HL.out.2.2)
  clear hpos hfew
  have a0 := HRX.out.cell 0
  have a1 := HRX.out.cell 1
  have s0 := cell_ext H0.out.1 HE.out
  have s1 := cell_ext H0.out.2 HE.out
  cases hvf : validF l2 with
  | false =>
    have HA2 := Lib.hid (fun (W : World) (k : Below X.heap.size X W) => show Calls Tryz.prog 40 #[.pointer (some ⟨gst, 0, none⟩), .agg #[.int .i64 ((n : Int) + 1), .slice Au l2.length cu]] W fun e w' => e = .returned (.int .i64 40) ∧ Below W.heap.size W w' from
      (HA.out W k).mono fun e w' h => by
        rcases h with ⟨_, h1, h2⟩ | ⟨h1, _⟩
        · exact ⟨h1, h2⟩
        · rw [hvf] at h1; cases h1)
    have HK := Lib.hid (show X.cell? ⟨gs, 1, none⟩ = some (.pointer (some ⟨gst, 0, none⟩)) ∧ X.cell? ⟨W1.heap.size, 0, none⟩ = some (.int .i64 ((n : Int) + 1)) ∧ X.cell? ⟨W1.heap.size, 1, none⟩ = some (.slice Au l2.length cu) from ⟨s1, a0, a1⟩)
    clear HA hvf
    go_region_held3 (fun w' => w'.cell? ⟨gs, 1, none⟩ = some (.pointer (some ⟨gst, 0, none⟩)) ∧ w'.cell? ⟨W1.heap.size, 0, none⟩ = some (.int .i64 ((n : Int) + 1)) ∧ w'.cell? ⟨W1.heap.size, 1, none⟩ = some (.slice Au l2.length cu) ∧ Below X.heap.size X w')
      (first | with_reducible assumption | exact keep3B HK.out (by repeat (first | with_reducible refine Below.drew ?_ | with_reducible assumption | with_reducible exact ext_refl _)))
      (first | (go_at_call 40; (with_reducible refine (HA2.out _ ?_).mono ?_); (exact keep3E (by assumption)); rintro e W2 ⟨rfl, hb'⟩; have hE2 := ext_call (keep3E (by assumption)) hb'))
    all_goals
      have HE2 := Lib.hid (ext_call HE.out hE2)
      clear hb' hE2 a0 a1 s0 s1
      go_wp2
      go_ret2
      exact .inl ⟨rfl, HE2.out⟩
  | true =>
    have HVF := Lib.hid hvf
    have HA2 := Lib.hid (fun (W : World) (k : Below X.heap.size X W) => show Calls Tryz.prog 40 #[.pointer (some ⟨gst, 0, none⟩), .agg #[.int .i64 ((n : Int) + 1), .slice Au l2.length cu]] W fun e w' => e = .returned (.int .i64 0) ∧ StateR w' gst gm ((n : Int) + 1) (applyF rs l2) ∧ Ext2 gst gm W w' from
      (HA.out W k).mono fun e w' h => by
        rcases h with ⟨h1, _⟩ | ⟨_, h1, h2, h3⟩
        · rw [hvf] at h1; cases h1
        · exact ⟨h1, h2, h3⟩)
    have hns : ¬ StS gst gm gs := by
      rintro (e | e)
      · exact blkNe HSX.out.srv HST.out.1 (by decide) e
      · subst e
        obtain ⟨es, c, hm, _⟩ := HST.out.2
        have hb := HSX.out.srv
        unfold Blk at hb
        unfold MapAt at hm
        rw [hm] at hb
        cases hb
    have HNS := Lib.hid hns
    have hnr : ¬ StS gst gm W1.heap.size := by
      rintro (e | e)
      · have := HS.out.st.1.lt; omega
      · have := HS.out.st.2.lt; omega
    have HK := Lib.hid (show X.cell? ⟨gs, 0, none⟩ = some (.pointer (some ⟨gl, 0, none⟩)) ∧ X.cell? ⟨gs, 1, none⟩ = some (.pointer (some ⟨gst, 0, none⟩)) ∧ X.cell? ⟨W1.heap.size, 0, none⟩ = some (.int .i64 ((n : Int) + 1)) ∧ X.cell? ⟨W1.heap.size, 1, none⟩ = some (.slice Au l2.length cu) ∧
      ¬ StS gst gm gs ∧ ¬ StS gst gm gs ∧ ¬ StS gst gm W1.heap.size ∧ ¬ StS gst gm W1.heap.size from ⟨s0, s1, a0, a1, hns, hns, hnr, hnr⟩)
    clear HA hvf hns hnr
    go_region_held3 (fun w' => w'.cell? ⟨gs, 0, none⟩ = some (.pointer (some ⟨gl, 0, none⟩)) ∧ w'.cell? ⟨gs, 1, none⟩ = some (.pointer (some ⟨gst, 0, none⟩)) ∧ w'.cell? ⟨W1.heap.size, 0, none⟩ = some (.int .i64 ((n : Int) + 1)) ∧ w'.cell? ⟨W1.heap.size, 1, none⟩ = some (.slice Au l2.length cu) ∧ ExtS (StS gst gm) X w')
      (first | with_reducible assumption | exact keepS4 HK.out (by first | with_reducible assumption | exact ExtS.of_ext (ext_refl X).drew))
      (first | (go_at_call 40; (with_reducible refine (HA2.out _ ?_).mono ?_); (exact (ext_refl X).drew); rintro e W2 ⟨rfl, hs2, he2⟩; have hx2 : ExtS (StS gst gm) X W2 := (ExtS.of_ext (ext_refl X).drew).trans (ExtS.of_ext2 he2 (.inl rfl) (.inr rfl))))
    have HS2 := Lib.hid hs2
    have HX2 := Lib.hid hx2
    have HLG2 := Lib.hid (HSX.out.log.keepSt HST.out hx2)
    have HU2 := Lib.hid (HUX.out.extS HST.out hx2)
    have HSV2 := Lib.hid (ExtS.blk HSX.out.srv hx2 HNS.out)
    have HE2 := Lib.hid (show Below w0.heap.size w0 W2 from ExtS.below (ext_call HE0.out HE.out) (by rintro k (rfl | rfl); exact HS.out.base.2.1; exact HS.out.base.2.2) hx2)
    have HK2 := Lib.hid (keepS4 HK.out hx2)
    have HOK2 := Lib.hid (HS.out.ok.apply HL.out.2.1)
    clear hs2 he2 hx2 a0 a1 s0 s1 HK
    have s0 := HK2.out.1
    have s1 := HK2.out.2.1
    have a0 := HK2.out.2.2.1
    have a1 := HK2.out.2.2.2.1
    have hna : ∀ k : Nat, w.heap.size ≤ k → ¬ ApX gl rv hv k := fun k hk => by
      rintro (h | h | h)
      · have := HS.out.log.log.lt; omega
      · have := (HS.out.log.recs.lt k h).2; omega
      · have := (HS.out.log.heads.lt k h).2; omega
    have hngs : ¬ ApX gl rv hv gs := by
      rintro (h | h | h)
      · exact blkNe HS.out.srv HS.out.log.log (by decide) h
      · exact own_not HS.out.log.recs HS.out.srv (by decide) h
      · exact own_not HS.out.log.heads HS.out.srv (by decide) h
    have hnr := hna W1.heap.size hw1
    have HNG := Lib.hid hngs
    have HK := Lib.hid (show W2.cell? ⟨gs, 0, none⟩ = some (.pointer (some ⟨gl, 0, none⟩)) ∧ W2.cell? ⟨gs, 1, none⟩ = some (.pointer (some ⟨gst, 0, none⟩)) ∧ W2.cell? ⟨W1.heap.size, 0, none⟩ = some (.int .i64 ((n : Int) + 1)) ∧ W2.cell? ⟨W1.heap.size, 1, none⟩ = some (.slice Au l2.length cu) ∧
      ¬ ApX gl rv hv gs ∧ ¬ ApX gl rv hv gs ∧ ¬ ApX gl rv hv W1.heap.size ∧ ¬ ApX gl rv hv W1.heap.size from ⟨s0, s1, a0, a1, hngs, hngs, hnr, hnr⟩)
    have HRt := Lib.hid (fun (W : World) (k : Below W2.heap.size W2 W) => stateRootR (applyF rs l2) HOK2.out.sm (by have := HOK2.out.few; omega) gst gm ((n : Int) + 1) W (HS2.out.ext k) (HR.out.below (ext_call HE2.out k)))
    have HAp := Lib.hid (fun (t : ByteArray) (ht : t.size = 32) (W : World) (k : Below W2.heap.size W2 W) => show Calls Tryz.prog 41 #[.pointer (some ⟨gl, 0, none⟩), .agg #[.int .i64 ((n : Int) + 1), .slice Au l2.length cu], .string t] W fun e w' => e = .returned (.int .i64 0) ∧ (∃ rv2 hv2 g d cz, LogG w0.heap.size w' gl rv2 hv2 (R ++ [(l2, g, d)]) (H ++ [(cz, t)])) ∧ ExtS (ApX gl rv hv) W w' from by
      have h9 := logAppendG w0.heap.size gl rv hv R H l2 (.slice Au l2.length cu) t ht (by have := HNN.out; omega) W (Nat.le_trans HE2.out.size k.size) (HLG2.out.ext k) (HU2.out.ext k) HL.out.1 (fun x hx => (HL.out.2.1 x hx).small) HVF.out (HR.out.below (ext_call HE2.out k))
      rw [← HNN.out] at h9
      exact h9.mono fun e w' ⟨h1, rv2, hv2, g, d, cz, h2, h3⟩ => ⟨h1, ⟨rv2, hv2, g, d, cz, h2⟩, h3⟩)
    clear hna hngs hnr HK2
    go_upto_region 6 with (fail)
    go_region_held3 (fun w' => w'.cell? ⟨gs, 0, none⟩ = some (.pointer (some ⟨gl, 0, none⟩)) ∧ w'.cell? ⟨gs, 1, none⟩ = some (.pointer (some ⟨gst, 0, none⟩)) ∧ w'.cell? ⟨W1.heap.size, 0, none⟩ = some (.int .i64 ((n : Int) + 1)) ∧ w'.cell? ⟨W1.heap.size, 1, none⟩ = some (.slice Au l2.length cu) ∧ ExtS (ApX gl rv hv) W2 w')
      (first | with_reducible assumption | exact keepS4 HK.out (by first | with_reducible assumption | exact ExtS.of_ext (ext_refl W2).drew | exact ExtS.of_ext (by assumption)))
      (first
        | (go_at_call 26; (with_reducible refine (HRt.out _ ?_).mono ?_); (exact (ext_refl W2).drew); rintro e W3 ⟨t, rfl, ht, hb3⟩; have hE3 : Below W2.heap.size W2 W3 := ext_call (ext_refl W2).drew hb3)
        | (go_at_call 41; (with_reducible refine (HAp.out _ ?_ _ ?_).mono ?_); (assumption); (assumption); rintro e W4 ⟨rfl, hlr, he4⟩; have hx4 : ExtS (ApX gl rv hv) W2 W4 := (ExtS.of_ext (by assumption)).trans he4))
    have HLR := Lib.hid hlr
    have HX4 := Lib.hid hx4
    have r0 := (keepS4 HK.out hx4).2.2.1
    clear hlr he4 hx4 hE3 hb3 s0 s1 a0 a1
    go_wp2
    go_ret2
    refine .inr ⟨rfl, ?_, ?_, ((ExtS.of_ext HE.out).trans (HX2.out.mono fun k h => .inl h)).trans (HX4.out.mono fun k h => .inr h)⟩
    · obtain ⟨rv2, hv2, g, d, cz, hl4⟩ := HLR.out
      refine ⟨rv2, hv2, _, applyF rs l2, (l2, g, d), ExtS.blk HSV2.out HX4.out HNG.out, HS.out.c0, HS.out.c1, hl4, ?_, HOK2.out, fun x hx => ?_, HS.out.base⟩
      · have h9 := HS2.out.keepLog HLG2.out HX4.out
        rw [List.length_append, ← HNN.out]
        have e9 : ((n + 1 : Nat) : Int) = (n : Int) + 1 := by omega
        simpa [e9] using h9
      · rcases List.mem_append.1 hx with h | h
        · exact HS.out.good x h
        · simp at h; subst h; exact ⟨HL.out.1, HL.out.2.1, HVF.out⟩
    · refine ExtS.below HE2.out ?_ HX4.out
      rintro k (h | h | h)
      · rw [h]; exact HS.out.base.1
      · exact (HS.out.log.recs.lt k h).1
      · exact (HS.out.log.heads.lt k h).1

set_option maxRecDepth 100000 in
theorem commitG (w0 : World) (hR : RoundOK w0) (gs gl gst gm : Nat) (cs : Array Value) (rv hv : Value) (R : List (List ChgT × Nat × Nat)) (H : List (ByteArray × ByteArray)) (rs : List RowT) (l : List ChgT) (v : Value) (w : World) (hE0 : Below w0.heap.size w0 w)
    (hS : ServG w0.heap.size w gs gl gst gm cs rv hv R H rs) (hn : R.length ≤ 50) (hvl : ChgsAt w v l) (hnil : l.length = 0 → v = .slice none 0 0) (hl : GenL l) :
    Calls Tryz.prog 11 #[.pointer (some ⟨gs, 0, none⟩), v] w fun e w' =>
      (e = .returned (.tuple #[.int .i64 0, .int .i64 270]) ∧ Below w.heap.size w w') ∨
      (e = .returned (.tuple #[.int .i64 ((R.length : Int) + 1), .int .i64 0]) ∧ (∃ rv2 hv2 H2 rs2 x, ServG w0.heap.size w' gs gl gst gm cs rv2 hv2 (R ++ [x]) H2 rs2) ∧ Below w0.heap.size w0 w') :=
  (commitH w0 hR gs gl gst gm cs rv hv R H rs l v w hE0 hS hn hvl hnil hl).mono fun e w' h => h.imp id (fun ⟨a, b, c, d⟩ => ⟨a, b, c⟩)

end Go.Proofs.YtbgfmbmcabekeaaGreatDoor
