/-
  Part 16 of 17: the contracts that the proof of the last part uses; each stands under its own head.
-/
import Derived.Test.YtbgfmbmcabekeaaGreatDoorJ15
import Derived.Test.YtbgfmbmcabekeaaGreatDoorJ8
import Derived.Test.YtbgfmbmcabekeaaGreatDoorJ12
import Derived.Test.YtbgfmbmcabekeaaGreatDoorJ6
set_option linter.unusedSimpArgs false
set_option linter.unusedVariables false

/-
  package origin: New as a server without records.
-/
namespace Go.Proofs.YtbgfmbmcabekeaaGreatDoor
open Go.RowKit Go.Shelf

set_option maxRecDepth 100000 in
set_option maxHeartbeats 400000 in
theorem logNewB (s : ByteArray) (hs : s.size = 32) (w : World) :
    Calls Tryz.prog 36 #[.string s] w fun e w' => ∃ gl gh, e = .returned (.tuple #[.pointer (some ⟨gl, 0, none⟩), .int .i64 0]) ∧ Blk w' gl 144 #[.slice none 0 0, .slice (some ⟨gh, 0, none⟩) 1 1] ∧ Blk w' gh 86 #[.int .i64 0, .string zeros32, .string s] ∧ w.heap.size ≤ gl ∧ w.heap.size ≤ gh ∧ Below w.heap.size w w' := by
  have HSs := Lib.hid hs
  clear hs
  have HZ := Lib.hid (show ∀ W : World, Calls Tryz.prog 66 #[.string ⟨#[0]⟩, .int .i64 32] W fun e w' => e = .returned (.string zeros32) ∧ Below W.heap.size W w' from fun W => Tryz.strings_Repeat_main ⟨#[0]⟩ 32 W (by omega) (by omega) (by decide) (by decide))
  generalize zeros32 = z at *
  go_enter Tryz.func36, Tryz.ntmps36
  go_wp2_with (first | (go_at_call 65; refine (isDig s HSs.out _).mono ?_; rintro e w' ⟨rfl, rfl⟩) | (go_at_call 66; refine (HZ.out _).mono ?_; rintro e W1 ⟨rfl, hb1⟩; have HB1 := Lib.hid hb1; clear hb1))
  go_ret2
  exact ⟨_, _, rfl, Blk.new' _ _ _ (by simp), (Blk.new' _ _ _ rfl).alloc _, by have := HB1.out.size; omega, by have := HB1.out.size; omega, ext_alloc (ext_alloc HB1.out _) _⟩

/-- the cells of a server without records, and with no ring -/
def srvCells (gl gst gp gn : Nat) : Array Value := #[.pointer (some ⟨gl, 0, none⟩), .pointer (some ⟨gst, 0, none⟩), .slice (some ⟨gp, 0, none⟩) 1 1, .int .i64 0, .int .i64 0, .slice none 0 0, .slice none 0 0, .map (some gn), .int .i64 0]

end Go.Proofs.YtbgfmbmcabekeaaGreatDoor

/-
  package cachetierlaw27: changes.
-/
namespace Go.Proofs.YtbgfmbmcabekeaaGreatDoor
open Go.RowKit Go.Shelf
attribute [local go_sem ↓] app_exec app_sem Go.wp_at_zero Go.wp_at_succ

/-- rows of three integers in memory -/
def TripsAt (w : World) (v : Value) (T : List (Int × Int × Int)) : Prop :=
  ∃ A c, v = .slice A T.length c ∧ (0 < T.length → ∃ b off, A = some ⟨b, off, none⟩ ∧ ∀ (j : Nat) (x : Int × Int × Int), T[j]? = some x →
    w.cell? ⟨b, off + j * 3, none⟩ = some (.int .i64 x.1) ∧ w.cell? ⟨b, off + j * 3 + 1, none⟩ = some (.int .i64 x.2.1) ∧ w.cell? ⟨b, off + j * 3 + 2, none⟩ = some (.int .i64 x.2.2))
theorem TripsAt.ext {w W : World} {v : Value} {T : List (Int × Int × Int)} (h : TripsAt w v T) (k : Below w.heap.size w W) : TripsAt W v T := by
  obtain ⟨A, c, rfl, h⟩ := h
  refine ⟨A, c, rfl, fun h0 => ?_⟩
  obtain ⟨b, off, hA, hc⟩ := h h0
  exact ⟨b, off, hA, fun j x hx => ⟨cell_ext (hc j x hx).1 k, cell_ext (hc j x hx).2.1 k, cell_ext (hc j x hx).2.2 k⟩⟩
def in64 (x : Int) : Prop := -9223372036854775808 ≤ x ∧ x ≤ 9223372036854775807
def In64 (T : List (Int × Int × Int)) : Prop := ∀ x ∈ T, in64 x.1 ∧ in64 x.2.1 ∧ in64 x.2.2

/-- the change that three integers make, without and with the new row -/
def genC0 (t k : Int) (h : Bool) : ChgT := ⟨t, k, false, 0, 0, 0, h, 0, 0, 0⟩
theorem genC0_good (t k : Int) (h1 : 0 ≤ t ∧ t < 3) (h2 : 0 ≤ k ∧ k < 9) : ChgG (genC0 t (1 + k) false) := by
  refine ⟨⟨⟨by dsimp only [genC0]; omega, by dsimp only [genC0]; omega⟩, fun _ => ⟨rfl, rfl, rfl⟩, fun _ => ⟨rfl, rfl, rfl⟩, by dsimp only [genC0]; omega, by dsimp only [genC0]; omega⟩, ?_, ⟨h1.1, by dsimp only [genC0]; omega⟩, by dsimp only [genC0]; omega, by dsimp only [genC0]; omega⟩
  unfold ChgT.small genC0
  simp only [List.mem_cons, List.not_mem_nil, or_false, forall_eq_or_imp, forall_eq]
  omega
def genC1 (t k a b d : Int) : ChgT := ⟨t, k, false, 0, 0, 0, true, a, b, d⟩
theorem genC1_good (t k a b d : Int) (h1 : 0 ≤ t ∧ t < 3) (h2 : 0 ≤ k ∧ k < 9) (h3 : 0 ≤ a ∧ a < 10) (h4 : 0 ≤ b ∧ b < 9) (h5 : 0 ≤ d ∧ d < 40) : ChgG (genC1 t (1 + k) a (1 + b) (d - 20)) := by
  refine ⟨⟨⟨by dsimp only [genC1]; omega, by dsimp only [genC1]; omega⟩, fun _ => ⟨rfl, rfl, rfl⟩, (fun h => by cases h), by dsimp only [genC1]; omega, by dsimp only [genC1]; omega⟩, ?_, ⟨h1.1, by dsimp only [genC1]; omega⟩, by dsimp only [genC1]; omega, by dsimp only [genC1]; omega⟩
  unfold ChgT.small genC1
  simp only [List.mem_cons, List.not_mem_nil, or_false, forall_eq_or_imp, forall_eq]
  omega
/-- does the change come behind the list? -/
def behind (l : List ChgT) (c : ChgT) : Bool := match l.getLast? with | none => true | some a => decide (a.t < c.t) || ((a.t == c.t) && decide (a.k < c.k))
theorem GenL.nil : GenL [] := ⟨by simp, by simp, by simp⟩
theorem GenL.push {l : List ChgT} (h : GenL l) {c : ChgT} (hc : ChgG c) (hb : behind l c = true) (hf : l.length ≤ 5) : GenL (l ++ [c]) := by
  refine ⟨by simp; omega, fun d hd => ?_, fun j a b ha hbb => ?_⟩
  · simp only [List.mem_append, List.mem_singleton] at hd
    rcases hd with hd | rfl
    · exact h.gen d hd
    · exact hc
  · by_cases hj : j + 1 < l.length
    · rw [List.getElem?_append_left (by omega)] at ha
      rw [List.getElem?_append_left hj] at hbb
      exact h.asc j a b ha hbb
    · have hj2 : j + 1 = l.length := by
        have := (List.getElem?_eq_some_iff.1 hbb).1
        simp at this
        omega
      rw [List.getElem?_append_left (by omega)] at ha
      rw [hj2, List.getElem?_append_right (Nat.le_refl _)] at hbb
      simp at hbb
      subst hbb
      have hl : l.getLast? = some a := by rw [List.getLast?_eq_getElem?, ← ha]; congr 1; omega
      unfold behind at hb
      rw [hl] at hb
      simpa using hb

/-- a change appended to own changes -/
theorem appChg (W : World) (base : Nat) (hb : base ≤ W.heap.size) (v : Value) (l : List ChgT) (hown : W.ownsRow base 75 10 v l.length (cc l)) (hn : l.length ≤ 1000000) (c : ChgT) :
    AppOK Tryz.prog (W.alloc (.cells c.arr 75)) 36 36 v (.slice (some ⟨W.heap.size, 0, none⟩) 1 1) ∧ ∃ W', appW Tryz.prog (W.alloc (.cells c.arr 75)) 36 36 v (.slice (some ⟨W.heap.size, 0, none⟩) 1 1) = W' ∧
      ∃ v', appV Tryz.prog (W.alloc (.cells c.arr 75)) 36 36 v (.slice (some ⟨W.heap.size, 0, none⟩) 1 1) = v' ∧ W'.ownsRow base 75 10 v' (l.length + 1) (cc (l ++ [c])) ∧ (W.alloc (.cells c.arr 75)).grownBy W' v.ownBlock := by
  obtain ⟨ii, hii, hzi0, hzi1, hzi2⟩ := info_parts chg_info
  have he : cc (l ++ [c]) = cc l ++ c.arr.toList := by simp [cc]
  rw [he]
  obtain ⟨h1, h2, h3⟩ := app_own (P := Tryz.prog) (w := W.alloc (.cells c.arr 75)) base 36 36 75 ii (.agg #[.int .i64 0, .int .i64 0, .bool false, .int .i64 0, .int .i64 0, .int .i64 0, .bool false, .int .i64 0, .int .i64 0, .int .i64 0]) 10 80 Tryz.underlying36 hii hzi0 hzi1 hzi2 rfl (by decide) v l.length (cc l) (hown.alloc _) ⟨W.heap.size, 0, none⟩ 1 1 c.arr.toList rfl (fun i u hu => by
    rw [add_lit0]
    have hB := Blk.new W 75 c.arr
    rw [hB.cell]
    rw [← hu]
    simp) (fun u hu => cc_one [c] u (by simpa [cc] using hu)) (by unfold maxLen; omega) (by omega) (by simp; omega)
  exact ⟨h1, _, rfl, _, rfl, h2, h3⟩

/-- own changes lie in a block -/
theorem ownChg {W : World} {B : Nat} {v : Value} {l : List ChgT} (h : W.ownsRow B 75 10 v l.length (cc l)) (h0 : 0 < l.length) : ∃ g c, v = .slice (some ⟨g, 0, none⟩) l.length c ∧ B ≤ g ∧ l.length ≤ c ∧ ChgB W g l := by
  obtain ⟨_, h2⟩ := h
  rcases h2 with ⟨_, h3⟩ | ⟨g, cap, cur, h3, h4, h5, h6, _, h8, h9⟩
  · omega
  refine ⟨g, cap, h3, h4, by simpa using h6, ⟨cur, h5, fun j x hj i hi => ?_⟩⟩
  have h11 := cc_at l j x hj i hi
  rw [← h11, ← h9, List.getElem?_take, if_pos (by have := (List.getElem?_eq_some_iff.1 hj).1; omega)]
  simp
theorem own_chgs {W : World} {B : Nat} {v : Value} {l : List ChgT} (h : W.ownsRow B 75 10 v l.length (cc l)) (h0 : l.length = 0 → v = .slice none 0 0) : ChgsAt W v l := by
  by_cases hl : l.length = 0
  · rw [h0 hl]
    exact ⟨none, 0, by rw [hl], by omega, fun h => by omega⟩
  · obtain ⟨g, c, rfl, _, hc, hb⟩ := ownChg h (by omega)
    exact hb.at_ hc
theorem own_low {W : World} {B n sz : Nat} {e : TypeId} {v : Value} {xs : List Value} (h : W.ownsRow B e sz v n xs) : ∀ k, v.ownBlock = some k → B ≤ k := by
  intro k hk
  rcases h.2 with ⟨h1, _⟩ | ⟨g, cap, cur, h1, h2, _⟩
  · rw [h1] at hk; cases hk
  · rw [h1] at hk
    have e2 : g = k := Option.some.inj hk
    omega
theorem keepT {X W : World} {p q r : Addr} {x y z : Value} (h : X.cell? p = some x ∧ X.cell? q = some y ∧ X.cell? r = some z) (k : Below X.heap.size X W) : W.cell? p = some x ∧ W.cell? q = some y ∧ W.cell? r = some z ∧ Below X.heap.size X W :=
  ⟨cell_ext h.1 k, cell_ext h.2.1 k, cell_ext h.2.2 k, k⟩

set_option maxRecDepth 100000 in
set_option maxHeartbeats 4000000 in
theorem changes_any (T : List (Int × Int × Int)) (v : Value) (w : World) (hv : TripsAt w v T) (hT : In64 T) : Calls Tryz.prog 12 #[v] w fun e w' =>
    ∃ u l, e = .returned u ∧ ChgsAt w' u l ∧ GenL l ∧ (l.length = 0 → u = .slice none 0 0) ∧ Below w.heap.size w w' := by
  obtain ⟨A, c, rfl, hcell⟩ := hv
  have HC := Lib.hid hcell
  have HT := Lib.hid hT
  clear hcell hT
  go_enter Tryz.func12, Tryz.ntmps12
  go_wp2
  go_loopw [3, 4, 5, 6] (fun vo iv _ _ W => ∃ (k : Nat) (l : List ChgT), k ≤ 6 ∧ k ≤ T.length ∧ l.length ≤ k ∧ iv = .int .i64 k ∧ W.ownsRow w.heap.size 75 10 vo l.length (cc l) ∧ GenL l ∧ (l.length = 0 → vo = .slice none 0 0) ∧ Below w.heap.size w W) (fun _ iv _ _ _ => T.length - (intOf iv).toNat)
  case atStart => exact ⟨0, [], by omega, by omega, by simp, rfl, World.ownsRow_nil _ _ _ _, GenL.nil, fun _ => rfl, Below.refl _ _⟩
  case round =>
    obtain ⟨k, l, hk6, hkT, hlk, rfl, ho, hg, hnil, hE⟩ := hrel
    have HO := Lib.hid ho
    have HG := Lib.hid hg
    have HNIL := Lib.hid hnil
    have HE := Lib.hid hE
    obtain ⟨Ao, co, rfl⟩ := own_shape ho
    clear ho hg hnil hE
    have e2 : IntKind.i64.wrap ((k : Int) + 1) = (k : Int) + 1 := by rw [IntWalk.i64_in _ (by omega)]
    by_cases hlt : k < T.length
    · by_cases hk : k < 6
      · obtain ⟨b, off, rfl, hc⟩ := HC.out (by omega)
        obtain ⟨x, hx⟩ : ∃ x, T[k]? = some x := ⟨_, List.getElem?_eq_getElem hlt⟩
        have hxx := HT.out x (List.mem_of_getElem? hx)
        obtain ⟨y0, y1, y2⟩ := hc k x hx
        obtain ⟨x0, x1, x2⟩ := x
        dsimp only at y0 y1 y2 hxx
        obtain ⟨i0, i1, i2⟩ := hxx
        unfold in64 at i0 i1 i2
        have z0 := cell_ext y0 HE.out
        have z1 := cell_ext y1 HE.out
        have z2 := cell_ext y2 HE.out
        clear y0 y1 y2 hc
        obtain ⟨p0, hp0⟩ : ∃ p, p = pickF x0 3 := ⟨_, rfl⟩
        obtain ⟨p1, hp1⟩ : ∃ p, p = pickF (x0.tdiv 3) 9 := ⟨_, rfl⟩
        obtain ⟨p2, hp2⟩ : ∃ p, p = pickF x1 4 := ⟨_, rfl⟩
        obtain ⟨p3, hp3⟩ : ∃ p, p = pickF x1 10 := ⟨_, rfl⟩
        obtain ⟨p4, hp4⟩ : ∃ p, p = pickF x2 9 := ⟨_, rfl⟩
        obtain ⟨p5, hp5⟩ : ∃ p, p = pickF (x2.tdiv 9) 40 := ⟨_, rfl⟩
        have b0 := pickF_lt x0 3 (by omega)
        have b1 := pickF_lt (x0.tdiv 3) 9 (by omega)
        have b2 := pickF_lt x1 4 (by omega)
        have b3 := pickF_lt x1 10 (by omega)
        have b4 := pickF_lt x2 9 (by omega)
        have b5 := pickF_lt (x2.tdiv 9) 40 (by omega)
        have t3 := tdiv_in x0 3 (by omega) i0.1 i0.2
        have t9 := tdiv_in x2 9 (by omega) i2.1 i2.2
        have K0 := Lib.hid (fun W => pick_any x0 3 (by omega) (by omega) i0.1 i0.2 W)
        have K1 := Lib.hid (fun W => pick_any (x0.tdiv 3) 9 (by omega) (by omega) t3.1 t3.2 W)
        have K2 := Lib.hid (fun W => pick_any x1 4 (by omega) (by omega) i1.1 i1.2 W)
        have K3 := Lib.hid (fun W => pick_any x1 10 (by omega) (by omega) i1.1 i1.2 W)
        have K4 := Lib.hid (fun W => pick_any x2 9 (by omega) (by omega) i2.1 i2.2 W)
        have K5 := Lib.hid (fun W => pick_any (x2.tdiv 9) 40 (by omega) (by omega) t9.1 t9.2 W)
        rw [← hp0] at b0 K0
        rw [← hp1] at b1 K1
        rw [← hp2] at b2 K2
        rw [← hp3] at b3 K3
        rw [← hp4] at b4 K4
        rw [← hp5] at b5 K5
        have w3 : IntKind.i64.wrap (x0.tdiv 3) = x0.tdiv 3 := IntWalk.i64_in _ (by omega)
        have w9 : IntKind.i64.wrap (x2.tdiv 9) = x2.tdiv 9 := IntWalk.i64_in _ (by omega)
        have v1 : IntKind.i64.wrap (1 + p1) = 1 + p1 := IntWalk.i64_in _ (by omega)
        have v4 : IntKind.i64.wrap (1 + p4) = 1 + p4 := IntWalk.i64_in _ (by omega)
        have v5 : IntKind.i64.wrap (p5 - 20) = p5 - 20 := IntWalk.i64_in _ (by omega)
        have G0 := genC0_good p0 p1 b0 b1
        have G1 := genC1_good p0 p1 p3 p4 p5 b0 b1 b3 b4 b5
        have GG := Lib.hid (And.intro G0 G1)
        clear hp0 hp1 hp2 hp3 hp4 hp5 t3 t9 i0 i1 i2 b0 b1 b3 b4 b5 G0 G1
        have HK := Lib.hid (show wr.cell? ⟨b, off + k * 3, none⟩ = some (.int .i64 x0) ∧ wr.cell? ⟨b, off + k * 3 + 1, none⟩ = some (.int .i64 x1) ∧ wr.cell? ⟨b, off + k * 3 + 2, none⟩ = some (.int .i64 x2) from ⟨z0, z1, z2⟩)
        have q0 : (0 : Int) ≤ (k : Int) := by omega
        have q1 : (k : Int) < (T.length : Int) := by omega
        have q2 : (k : Int) < 6 := by omega
        obtain ⟨hs, hhs⟩ : ∃ h : Bool, h = decide (p2 > 0) := ⟨_, rfl⟩
        go_upto_region 5 with (fail)
        go_cut [5] from 7 to 104 (fun p W => ∃ bx, p = .pointer (some ⟨bx, 0, none⟩) ∧ wr.heap.size ≤ bx ∧ Blk W bx 75 (genC0 p0 (1 + p1) hs).arr ∧ Below wr.heap.size wr W)
        case first =>
          go_region_held3 (fun w' => w'.cell? ⟨b, off + k * 3, none⟩ = some (.int .i64 x0) ∧ w'.cell? ⟨b, off + k * 3 + 1, none⟩ = some (.int .i64 x1) ∧ w'.cell? ⟨b, off + k * 3 + 2, none⟩ = some (.int .i64 x2) ∧ Below wr.heap.size wr w')
            (first | with_reducible assumption | exact keepT HK.out (by repeat (first | with_reducible refine ext_alloc ?_ _ | with_reducible refine Below.drew ?_ | with_reducible assumption | with_reducible exact ext_refl _ | refine ext_set ?_ (Nat.le_refl _) _)))
            (first
              | (go_at_call 19; with_reducible refine (K0.out _).mono ?_; rintro e w' ⟨rfl, hw'⟩; subst w')
              | (go_at_call 19; with_reducible refine (K1.out _).mono ?_; rintro e w' ⟨rfl, hw'⟩; subst w')
              | (go_at_call 19; with_reducible refine (K2.out _).mono ?_; rintro e w' ⟨rfl, hw'⟩; subst w'))
          all_goals
            go_wp2_with fail
            go_meet
            case rel => exact ⟨_, rfl, by simp, by rw [hhs]; first | exact Blk.drew (Blk.new' _ _ _ (by simp)) | exact Blk.new' _ _ _ (by simp), by repeat (first | with_reducible refine ext_alloc ?_ _ | with_reducible refine Below.drew ?_ | with_reducible exact ext_refl _)⟩
        case rest =>
          obtain ⟨bx, rfl, hbx, hB, hE5⟩ := hcut
          have HB := Lib.hid hB
          have HE5 := Lib.hid hE5
          have a6 : wc.cell? ⟨bx, 6, none⟩ = some (.bool hs) := hB.cell 6
          clear hB hE5 K0 K1 K2 z0 z1 z2 hhs b2
          go_upto_if 40 with (fail)
          go_cut [5] from 7 to 104 (fun p W => p = .pointer (some ⟨bx, 0, none⟩) ∧ (∃ c, ChgG c ∧ Blk W bx 75 c.arr) ∧ Below wr.heap.size wr W)
          case first =>
            cases hs with
            | false =>
              go_wp2
              go_meet
              case rel => exact ⟨rfl, ⟨_, GG.out.1, HB.out⟩, HE5.out⟩
            | true =>
              have y0 := cell_ext HK.out.1 HE5.out
              have y1 := cell_ext HK.out.2.1 HE5.out
              have y2 := cell_ext HK.out.2.2 HE5.out
              have hB := HB.out
              have a7 : wc.cell? ⟨bx, 7, none⟩ = some (.int .i64 0) := hB.cell 7
              have a8 : wc.cell? ⟨bx, 8, none⟩ = some (.int .i64 0) := hB.cell 8
              have a9 : wc.cell? ⟨bx, 9, none⟩ = some (.int .i64 0) := hB.cell 9
              have f7 := hB.frozen 7
              have f8 := hB.frozen 8
              have f9 := hB.frozen 9
              clear hB
              go_upto_region 7 with (fail)
              go_region_held3 (fun w' => w'.cell? ⟨b, off + k * 3, none⟩ = some (.int .i64 x0) ∧ w'.cell? ⟨b, off + k * 3 + 1, none⟩ = some (.int .i64 x1) ∧ w'.cell? ⟨b, off + k * 3 + 2, none⟩ = some (.int .i64 x2) ∧ Below wr.heap.size wr w')
                (first | with_reducible assumption | exact keepT HK.out (by repeat (first | with_reducible refine ext_alloc ?_ _ | with_reducible refine Below.drew ?_ | with_reducible exact HE5.out | with_reducible assumption | with_reducible exact ext_refl _ | refine ext_set ?_ hbx _)))
                (first
                  | (go_at_call 19; with_reducible refine (K3.out _).mono ?_; rintro e w' ⟨rfl, hw'⟩; subst w')
                  | (go_at_call 19; with_reducible refine (K4.out _).mono ?_; rintro e w' ⟨rfl, hw'⟩; subst w')
                  | (go_at_call 19; with_reducible refine (K5.out _).mono ?_; rintro e w' ⟨rfl, hw'⟩; subst w'))
              all_goals
                go_wp2_with fail
                go_meet
                case rel => exact ⟨rfl, ⟨genC1 p0 (1 + p1) p3 (1 + p4) (p5 - 20), GG.out.2, Blk.drew (((HB.out.set_ 7 (.int .i64 p3)).set_ 8 (.int .i64 (1 + p4))).set_ 9 (.int .i64 (p5 - 20)))⟩, Below.drew (ext_set (ext_set (ext_set HE5.out hbx _) hbx _) hbx _)⟩
          case rest =>
            obtain ⟨rfl, ⟨d, hd, hB⟩, hE7⟩ := hcut
            have HD := Lib.hid hd
            have HB7 := Lib.hid hB
            have HE7 := Lib.hid hE7
            have HO7 := Lib.hid (own_ext HO.out hE7)
            have hd0 : wc.cell? ⟨bx, 0, none⟩ = some (.int .i64 d.t) := hB.cell 0
            have hd1 : wc.cell? ⟨bx, 1, none⟩ = some (.int .i64 d.k) := hB.cell 1
            clear hd hB hE7 HB HE5 a6 HO K3 K4 K5 HK GG w3 w9 v1 v4 v5
            go_upto_region 9 with (fail)
            go_cut [100] from 7 to 104 (fun t W => t = .bool (behind l d) ∧ Below wc.heap.size wc W)
            case first =>
              by_cases hl0 : l.length = 0
              · have hl : l = [] := List.length_eq_zero_iff.1 hl0
                have g0 : ((l.length : Int) == 0) = true := by rw [hl0]; rfl
                go_quiet (fail)
                go_wp2
                go_meet
                case rel => exact ⟨by rw [hl]; rfl, by repeat (first | with_reducible refine Below.drew ?_ | with_reducible refine ext_drewN ?_ _ | with_reducible exact ext_refl _)⟩
              · obtain ⟨n, hn⟩ : ∃ n, l.length = n + 1 := ⟨l.length - 1, by omega⟩
                obtain ⟨a, ha⟩ : ∃ a, l[n]? = some a := ⟨_, List.getElem?_eq_getElem (by omega)⟩
                obtain ⟨g, cg, hv, hgw, hcl, hgb⟩ := ownChg HO7.out (by omega)
                injection hv with hv _ hv2
                subst hv hv2
                have c0 : wc.cell? ⟨g, n * 10, none⟩ = some (.int .i64 a.t) := hgb.cell ha 0 (by omega)
                have c1 : wc.cell? ⟨g, n * 10 + 1, none⟩ = some (.int .i64 a.k) := hgb.cell ha 1 (by omega)
                have hl1 : (l.length : Int) - 1 = (n : Int) := by omega
                have hw : IntKind.i64.wrap ((l.length : Int) - 1) = (n : Int) := by rw [hl1]; exact IntWalk.i64_in _ (by omega)
                have g0 : ((l.length : Int) == 0) = false := by rw [beq_eq_false_iff_ne]; omega
                have g1 : (n : Int) < (l.length : Int) := by omega
                have g2 : (0 : Int) ≤ (n : Int) := by omega
                have hbe : behind l d = (decide (a.t < d.t) || ((a.t == d.t) && decide (a.k < d.k))) := by
                  unfold behind
                  rw [List.getLast?_eq_getElem?, show l.length - 1 = n by omega, ha]
                have HBE := Lib.hid hbe
                clear hgb hgw hcl hbe hn hl1 hl0
                by_cases d1 : a.t < d.t
                · have e1 : decide (a.t < d.t) = true := by simp [d1]
                  go_quiet (fail)
                  go_wp2
                  go_meet
                  case rel => exact ⟨by rw [HBE.out, e1]; rfl, by repeat (first | with_reducible refine Below.drew ?_ | with_reducible refine ext_drewN ?_ _ | with_reducible exact ext_refl _)⟩
                · have e1 : decide (a.t < d.t) = false := by simp [d1]
                  by_cases d2 : a.t = d.t
                  · have e3 : (a.t == d.t) = true := by simp [d2]
                    by_cases d3 : a.k < d.k
                    · have e4 : decide (a.k < d.k) = true := by simp [d3]
                      go_quiet (fail)
                      go_wp2
                      go_meet
                      case rel => exact ⟨by rw [HBE.out, e1, e3, e4]; rfl, by repeat (first | with_reducible refine Below.drew ?_ | with_reducible refine ext_drewN ?_ _ | with_reducible exact ext_refl _)⟩
                    · have e4 : decide (a.k < d.k) = false := by simp [d3]
                      go_quiet (fail)
                      go_wp2
                      go_meet
                      case rel => exact ⟨by rw [HBE.out, e1, e3, e4]; rfl, by repeat (first | with_reducible refine Below.drew ?_ | with_reducible refine ext_drewN ?_ _ | with_reducible exact ext_refl _)⟩
                  · have e3 : (a.t == d.t) = false := by simp [d2]
                    go_quiet (fail)
                    go_wp2
                    go_meet
                    case rel => exact ⟨by rw [HBE.out, e1, e3]; rfl, by repeat (first | with_reducible refine Below.drew ?_ | with_reducible refine ext_drewN ?_ _ | with_reducible exact ext_refl _)⟩
            case rest =>
              obtain ⟨rfl, hE8⟩ := hcut
              have HE8 := Lib.hid (ext_call (ext_call HE.out HE7.out) hE8)
              have HB8 := Lib.hid (HB7.out.ext hE8)
              have HO8 := Lib.hid (own_ext HO7.out hE8)
              clear hE8 HE7 HB7 HO7 hd0 hd1
              cases hbe : behind l d with
              | false =>
                go_wp2
                go_roundw
                case rel => exact ⟨k + 1, l, by omega, by omega, by omega, by go_num, HO8.out, HG.out, HNIL.out, HE8.out⟩
                case measure => simp [intOf]; omega
              | true =>
                have HG2 := Lib.hid (HG.out.push HD.out hbe (by omega))
                obtain ⟨happ, W', hW', v', hv', ho', hg'⟩ := appChg wc w.heap.size HE8.out.size _ l HO8.out (by omega) d
                have hown := own_low HO8.out
                have HEA := Lib.hid (ext_alloc HE8.out (.cells d.arr 75))
                have HE9 := Lib.hid (HEA.out.grown hg' HEA.out.size hown)
                have HO9 := Lib.hid ho'
                obtain ⟨A9, c9, rfl⟩ := own_shape ho'
                clear hown HEA ho' hg' hbe
                obtain ⟨d0, d1, d2, d3, d4, d5, d6, d7, d8, d9⟩ := d
                dsimp only [ChgT.arr] at happ hW' hv'
                have hB := HB8.out
                have a0 : wc.cell? ⟨bx, 0, none⟩ = some (.int .i64 d0) := hB.cell 0
                have a1 : wc.cell? ⟨bx, 1, none⟩ = some (.int .i64 d1) := hB.cell 1
                have a2 : wc.cell? ⟨bx, 2, none⟩ = some (.bool d2) := hB.cell 2
                have a3 : wc.cell? ⟨bx, 3, none⟩ = some (.int .i64 d3) := hB.cell 3
                have a4 : wc.cell? ⟨bx, 4, none⟩ = some (.int .i64 d4) := hB.cell 4
                have a5 : wc.cell? ⟨bx, 5, none⟩ = some (.int .i64 d5) := hB.cell 5
                have a6 : wc.cell? ⟨bx, 6, none⟩ = some (.bool d6) := hB.cell 6
                have a7 : wc.cell? ⟨bx, 7, none⟩ = some (.int .i64 d7) := hB.cell 7
                have a8 : wc.cell? ⟨bx, 8, none⟩ = some (.int .i64 d8) := hB.cell 8
                have a9 : wc.cell? ⟨bx, 9, none⟩ = some (.int .i64 d9) := hB.cell 9
                clear hB
                go_wp2
                go_roundw
                case rel => exact ⟨k + 1, l ++ [⟨d0, d1, d2, d3, d4, d5, d6, d7, d8, d9⟩], by omega, by omega, by simp; omega, by go_num, (by have h9 := HO9.out; rw [show ∀ x : ChgT, (l ++ [x]).length = l.length + 1 from fun _ => by simp]; exact h9), HG2.out, fun h => by simp at h, HE9.out⟩
                case measure => simp [intOf]; omega
      · have d1 : decide ((k : Int) < (T.length : Int)) = true := by simp; omega
        have d2 : decide ((k : Int) < 6) = false := by simp; omega
        go_wp2
        go_ret
        exact ⟨_, l, rfl, own_chgs HO.out HNIL.out, HG.out, HNIL.out, HE.out⟩
    · have d1 : decide ((k : Int) < (T.length : Int)) = false := by simp; omega
      go_wp2
      go_ret
      exact ⟨_, l, rfl, own_chgs HO.out HNIL.out, HG.out, HNIL.out, HE.out⟩

end Go.Proofs.YtbgfmbmcabekeaaGreatDoor

/-
  package cachetierlaw27: built.
-/
namespace Go.Proofs.YtbgfmbmcabekeaaGreatDoor
open Go.RowKit Go.Shelf
attribute [local go_sem ↓] Go.wp_at_zero Go.wp_at_succ

/-- rows of rows of three integers in memory -/
def TabAt (w : World) (v : Value) (X : List (List (Int × Int × Int))) : Prop :=
  ∃ A c, v = .slice A X.length c ∧ (0 < X.length → ∃ b off, A = some ⟨b, off, none⟩ ∧ ∀ (j : Nat) (T : List (Int × Int × Int)), X[j]? = some T → ∃ u, w.cell? ⟨b, off + j, none⟩ = some u ∧ TripsAt w u T)

end Go.Proofs.YtbgfmbmcabekeaaGreatDoor

/-
  package logtree: Record at any log; package origin: records as an iterator of any number of rounds.
-/
namespace Go.Proofs.YtbgfmbmcabekeaaGreatDoor
open Go.RowKit Go.Shelf
attribute [local go_sem] Oper.semAt_some

/-- the cells of an own row -/
theorem own_cells {W : World} {B e sz n : Nat} {v : Value} {xs : List Value} (h : W.ownsRow B e sz v n xs) (h0 : 0 < n) : ∃ g cap, v = .slice (some ⟨g, 0, none⟩) n cap ∧ B ≤ g ∧ g < W.heap.size ∧ n ≤ cap ∧ ∀ (i : Nat) (u : Value), xs[i]? = some u → W.cell? ⟨g, i, none⟩ = some u := by
  obtain ⟨_, h2⟩ := h
  rcases h2 with ⟨_, h3⟩ | ⟨g, cap, cur, h3, h4, h5, h6, _, h8, h9⟩
  · omega
  refine ⟨g, cap, h3, h4, (Array.getElem?_eq_some_iff.1 h5).1, h6, fun i u hu => ?_⟩
  have hb : Blk W g e cur := h5
  rw [hb.cell]
  rw [← h9, List.getElem?_take] at hu
  split at hu
  · simpa using hu
  · cases hu

set_option maxRecDepth 100000 in
set_option maxHeartbeats 1000000 in
theorem logRecordG (B gl : Nat) (rv hv : Value) (R : List (List ChgT × Nat × Nat)) (H : List (ByteArray × ByteArray)) (w : World) (h : LogG B w gl rv hv R H) (hG : ∀ x ∈ R, GoodL x.1) (hR : R.length ≤ 1000) (p : Nat) (hp : 1 ≤ p) (y : List ChgT × Nat × Nat) (hy : R[p - 1]? = some y) :
    Calls Tryz.prog 96 #[.pointer (some ⟨gl, 0, none⟩), .int .i64 (p : Int)] w
    fun e w' => ∃ g d, e = .returned (.tuple #[.agg #[.int .i64 (p : Int), .slice (some ⟨g, 0, none⟩) y.1.length d], .bool true]) ∧ w.heap.size ≤ g ∧ y.1.length ≤ d ∧ ChgB w' g y.1 ∧ Below w.heap.size w w' := by
  have hpl := (List.getElem?_eq_some_iff.1 hy).1
  obtain ⟨q, rfl⟩ : ∃ q, p = q + 1 := ⟨p - 1, by omega⟩
  rw [Nat.add_sub_cancel] at hy hpl
  have hmem := List.mem_of_getElem? hy
  have hc := h.chg y hmem
  have hg := hG y hmem
  have hl0 : 0 < y.1.length := by
    have h1 := hg.turns
    unfold validF at h1
    cases hh : y.1 with
    | nil => rw [hh] at h1; simp at h1
    | cons a r => simp
  have hl8 := hg.ok.few
  obtain ⟨gr, cr, rfl, _, hgr, hcr, hcell⟩ := own_cells h.recs (by omega)
  obtain ⟨r0, r1⟩ := rcF_at R 0 q y hy
  have r0 := hcell _ _ r0
  have r1 := hcell _ _ r1
  rw [Nat.zero_add] at r0
  obtain ⟨X, hX⟩ : ∃ X, X = w.alloc (.cells #[.int .i64 0, .slice none 0 0] 46) := ⟨_, rfl⟩
  have HX := Lib.hid hX
  have HE := Lib.hid (show Below w.heap.size w X by rw [hX]; exact ext_new _ _)
  have HR := Lib.hid (show Blk X w.heap.size 46 #[.int .i64 0, .slice none 0 0] by rw [hX]; exact Blk.new _ _ _)
  have c0 := (h.log.ext HE.out).cell 0
  have r0 := cell_ext r0 HE.out
  have r1 := cell_ext r1 HE.out
  have HC := Lib.hid (fun W (k : Below X.heap.size X W) => logOwnG ((q : Int) + 1) y.1 (.slice (some ⟨y.2.1, 0, none⟩) y.1.length y.2.2) W (((hc.1.ext HE.out).ext k).at_ hc.2) hl0 hl8)
  have hgl := h.log.lt
  have HLC := Lib.hid (fun W (k : Below X.heap.size X W) => logLenC gl R.length cr _ W (cell_ext ((h.log.ext HE.out).cell 0) k))
  have e1 : IntKind.i64.wrap (((q + 1 : Nat) : Int) - 1) = (q : Int) := by rw [show ((q + 1 : Nat) : Int) - 1 = (q : Int) by omega]; exact IntWalk.i64_in _ (by omega)
  have d1 : decide (((q + 1 : Nat) : Int) < 1) = false := by simp; omega
  have d2 : decide (((q + 1 : Nat) : Int) > (R.length : Int)) = false := by simp; omega
  have d3 : decide ((R.length : Int) < ((q + 1 : Nat) : Int)) = false := by simp; omega
  have q0 : (0 : Int) ≤ (q : Int) := by omega
  have q1 : (q : Int) < (R.length : Int) := by omega
  have e2 : ((q + 1 : Nat) : Int) = (q : Int) + 1 := by omega
  rw [e2] at e1 d1 d2 d3 ⊢
  clear hX h hc hg hy hcell e2 hpl hp hmem hG
  obtain ⟨ly, gy, dy⟩ := y
  dsimp only at *
  go_enter Tryz.func96, Tryz.ntmps96
  go_upto_region 1 with (fail)
  rw [← HX.out]
  go_wp2_with (go_at_call 44; refine (HLC.out _ (ext_refl _)).mono ?_; rintro e w' ⟨rfl, hw'⟩; subst w')
  refine (HC.out X (ext_refl X)).mono ?_
  rintro e W1 ⟨g2, d2', rfl, hgg, hd, hb, hb1⟩
  have HB1 := Lib.hid hb
  have HE1 := Lib.hid (ext_call HE.out hb1)
  have HR1 := Lib.hid (HR.out.ext hb1)
  have hg2 : g2 ≠ w.heap.size := by have := HR.out.lt; omega
  have hgw : w.heap.size ≤ g2 := Nat.le_trans HE.out.size hgg
  clear hb hb1 c0 r0 r1
  have z0 := HR1.out.cell 0; have z1 := HR1.out.cell 1
  have f0 := HR1.out.frozen 0
  have f1 := HR1.out.frozen 1
  go_wp2
  have hBf := (HR1.out.set_ 0 (.int .i64 ((q : Int) + 1))).set_ 1 (.slice (some ⟨g2, 0, none⟩) ly.length d2')
  have y0 := hBf.cell 0; have y1 := hBf.cell 1
  refine bodyPost_ret (v := .tuple #[.agg #[.int .i64 ((q : Int) + 1), .slice (some ⟨g2, 0, none⟩) ly.length d2'], .bool true]) (by simp [results, Tryz.results96, go_sem, y0, y1]) rfl ⟨g2, d2', rfl, hgw, hd, ?_, ?_⟩
  · exact (HB1.out.far (p := ⟨w.heap.size, 0, none⟩) hg2 _).far (p := ⟨w.heap.size, 1, none⟩) hg2 _
  · exact ext_set (ext_set HE1.out (Nat.le_refl _) _) (Nat.le_refl _) _

end Go.Proofs.YtbgfmbmcabekeaaGreatDoor

/-
  package origin: records as an iterator of any number of rounds.
-/
namespace Go.Proofs.YtbgfmbmcabekeaaGreatDoor
open Go.RowKit Go.Shelf
attribute [local go_sem] Oper.semAt_some

/-- what the iterator of records reads -/
structure RecG (B gs gl b1 b2 b3 first last : Nat) (rv hv : Value) (R : List (List ChgT × Nat × Nat)) (H : List (ByteArray × ByteArray)) (W : World) : Prop where
  one : Blk W b1 3 #[.int .i64 (first : Int)]
  two : Blk W b2 3 #[.int .i64 (last : Int)]
  srv : Blk W b3 25 #[.pointer (some ⟨gs, 0, none⟩)]
  gs : W.cell? ⟨gs, 0, none⟩ = some (.pointer (some ⟨gl, 0, none⟩))
  recs : LogG B W gl rv hv R H
theorem RecG.ext {B gs gl b1 b2 b3 first last : Nat} {rv hv : Value} {R : List (List ChgT × Nat × Nat)} {H : List (ByteArray × ByteArray)} {w W : World} (h : RecG B gs gl b1 b2 b3 first last rv hv R H w) (k : Below w.heap.size w W) : RecG B gs gl b1 b2 b3 first last rv hv R H W :=
  ⟨h.one.ext k, h.two.ext k, h.srv.ext k, cell_ext h.gs k, h.recs.ext k⟩
/-- a record's value: its position, how many changes, where they lie, their capacity -/
def recN (x : Nat × Nat × Nat × Nat) : Array Value := #[.int .i64 (x.1 : Int), .slice (some ⟨x.2.2.1, 0, none⟩) x.2.1 x.2.2.2]
structure RecMG (first : Nat) (R : List (List ChgT × Nat × Nat)) (k : Nat) (x : Nat × Nat × Nat × Nat) (W : World) : Prop where
  pos : x.1 = first + k
  at_ : ∃ y, R[first + k - 1]? = some y ∧ x.2.1 = y.1.length ∧ ChgB W x.2.2.1 y.1 ∧ y.1.length ≤ x.2.2.2
/-- how many records lie between two positions -/
def nRec (first last n : Nat) : Nat := min last n + 1 - first

set_option maxRecDepth 100000 in
set_option maxHeartbeats 4000000 in
theorem recordsG_in (n : Nat) (hn : 1 ≤ n) (l B gs gl b1 b2 b3 first last : Nat) (hf : 1 ≤ first) (hf2 : first ≤ 1000) (rv hv : Value) (R : List (List ChgT × Nat × Nat)) (H : List (ByteArray × ByteArray)) (hR : R.length ≤ 1000) (hG : ∀ x ∈ R, GoodL x.1)
    (J : Nat → World → Prop) (hC : ∀ k W, J k W → RecG B gs gl b1 b2 b3 first last rv hv R H W) (hA : ∀ k A B, J k A → Below A.heap.size A B → J k B)
    (hY : ∀ k xs W1, k < nRec first last R.length → J k W1 → (∃ x, xs = #[.agg (recN x)] ∧ RecMG first R k x W1) → YieldAt Fence.wide (n - 1) Tryz.prog l xs W1 fun e W' => e = .returned (.bool true) ∧ J (k + 1) W')
    (W : World) (h0 : J 0 W) :
    CallsIn Fence.wide n Tryz.prog 95 #[.func (.yield l) #[] #[], .pointer (some ⟨b1, 0, none⟩), .pointer (some ⟨b2, 0, none⟩), .pointer (some ⟨b3, 0, none⟩)] W (RecPost J (nRec first last R.length)) := by
  have HC := Lib.hid hC
  have HA := Lib.hid hA
  have HY := Lib.hid hY
  have H0 := Lib.hid h0
  have R0 := Lib.hid (hC 0 W h0)
  have HG := Lib.hid hG
  have hmx : max (first : Int) 1 = (first : Int) := by omega
  obtain ⟨m, hm⟩ : ∃ m, m = min last R.length := ⟨_, rfl⟩
  have hmn : min (last : Int) (R.length : Int) = (m : Int) := by omega
  have HN := Lib.hid (show nRec first last R.length = m + 1 - first by unfold nRec; rw [hm])
  have hmR : m ≤ R.length := by omega
  clear hC hA hY h0 hG hm
  have a1 := R0.out.one.cell 0
  refine callsIn_of_wp Tryz.func95 rfl trivial ?_ rfl
  simp only [Tryz.ntmps95, List.size_toArray, List.length_cons, List.length_nil, Nat.reduceAdd, Nat.reduceSub, Array.replicate_succ, Array.replicate_zero, List.push_toArray, List.append_toArray, List.nil_append, List.cons_append]
  gi_wp2
  gi_loopw [5, 6, 7] (fun i _ _ wr => ∃ p : Nat, first ≤ p ∧ (p = first ∨ p ≤ m + 1) ∧ i = .int .i64 (p : Int) ∧ J (p - first) wr) (fun i _ _ _ => m + 1 - (intOf i).toNat)
  case atStart => exact ⟨first, Nat.le_refl _, .inl rfl, rfl, by rw [Nat.sub_self]; exact H0.out⟩
  case round =>
    obtain ⟨p, hp1, hp2, rfl, hJ⟩ := hrel
    have HJ := Lib.hid hJ
    have RJ := Lib.hid (HC.out _ _ hJ)
    clear hJ R0 H0 a1
    have hLOG := RJ.out.recs
    obtain ⟨Ar, cr, hrv⟩ := own_shape hLOG.recs
    have HQ := Lib.hid (fun X (k : Below wr.heap.size wr X) => srvPos gs gl R.length cr Ar hv X (cell_ext RJ.out.gs k) (by have h9 := (RJ.out.recs.ext k).log; rw [hrv] at h9; exact h9))
    clear hLOG hrv
    have a2 := RJ.out.two.cell 0
    have a3 := RJ.out.srv.cell 0
    have e2 : IntKind.i64.wrap ((p : Int) + 1) = (p : Int) + 1 := IntWalk.i64_in _ (by omega)
    by_cases hlt : p ≤ m
    · have d1 : decide ((p : Int) ≤ (m : Int)) = true := by simp; omega
      have q1 : (p : Int) ≤ (m : Int) := by omega
      have hpR : p - 1 < R.length := by omega
      obtain ⟨y, hy⟩ : ∃ y, R[p - 1]? = some y := ⟨R[p - 1], List.getElem?_eq_getElem hpR⟩
      have hy2 : R[first + (p - first) - 1]? = some y := by rw [show first + (p - first) - 1 = p - 1 by omega]; exact hy
      have hk : p - first < nRec first last R.length := by rw [HN.out]; omega
      have HP := Lib.hid (show first ≤ p ∧ p ≤ m from ⟨hp1, hlt⟩)
      gi_wp2
      gi_region_with (refine ⟨trivial, (callsIn_wide.2 (HQ.out _ (by first | exact ext_refl wr | exact (ext_refl wr).drew))).mono ?_⟩; rintro e W2 ⟨rfl, hw2⟩; subst W2)
      all_goals
        obtain ⟨V, hV⟩ : ∃ V, V = wr.drew := ⟨_, rfl⟩
        rw [← hV]
        have HEV := Lib.hid (show Below wr.heap.size wr V by rw [hV]; exact (ext_refl wr).drew)
        have RV := Lib.hid (RJ.out.ext HEV.out)
        clear hV a2 a3
        have a3 := RV.out.srv.cell 0
        have s0 := RV.out.gs
        gi_wp2_with fail
        refine ⟨trivial, (callsIn_wide.2 (logRecordG B gl rv hv R H V RV.out.recs HG.out hR p (by omega) y hy)).mono ?_⟩
        rintro e W1 ⟨g, d, rfl, _, hd, hg, hb1⟩
        obtain ⟨W2, hW2⟩ : ∃ W2, W2 = W1.alloc (.cells #[.int .i64 (p : Int), .slice (some ⟨g, 0, none⟩) y.1.length d] 46) := ⟨_, rfl⟩
        have HW2 := Lib.hid hW2
        have HE2 := Lib.hid (show Below wr.heap.size wr W2 by rw [hW2]; exact ext_alloc (ext_call HEV.out hb1) _)
        have HG2 := Lib.hid (show ChgB W2 g y.1 by rw [hW2]; exact hg.ext (ext_new _ _))
        clear hb1 hg hW2 a3 s0
        obtain ⟨fn, tmps, assign, body, hyy, hRun⟩ := HY.out (p - first) #[.agg #[.int .i64 (p : Int), .slice (some ⟨g, 0, none⟩) y.1.length d]] W2 hk (HA.out _ _ _ HJ.out HE2.out) ⟨(p, y.1.length, g, d), rfl, ⟨by show p = _; omega, y, hy2, rfl, HG2.out, hd⟩⟩
        gi_wp2_with fail
        rw [← HW2.out, hyy]
        gi_wp2
        refine hRun.mono ?_
        rintro e W3 ⟨rfl, hJ3⟩
        have HJ3 := Lib.hid hJ3
        clear hJ3 hRun hyy HW2
        gi_wp2
        go_roundw
        case rel => exact ⟨p + 1, by have := HP.out; omega, .inr (by have := HP.out; omega), by go_num, by rw [show p + 1 - first = p - first + 1 by have := HP.out; omega]; exact HJ3.out⟩
        case measure => have := HP.out; simp [intOf]; omega
    · have d1 : decide ((p : Int) ≤ (m : Int)) = false := by simp; omega
      have q1 : ¬ (p : Int) ≤ (m : Int) := by omega
      have hk : p - first = nRec first last R.length := by rw [HN.out]; omega
      gi_wp2
      gi_region_with (refine ⟨trivial, (callsIn_wide.2 (HQ.out _ (by first | exact ext_refl wr | exact (ext_refl wr).drew))).mono ?_⟩; rintro e W2 ⟨rfl, hw2⟩; subst W2)
      all_goals
        gi_wp2
        refine bodyPost_ret (results_none rfl _ _ _) rfl ⟨⟨_, rfl⟩, ?_⟩
        rw [← hk]
        exact HA.out _ _ _ HJ.out (ext_refl wr).drew

theorem recordsG_seq (n : Nat) (hn : 1 ≤ n) (B gs gl b1 b2 b3 first last : Nat) (hf : 1 ≤ first) (hf2 : first ≤ 1000) (rv hv : Value) (R : List (List ChgT × Nat × Nat)) (H : List (ByteArray × ByteArray)) (hR : R.length ≤ 1000) (hG : ∀ x ∈ R, GoodL x.1) :
    SeqMem n Tryz.prog 95 #[.pointer (some ⟨b1, 0, none⟩), .pointer (some ⟨b2, 0, none⟩), .pointer (some ⟨b3, 0, none⟩)] (nRec first last R.length) (RecG B gs gl b1 b2 b3 first last rv hv R H) (fun k xs W => ∃ x, xs = #[.agg (recN x)] ∧ RecMG first R k x W) :=
  fun l J W hC hA hY h0 => recordsG_in n hn l B gs gl b1 b2 b3 first last hf hf2 rv hv R H hR hG J hC hA hY W h0

end Go.Proofs.YtbgfmbmcabekeaaGreatDoor

/-
  What stays when memory grows: logs, records; package origin: Records at one position of any log.
-/
namespace Go.Proofs.YtbgfmbmcabekeaaGreatDoor
open Go.RowKit Go.Shelf
attribute [local go_sem] Oper.semAt_some
attribute [local go_sem ↓] Go.wp_at_zero Go.wp_at_succ

section
variable {X Y : World} {row : Option Nat}
theorem ChgB.kept {g : Nat} {l : List ChgT} (h : ChgB X g l) (hg : X.grownBy Y row) (hr : ∀ r, row = some r → ∃ o : Obj, X.heap[r]? = some o ∧ o.isCells = false) : ChgB Y g l := by
  obtain ⟨cur, h1, h2⟩ := h
  exact ⟨cur, blk_kept h1 hg hr, h2⟩
theorem LogG.kept {B gl : Nat} {rv hv : Value} {R : List (List ChgT × Nat × Nat)} {H : List (ByteArray × ByteArray)} (h : LogG B X gl rv hv R H) (hg : X.grownBy Y row) (hr : ∀ r, row = some r → ∃ o : Obj, X.heap[r]? = some o ∧ o.isCells = false) : LogG B Y gl rv hv R H :=
  ⟨blk_kept h.log hg hr, own_keptP h.recs hg hr, own_keptP h.heads hg hr, fun x hx => ⟨(h.chg x hx).1.kept hg hr, (h.chg x hx).2⟩, h.len, h.sizes⟩
theorem RecG.kept {B gs gl b1 b2 b3 first last : Nat} {rv hv : Value} {R : List (List ChgT × Nat × Nat)} {H : List (ByteArray × ByteArray)} (h : RecG B gs gl b1 b2 b3 first last rv hv R H X) (hg : X.grownBy Y row) (hr : ∀ r, row = some r → ∃ o : Obj, X.heap[r]? = some o ∧ o.isCells = false) : RecG B gs gl b1 b2 b3 first last rv hv R H Y :=
  ⟨blk_kept h.one hg hr, blk_kept h.two hg hr, blk_kept h.srv hg hr, cell_kept h.gs hg hr, h.recs.kept hg hr⟩
theorem RecMG.kept {first k : Nat} {R : List (List ChgT × Nat × Nat)} {x : Nat × Nat × Nat × Nat} (h : RecMG first R k x X) (hg : X.grownBy Y row) (hr : ∀ r, row = some r → ∃ o : Obj, X.heap[r]? = some o ∧ o.isCells = false) : RecMG first R k x Y := by
  obtain ⟨y, h1, h2, h3, h4⟩ := h.at_
  exact ⟨h.pos, y, h1, h2, h3.kept hg hr, h4⟩
end
theorem RecMG.ext {w W : World} {first k : Nat} {R : List (List ChgT × Nat × Nat)} {x : Nat × Nat × Nat × Nat} (h : RecMG first R k x w) (e : Below w.heap.size w W) : RecMG first R k x W := by
  obtain ⟨y, h1, h2, h3, h4⟩ := h.at_
  exact ⟨h.pos, y, h1, h2, h3.ext e, h4⟩
theorem RecMG.ne {W : World} {first k b : Nat} {R : List (List ChgT × Nat × Nat)} {x : Nat × Nat × Nat × Nat} {t : TypeId} {cs : Array Value} (h : RecMG first R k x W) (hb : Blk W b t cs) (ht : 75 ≠ t) : x.2.2.1 ≠ b := by
  obtain ⟨y, h1, h2, ⟨cur, h3, _⟩, h4⟩ := h.at_
  exact blk_ne h3 hb ht
theorem RecMG.far {W : World} {first k : Nat} {R : List (List ChgT × Nat × Nat)} {x : Nat × Nat × Nat × Nat} (h : RecMG first R k x W) {p : Addr} (hp : x.2.2.1 ≠ p.block) (u : Value) : RecMG first R k x (W.setCell p u) := by
  obtain ⟨y, h1, h2, h3, h4⟩ := h.at_
  exact ⟨h.pos, y, h1, h2, h3.far hp u, h4⟩

/-- what is known of the collected list -/
def ColG (w : World) (bs B gs gl b1 b2 b3 p : Nat) (rv hv : Value) (R : List (List ChgT × Nat × Nat)) (H : List (ByteArray × ByteArray)) : Nat → World → Prop
  | 0, W => Below w.heap.size w W ∧ RecG B gs gl b1 b2 b3 p p rv hv R H W ∧ Blk W bs 53 #[.slice none 0 0]
  | _ + 1, W => Below w.heap.size w W ∧ RecG B gs gl b1 b2 b3 p p rv hv R H W ∧ ∃ g c x, Blk W bs 53 #[.slice (some ⟨g, 0, none⟩) 1 c] ∧ 1 ≤ c ∧ HeadB W g (recN x) ∧ RecMG p R 0 x W
theorem ColG.own (w : World) (bs B' gs gl b1 b2 b3 p : Nat) (rv hv : Value) (R : List (List ChgT × Nat × Nat)) (H : List (ByteArray × ByteArray)) (k B : Nat) (hB : w.heap.size ≤ B) : OwnP B (ColG w bs B' gs gl b1 b2 b3 p rv hv R H k) := fun _ X Y row hs hg hr => by
  have hr' : ∀ r, row = some r → ∃ o : Obj, X.heap[r]? = some o ∧ o.isCells = false := fun r e => (hr r e).2
  cases k with
  | zero => exact ⟨OwnP.below (B := B) (Nat.le_refl _) hB () X Y row hs.1 hg hr, hs.2.1.kept hg hr', blk_kept hs.2.2 hg hr'⟩
  | succ k =>
    obtain ⟨h1, h2, g, c, x, h3, h4, h5, h6⟩ := hs
    exact ⟨OwnP.below (B := B) (Nat.le_refl _) hB () X Y row h1 hg hr, h2.kept hg hr', g, c, x, blk_kept h3 hg hr', h4, headB_kept h5 hg hr', h6.kept hg hr'⟩

end Go.Proofs.YtbgfmbmcabekeaaGreatDoor

/-
  package origin: copies at any log.
-/
namespace Go.Proofs.YtbgfmbmcabekeaaGreatDoor
open Go.RowKit Go.Shelf

/-- the message with a record to a node -/
def msgN (tn : Int) (x : Nat × Nat × Nat × Nat) : Array Value := #[.int .i64 1, .int .i64 100, .int .i64 tn, .int .i64 0, .int .i64 0, .int .i64 0, .int .i64 0, .int .i64 0, .int .i64 0, .int .i64 0, .int .i64 0, .int .i64 0, .int .i64 0, .int .i64 0, .int .i64 0, .int .i64 0, .int .i64 0, .int .i64 (x.1 : Int), .slice (some ⟨x.2.2.1, 0, none⟩) x.2.1 x.2.2.2, .int .i64 0, .int .i64 0, .int .i64 0, .int .i64 0, .int .i64 0, .int .i64 0, .int .i64 0, .int .i64 0, .int .i64 0, .slice none 0 0, .int .i64 0, .int .i64 0, .int .i64 0, .int .i64 0, .int .i64 0, .int .i64 0, .int .i64 0, .slice none 0 0, .int .i64 0, .bool false, .int .i64 0, .int .i64 0, .int .i64 0, .slice none 0 0, .slice none 0 0, .int .i64 0, .slice none 0 0, .slice none 0 0]
def mcN (tn : Int) (xs : List (Nat × Nat × Nat × Nat)) : List Value := xs.flatMap fun x => (msgN tn x).toList
theorem Blk.extS {S : Nat → Prop} {W W' : World} {g : Nat} {t : TypeId} {cs : Array Value} (h : Blk W g t cs) (k : ExtS S W W') (hn : ¬ S g) : Blk W' g t cs := ExtS.blk h k hn
theorem own_isCells {W : World} {B sz n : Nat} {e : TypeId} {v : Value} {xs : List Value} (h : W.ownsRow B e sz v n xs) : ∀ (j : Nat) (o : Obj), v.ownBlock = some j → W.heap[j]? = some o → o.isCells = true := by
  intro j o hj ho
  rcases h.2 with ⟨h1, _⟩ | ⟨g, cap, cur, h1, _, h3, _⟩
  · rw [h1] at hj; cases hj
  · rw [h1] at hj
    have e : g = j := Option.some.inj hj
    subst e
    rw [h3] at ho
    cases ho
    rfl
theorem RecMG.blk {W : World} {first k : Nat} {R : List (List ChgT × Nat × Nat)} {x : Nat × Nat × Nat × Nat} (h : RecMG first R k x W) : ∃ cur, Blk W x.2.2.1 75 cur := by
  obtain ⟨y, h1, h2, ⟨cur, h3, _⟩, h4⟩ := h.at_
  exact ⟨cur, h3⟩
theorem RecMG.extS {S : Nat → Prop} {W W' : World} {first k : Nat} {R : List (List ChgT × Nat × Nat)} {x : Nat × Nat × Nat × Nat} (h : RecMG first R k x W) (e : ExtS S W W') (hn : ¬ S x.2.2.1) : RecMG first R k x W' := by
  obtain ⟨y, h1, h2, ⟨cur, h3, h4⟩, h5⟩ := h.at_
  exact ⟨h.pos, y, h1, h2, ⟨cur, h3.extS e hn, h4⟩, h5⟩

/-- what is known of the copies -/
structure CopG (w : World) (bt bo B gs gl b1 b2 b3 first last : Nat) (rv hv : Value) (R : List (List ChgT × Nat × Nat)) (H : List (ByteArray × ByteArray)) (tn : Int) (k : Nat) (W : World) : Prop where
  ext : Below w.heap.size w W
  rec_ : RecG B gs gl b1 b2 b3 first last rv hv R H W
  to_ : Blk W bt 3 #[.int .i64 tn]
  out : ∃ v xs, xs.length = k ∧ Blk W bo 39 #[v] ∧ W.ownsRow w.heap.size 57 47 v k (mcN tn xs) ∧ (k = 0 → v = .slice none 0 0) ∧ ∀ (i : Nat) (x : Nat × Nat × Nat × Nat), xs[i]? = some x → RecMG first R i x W
theorem CopG.own (w : World) (bt bo B' gs gl b1 b2 b3 first last : Nat) (rv hv : Value) (R : List (List ChgT × Nat × Nat)) (H : List (ByteArray × ByteArray)) (tn : Int) (k B : Nat) (hB : w.heap.size ≤ B) : OwnP B (CopG w bt bo B' gs gl b1 b2 b3 first last rv hv R H tn k) := fun _ X Y row hs hg hr => by
  have hr' : ∀ r, row = some r → ∃ o : Obj, X.heap[r]? = some o ∧ o.isCells = false := fun r e => (hr r e).2
  obtain ⟨v, xs, h0, h1, h2, hz, h3⟩ := hs.out
  exact ⟨OwnP.below (B := B) (Nat.le_refl _) hB () X Y row hs.ext hg hr, hs.rec_.kept hg hr', blk_kept hs.to_ hg hr', v, xs, h0, blk_kept h1 hg hr', own_keptP h2 hg hr', hz, fun i x hx => (h3 i x hx).kept hg hr'⟩

attribute [local go_sem] run_semAt
attribute [local go_sem ↓] bd_exec bd_sem bs_exec bs_sem app_exec app_sem Go.wp_at_zero Go.wp_at_succ
end Go.Proofs.YtbgfmbmcabekeaaGreatDoor
