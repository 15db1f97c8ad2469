/-
  package message: Same and Valid at a message with a record, and at a beat.
-/
import Derived.Test.YtbgfmbmcabekeaaGreatDoorJ17
set_option linter.unusedSimpArgs false
set_option linter.unusedVariables false

namespace Go.Proofs.YtbgfmbmcabekeaaGreatDoor
open Go.RowKit Go.Shelf

attribute [local go_sem ↓] ld_exec ld_sem
set_option maxRecDepth 100000 in
set_option maxHeartbeats 2000000 in
theorem eqChgs (l : List ChgT) (va vb : Value) (w : World) (ha : ChgsAt w va l) (hb : ChgsAt w vb l) (hl : l.length ≤ 1000) :
    Calls Tryz.prog 133 #[va, vb] w fun e w' => e = .returned (.bool true) ∧ Below w.heap.size w w' := by
  have HA := Lib.hid ha
  have HB := Lib.hid hb
  obtain ⟨Aa, ca, rfl, _⟩ := ha
  obtain ⟨Ab, cb, rfl, _⟩ := hb
  go_enter Tryz.func133, Tryz.ntmps133
  go_wp2
  go_loopw [5, 13] (fun _ i W => ∃ k : Nat, k ≤ l.length ∧ i = .int .i64 k ∧ Below w.heap.size w W) (fun _ i _ => l.length - (intOf i).toNat)
  case atStart => exact ⟨0, Nat.zero_le _, rfl, by first | exact ext_refl w | exact (ext_refl w).drew⟩
  case round =>
    obtain ⟨k, hk, rfl, hE⟩ := hrel
    have HE := Lib.hid hE
    clear hE
    have e2 : IntKind.i64.wrap ((k : Int) + 1) = (k : Int) + 1 := by rw [IntWalk.i64_in _ (by omega)]
    by_cases hlt : k < l.length
    · have d1 : decide ((k : Int) < (l.length : Int)) = true := by simp; omega
      obtain ⟨x, hx⟩ : ∃ x, l[k]? = some x := ⟨_, List.getElem?_eq_getElem hlt⟩
      obtain ⟨b1, o1, c1, hA1, _, hcell1⟩ := (HA.out.ext HE.out).at_ hx
      injection hA1 with hA1 _ hA3
      subst hA1
      subst hA3
      obtain ⟨b2, o2, c2, hB1, _, hcell2⟩ := (HB.out.ext HE.out).at_ hx
      injection hB1 with hB1 _ hB3
      subst hB1
      subst hB3
      obtain ⟨p1, r1⟩ := ld_rng (P := Tryz.prog) (W := wr.drew) (ty := 75) (cs := x.arr) hcell1 Tryz.underlying75 rfl (by kernel_rfl)
      obtain ⟨p2, r2⟩ := ld_rng (P := Tryz.prog) (W := wr.drew) (ty := 75) (cs := x.arr) hcell2 Tryz.underlying75 rfl (by kernel_rfl)
      have hq := chgEqI x
      have q0 : (0 : Int) ≤ (k : Int) := by omega
      have q1 : (k : Int) < (l.length : Int) := by omega
      clear hcell1 hcell2 hx
      go_wp2
      go_region
      go_wp2
      go_roundw
      case rel => exact ⟨k + 1, by omega, by go_num, HE.out.drew⟩
      case measure => simp [intOf]; omega
    · have d1 : decide ((k : Int) < (l.length : Int)) = false := by simp; omega
      go_wp2
      go_ret
      exact ⟨rfl, HE.out⟩

set_option maxHeartbeats 1000000 in
theorem rowSame (p : Int) (l : List ChgT) (va vb : Value) (w : World) (ha : ChgsAt w va l) (hb : ChgsAt w vb l) (hl : l.length ≤ 1000) :
    Calls Tryz.prog 87 #[.agg #[.int .i64 p, va], .agg #[.int .i64 p, vb]] w fun e w' => e = .returned (.bool true) ∧ Below w.heap.size w w' := by
  have HE := Lib.hid (ext_alloc (ext_new w (.cells #[.int .i64 p, va] 46)) (.cells #[.int .i64 p, vb] 46))
  have HQ := Lib.hid (fun (W : World) (k : Below w.heap.size w W) => eqChgs l va vb W (ha.ext k) (hb.ext k) hl)
  obtain ⟨Aa, ca, rfl, _⟩ := ha
  obtain ⟨Ab, cb, rfl, _⟩ := hb
  clear hl
  go_enter Tryz.func87, Tryz.ntmps87
  go_wp2_with (go_at_call 133; refine (HQ.out _ HE.out).mono ?_; rintro e W2 ⟨rfl, hb2⟩; have HE2 := Lib.hid (ext_call HE.out hb2); clear hb2)
  go_ret
  exact ⟨rfl, HE2.out⟩

set_option maxRecDepth 100000 in
set_option maxHeartbeats 1000000 in
theorem header_rec (h0 h1 h2 h3 h4 h5 h6 h7 h8 h9 p : Int) (A : Option Addr) (ln c : Nat) (w : World) : Calls Tryz.prog 86 #[.agg #[.int .i64 h0, .int .i64 h1, .int .i64 h2, .int .i64 h3, .int .i64 h4, .int .i64 h5, .int .i64 h6, .int .i64 h7, .int .i64 h8, .int .i64 h9, .int .i64 0, .int .i64 0, .int .i64 0, .int .i64 0, .int .i64 0, .int .i64 0, .int .i64 0, .int .i64 p, .slice A ln c, .int .i64 0, .int .i64 0, .int .i64 0, .int .i64 0, .int .i64 0, .int .i64 0, .int .i64 0, .int .i64 0, .int .i64 0, .slice none 0 0, .int .i64 0, .int .i64 0, .int .i64 0, .int .i64 0, .int .i64 0, .int .i64 0, .int .i64 0, .slice none 0 0, .int .i64 0, .bool false, .int .i64 0, .int .i64 0, .int .i64 0, .slice none 0 0, .slice none 0 0, .int .i64 0, .slice none 0 0, .slice none 0 0]] w fun e w' => e = .returned (.agg #[.int .i64 h0, .int .i64 h1, .int .i64 h2, .int .i64 h3, .int .i64 h4, .int .i64 h5, .int .i64 h6, .int .i64 h7, .int .i64 h8, .int .i64 h9]) ∧ Below w.heap.size w w' := by
  go_enter Tryz.func86, Tryz.ntmps86
  go_wp2
  exact bodyPost_ret (v := .agg #[.int .i64 h0, .int .i64 h1, .int .i64 h2, .int .i64 h3, .int .i64 h4, .int .i64 h5, .int .i64 h6, .int .i64 h7, .int .i64 h8, .int .i64 h9]) (by simp [results, Tryz.results86, go_sem]) rfl ⟨rfl, ext_alloc (ext_new _ _) _⟩

set_option maxRecDepth 100000 in
set_option maxHeartbeats 2000000 in
theorem msgSameW (w : World) (va qa ra ea aa ga : Array Value) (hs : Array Value) (hqq : va.extract 10 17 = qa) (hr : va.extract 17 19 = ra) (he : va.extract 19 29 = ea) (ha : va.extract 29 44 = aa) (hg : va.extract 44 47 = ga) (zm : va.size = 47) (zq : qa.size = 7) (zr : ra.size = 2) (ze : ea.size = 10) (za : aa.size = 15) (zg : ga.size = 3)
    (HH : ∀ W, Calls Tryz.prog 86 #[.agg va] W fun e w' => e = .returned (.agg hs) ∧ Below W.heap.size W w')
    (h10 : ∀ W, (Op.equalIn 10000 167 (.agg hs) (.agg hs)).run Tryz.prog W = .ok true W)
    (hq : ∀ W, (Op.equalIn 10000 44 (.agg qa) (.agg qa)).run Tryz.prog W = .ok true W)
    (HR : ∀ W, Below w.heap.size w W → Calls Tryz.prog 87 #[.agg ra, .agg ra] W fun e w' => e = .returned (.bool true) ∧ Below W.heap.size W w')
    (HEn : ∀ W, Calls Tryz.prog 88 #[.agg ea, .agg ea] W fun e w' => e = .returned (.bool true) ∧ Below W.heap.size W w')
    (HA : ∀ W, Calls Tryz.prog 89 #[.agg aa, .agg aa] W fun e w' => e = .returned (.bool true) ∧ Below W.heap.size W w')
    (HG : ∀ W, Calls Tryz.prog 90 #[.agg ga, .agg ga] W fun e w' => e = .returned (.bool true) ∧ Below W.heap.size W w')
    : Calls Tryz.prog 51 #[.agg va, .agg va] w fun e w' => e = .returned (.bool true) ∧ Below w.heap.size w w' := by
  have hm : va.extract 0 47 = va := by rw [← zm]; simp
  have HH' := Lib.hid HH
  have HR' := Lib.hid HR
  have HEn' := Lib.hid HEn
  have HA' := Lib.hid HA
  have HG' := Lib.hid HG
  obtain ⟨X, hX⟩ : ∃ X, X = (w.alloc (.cells va 57)).alloc (.cells va 57) := ⟨_, rfl⟩
  have HE := Lib.hid (show Below w.heap.size w X by rw [hX]; exact ext_alloc (ext_new _ _) _)
  have HBB := Lib.hid (show Blk X w.heap.size 57 va ∧ Blk X (w.heap.size + 1) 57 va by rw [hX]; exact ⟨(Blk.new _ _ _).alloc _, Blk.new' _ _ _ (by simp)⟩)
  have HK := Lib.hid (fun W k => sKeep (W := W) HBB.out hm hqq hr he ha hg zm zq zr ze za zg k)
  have HX := Lib.hid hX
  clear hX HH HR HEn HA HG hm hr he ha hg zq zr ze za zg
  go_enter Tryz.func51, Tryz.ntmps51
  go_upto_region 1 with (fail)
  rw [← HX.out]
  go_region_held3 (fun w' => (LdOK Tryz.prog w' (.pointer (some ⟨w.heap.size, 0, none⟩)) 57 ∧ ldV Tryz.prog w' (.pointer (some ⟨w.heap.size, 0, none⟩)) 57 = .agg va) ∧ (LdOK Tryz.prog w' (.pointer (some ⟨w.heap.size, 10, none⟩)) 44 ∧ ldV Tryz.prog w' (.pointer (some ⟨w.heap.size, 10, none⟩)) 44 = .agg qa) ∧ (LdOK Tryz.prog w' (.pointer (some ⟨w.heap.size, 17, none⟩)) 46 ∧ ldV Tryz.prog w' (.pointer (some ⟨w.heap.size, 17, none⟩)) 46 = .agg ra) ∧ (LdOK Tryz.prog w' (.pointer (some ⟨w.heap.size, 19, none⟩)) 49 ∧ ldV Tryz.prog w' (.pointer (some ⟨w.heap.size, 19, none⟩)) 49 = .agg ea) ∧ (LdOK Tryz.prog w' (.pointer (some ⟨w.heap.size, 29, none⟩)) 55 ∧ ldV Tryz.prog w' (.pointer (some ⟨w.heap.size, 29, none⟩)) 55 = .agg aa) ∧ (LdOK Tryz.prog w' (.pointer (some ⟨w.heap.size, 44, none⟩)) 30 ∧ ldV Tryz.prog w' (.pointer (some ⟨w.heap.size, 44, none⟩)) 30 = .agg ga) ∧ (LdOK Tryz.prog w' (.pointer (some ⟨w.heap.size + 1, 0, none⟩)) 57 ∧ ldV Tryz.prog w' (.pointer (some ⟨w.heap.size + 1, 0, none⟩)) 57 = .agg va) ∧ (LdOK Tryz.prog w' (.pointer (some ⟨w.heap.size + 1, 10, none⟩)) 44 ∧ ldV Tryz.prog w' (.pointer (some ⟨w.heap.size + 1, 10, none⟩)) 44 = .agg qa) ∧ (LdOK Tryz.prog w' (.pointer (some ⟨w.heap.size + 1, 17, none⟩)) 46 ∧ ldV Tryz.prog w' (.pointer (some ⟨w.heap.size + 1, 17, none⟩)) 46 = .agg ra) ∧ (LdOK Tryz.prog w' (.pointer (some ⟨w.heap.size + 1, 19, none⟩)) 49 ∧ ldV Tryz.prog w' (.pointer (some ⟨w.heap.size + 1, 19, none⟩)) 49 = .agg ea) ∧ (LdOK Tryz.prog w' (.pointer (some ⟨w.heap.size + 1, 29, none⟩)) 55 ∧ ldV Tryz.prog w' (.pointer (some ⟨w.heap.size + 1, 29, none⟩)) 55 = .agg aa) ∧ (LdOK Tryz.prog w' (.pointer (some ⟨w.heap.size + 1, 44, none⟩)) 30 ∧ ldV Tryz.prog w' (.pointer (some ⟨w.heap.size + 1, 44, none⟩)) 30 = .agg ga) ∧ Below X.heap.size X w')
    (first | with_reducible assumption | exact HK.out _ (by repeat (first | with_reducible refine ext_alloc ?_ _ | with_reducible refine Below.drew ?_ | with_reducible refine ext_drewN ?_ _ | with_reducible assumption | with_reducible exact ext_refl _)))
    (first
      | (go_at_call 86; (with_reducible refine (HH'.out _).mono ?_); rintro e Z ⟨rfl, hb'⟩; have hXZ := ext_call (sKeepB (by assumption)) hb'; clear hb')
      | (go_at_call 87; (with_reducible refine (HR'.out _ ?_).mono ?_); (exact ext_call HE.out (sKeepB (by assumption))); rintro e Z ⟨rfl, hb'⟩; have hXZ := ext_call (sKeepB (by assumption)) hb'; clear hb')
      | (go_at_call 88; (with_reducible refine (HEn'.out _).mono ?_); rintro e Z ⟨rfl, hb'⟩; have hXZ := ext_call (sKeepB (by assumption)) hb'; clear hb')
      | (go_at_call 89; (with_reducible refine (HA'.out _).mono ?_); rintro e Z ⟨rfl, hb'⟩; have hXZ := ext_call (sKeepB (by assumption)) hb'; clear hb')
      | (go_at_call 90; (with_reducible refine (HG'.out _).mono ?_); rintro e Z ⟨rfl, hb'⟩; have hXZ := ext_call (sKeepB (by assumption)) hb'; clear hb'))
  all_goals
    have HZ := Lib.hid (ext_call HE.out (by first | exact hXZ | exact sKeepB (by assumption)))
    clear hXZ
    go_wp2
    go_ret
    exact ⟨rfl, HZ.out⟩


set_option maxRecDepth 100000 in
theorem msgSameRec (h0 h1 h2 h3 h4 h5 h6 h7 h8 h9 p : Int) (A : Option Addr) (ln c : Nat) (l : List ChgT) (w : World) (hv : ChgsAt w (.slice A ln c) l) (hl : l.length ≤ 1000) : Calls Tryz.prog 51 #[.agg #[.int .i64 h0, .int .i64 h1, .int .i64 h2, .int .i64 h3, .int .i64 h4, .int .i64 h5, .int .i64 h6, .int .i64 h7, .int .i64 h8, .int .i64 h9, .int .i64 0, .int .i64 0, .int .i64 0, .int .i64 0, .int .i64 0, .int .i64 0, .int .i64 0, .int .i64 p, .slice A ln c, .int .i64 0, .int .i64 0, .int .i64 0, .int .i64 0, .int .i64 0, .int .i64 0, .int .i64 0, .int .i64 0, .int .i64 0, .slice none 0 0, .int .i64 0, .int .i64 0, .int .i64 0, .int .i64 0, .int .i64 0, .int .i64 0, .int .i64 0, .slice none 0 0, .int .i64 0, .bool false, .int .i64 0, .int .i64 0, .int .i64 0, .slice none 0 0, .slice none 0 0, .int .i64 0, .slice none 0 0, .slice none 0 0], .agg #[.int .i64 h0, .int .i64 h1, .int .i64 h2, .int .i64 h3, .int .i64 h4, .int .i64 h5, .int .i64 h6, .int .i64 h7, .int .i64 h8, .int .i64 h9, .int .i64 0, .int .i64 0, .int .i64 0, .int .i64 0, .int .i64 0, .int .i64 0, .int .i64 0, .int .i64 p, .slice A ln c, .int .i64 0, .int .i64 0, .int .i64 0, .int .i64 0, .int .i64 0, .int .i64 0, .int .i64 0, .int .i64 0, .int .i64 0, .slice none 0 0, .int .i64 0, .int .i64 0, .int .i64 0, .int .i64 0, .int .i64 0, .int .i64 0, .int .i64 0, .slice none 0 0, .int .i64 0, .bool false, .int .i64 0, .int .i64 0, .int .i64 0, .slice none 0 0, .slice none 0 0, .int .i64 0, .slice none 0 0, .slice none 0 0]] w fun e w' => e = .returned (.bool true) ∧ Below w.heap.size w w' := by
  have HH := header_rec h0 h1 h2 h3 h4 h5 h6 h7 h8 h9 p A ln c
  obtain ⟨va, hva⟩ : ∃ va : Array Value, va = #[.int .i64 h0, .int .i64 h1, .int .i64 h2, .int .i64 h3, .int .i64 h4, .int .i64 h5, .int .i64 h6, .int .i64 h7, .int .i64 h8, .int .i64 h9, .int .i64 0, .int .i64 0, .int .i64 0, .int .i64 0, .int .i64 0, .int .i64 0, .int .i64 0, .int .i64 p, .slice A ln c, .int .i64 0, .int .i64 0, .int .i64 0, .int .i64 0, .int .i64 0, .int .i64 0, .int .i64 0, .int .i64 0, .int .i64 0, .slice none 0 0, .int .i64 0, .int .i64 0, .int .i64 0, .int .i64 0, .int .i64 0, .int .i64 0, .int .i64 0, .slice none 0 0, .int .i64 0, .bool false, .int .i64 0, .int .i64 0, .int .i64 0, .slice none 0 0, .slice none 0 0, .int .i64 0, .slice none 0 0, .slice none 0 0] := ⟨_, rfl⟩
  rw [← hva] at HH ⊢
  refine msgSameW w va #[.int .i64 0, .int .i64 0, .int .i64 0, .int .i64 0, .int .i64 0, .int .i64 0, .int .i64 0] #[.int .i64 p, .slice A ln c] #[.int .i64 0, .int .i64 0, .int .i64 0, .int .i64 0, .int .i64 0, .int .i64 0, .int .i64 0, .int .i64 0, .int .i64 0, .slice none 0 0] #[.int .i64 0, .int .i64 0, .int .i64 0, .int .i64 0, .int .i64 0, .int .i64 0, .int .i64 0, .slice none 0 0, .int .i64 0, .bool false, .int .i64 0, .int .i64 0, .int .i64 0, .slice none 0 0, .slice none 0 0] #[.int .i64 0, .slice none 0 0, .slice none 0 0] #[.int .i64 h0, .int .i64 h1, .int .i64 h2, .int .i64 h3, .int .i64 h4, .int .i64 h5, .int .i64 h6, .int .i64 h7, .int .i64 h8, .int .i64 h9] ?_ ?_ ?_ ?_ ?_ ?_ ?_ ?_ ?_ ?_ ?_ HH (eqHead h0 h1 h2 h3 h4 h5 h6 h7 h8 h9) (qryEq 0 0 0 0 0 0 0) (fun W k => rowSame p l _ _ W (hv.ext k) (hv.ext k) hl) entSame0 ansSame0 ringSame0
  all_goals (try subst hva; kernel_rfl)

attribute [local go_sem ↓] bd_exec bd_sem
set_option maxRecDepth 100000 in
set_option maxHeartbeats 4000000 in
theorem validRec (tn p : Int) (hn0 : 0 ≤ tn) (hn1 : tn ≤ 23) (hp0 : 1 ≤ p) (hp1 : p ≤ 10000) (A : Option Addr) (ln c : Nat) (l : List ChgT) (w : World) (hv : ChgsAt w (.slice A ln c) l) (hg : GoodL l) : Calls Tryz.prog 17 #[.agg #[.int .i64 1, .int .i64 100, .int .i64 tn, .int .i64 0, .int .i64 0, .int .i64 0, .int .i64 0, .int .i64 0, .int .i64 0, .int .i64 0, .int .i64 0, .int .i64 0, .int .i64 0, .int .i64 0, .int .i64 0, .int .i64 0, .int .i64 0, .int .i64 p, .slice A ln c, .int .i64 0, .int .i64 0, .int .i64 0, .int .i64 0, .int .i64 0, .int .i64 0, .int .i64 0, .int .i64 0, .int .i64 0, .slice none 0 0, .int .i64 0, .int .i64 0, .int .i64 0, .int .i64 0, .int .i64 0, .int .i64 0, .int .i64 0, .slice none 0 0, .int .i64 0, .bool false, .int .i64 0, .int .i64 0, .int .i64 0, .slice none 0 0, .slice none 0 0, .int .i64 0, .slice none 0 0, .slice none 0 0]] w fun e w' => e = .returned (.bool true) ∧ Below w.heap.size w w' := by
  obtain ⟨va, hva⟩ : ∃ va : Array Value, va = #[.int .i64 1, .int .i64 100, .int .i64 tn, .int .i64 0, .int .i64 0, .int .i64 0, .int .i64 0, .int .i64 0, .int .i64 0, .int .i64 0, .int .i64 0, .int .i64 0, .int .i64 0, .int .i64 0, .int .i64 0, .int .i64 0, .int .i64 0, .int .i64 p, .slice A ln c, .int .i64 0, .int .i64 0, .int .i64 0, .int .i64 0, .int .i64 0, .int .i64 0, .int .i64 0, .int .i64 0, .int .i64 0, .slice none 0 0, .int .i64 0, .int .i64 0, .int .i64 0, .int .i64 0, .int .i64 0, .int .i64 0, .int .i64 0, .slice none 0 0, .int .i64 0, .bool false, .int .i64 0, .int .i64 0, .int .i64 0, .slice none 0 0, .slice none 0 0, .int .i64 0, .slice none 0 0, .slice none 0 0] := ⟨_, rfl⟩
  obtain ⟨oa, hoa⟩ : ∃ oa : Array Value, oa = #[.int .i64 1, .int .i64 100, .int .i64 tn, .int .i64 0, .int .i64 0, .int .i64 0, .int .i64 0, .int .i64 0, .int .i64 0, .int .i64 0, .int .i64 0, .int .i64 0, .int .i64 0, .int .i64 0, .int .i64 0, .int .i64 0, .int .i64 0, .int .i64 0, .slice none 0 0, .int .i64 0, .int .i64 0, .int .i64 0, .int .i64 0, .int .i64 0, .int .i64 0, .int .i64 0, .int .i64 0, .int .i64 0, .slice none 0 0, .int .i64 0, .int .i64 0, .int .i64 0, .int .i64 0, .int .i64 0, .int .i64 0, .int .i64 0, .slice none 0 0, .int .i64 0, .bool false, .int .i64 0, .int .i64 0, .int .i64 0, .slice none 0 0, .slice none 0 0, .int .i64 0, .slice none 0 0, .slice none 0 0] := ⟨_, rfl⟩
  obtain ⟨X0, hX⟩ : ∃ X, X = w.alloc (.cells va 57) := ⟨_, rfl⟩
  have HX := Lib.hid hX
  have HE := Lib.hid (show Below w.heap.size w X0 by rw [hX]; exact ext_new _ _)
  have HB := Lib.hid (show Blk X0 w.heap.size 57 va by rw [hX]; exact Blk.new _ _ _)
  have K1 := Lib.hid sideO_q
  have K2 := Lib.hid (fun W => side_q tn hn0 hn1 W)
  have K4 := Lib.hid (fun W => mw_qy (0) 0 1000000 (by omega) (by omega) W)
  have K6 := Lib.hid (fun W => mw_qn (0) 1 4611686018427387903 (by omega) W)
  have K3 := Lib.hid (fun W => mw_qn (0) 1 1000000 (by omega) W)
  have K7 := Lib.hid (fun W => mw_qy (0) 0 1000000 (by omega) (by omega) W)
  have K5 := Lib.hid (fun W => mw_qy (0) 0 7 (by omega) (by omega) W)
  have HVA := Lib.hid hva
  have HOA := Lib.hid hoa
  have HV := Lib.hid hv
  have HG := Lib.hid hg
  clear hv hg
  rw [← hva]
  clear hX hva hoa
  go_enter Tryz.func17, Tryz.ntmps17
  go_upto_region 1 with (fail)
  rw [← HX.out]
  have a1 := (HB.out.cell 1).trans (show _ = some (.int .i64 100) by rw [HVA.out]; rfl)
  have a2 := (HB.out.cell 2).trans (show _ = some (.int .i64 tn) by rw [HVA.out]; rfl)
  go_quiet (first | (go_at_call 45; with_reducible refine Calls.quiet_of_same (K1.out _)) | (go_at_call 45; with_reducible refine Calls.quiet_of_same (K2.out _)))
  clear a1 a2
  obtain ⟨X1, hX1⟩ : ∃ X1, X1 = X0.drewN nq := ⟨_, rfl⟩
  rw [← hX1]
  have HE1 := Lib.hid (show Below X0.heap.size X0 X1 by rw [hX1]; exact ext_drewN (ext_refl _) _)
  clear hX1
  obtain ⟨bd1, bd2⟩ := bd_of w (P := Tryz.prog) (t := 57) (ps := #[(0, .int .i64 1), (1, .int .i64 100), (2, .int .i64 tn)]) (cs := oa) (by rw [HOA.out]; kernel_rfl)
  have a0 := ((HB.out.ext HE1.out).cell 0).trans (show _ = some (.int .i64 1) by rw [HVA.out]; rfl)
  have a1 := ((HB.out.ext HE1.out).cell 1).trans (show _ = some (.int .i64 100) by rw [HVA.out]; rfl)
  have a2 := ((HB.out.ext HE1.out).cell 2).trans (show _ = some (.int .i64 tn) by rw [HVA.out]; rfl)
  have HZ := Lib.hid (Blk.new X1 57 #[.int .i64 0, .int .i64 0, .int .i64 0, .int .i64 0, .int .i64 0, .int .i64 0, .int .i64 0, .int .i64 0, .int .i64 0, .int .i64 0, .int .i64 0, .int .i64 0, .int .i64 0, .int .i64 0, .int .i64 0, .int .i64 0, .int .i64 0, .int .i64 0, .slice none 0 0, .int .i64 0, .int .i64 0, .int .i64 0, .int .i64 0, .int .i64 0, .int .i64 0, .int .i64 0, .int .i64 0, .int .i64 0, .slice none 0 0, .int .i64 0, .int .i64 0, .int .i64 0, .int .i64 0, .int .i64 0, .int .i64 0, .int .i64 0, .slice none 0 0, .int .i64 0, .bool false, .int .i64 0, .int .i64 0, .int .i64 0, .slice none 0 0, .slice none 0 0, .int .i64 0, .slice none 0 0, .slice none 0 0])
  have HI := Lib.hid (show (Tryz.prog.info? 57).map (·.size) = some oa.size by rw [HOA.out]; kernel_rfl)
  have HSZ := Lib.hid (show (#[.int .i64 0, .int .i64 0, .int .i64 0, .int .i64 0, .int .i64 0, .int .i64 0, .int .i64 0, .int .i64 0, .int .i64 0, .int .i64 0, .int .i64 0, .int .i64 0, .int .i64 0, .int .i64 0, .int .i64 0, .int .i64 0, .int .i64 0, .int .i64 0, .slice none 0 0, .int .i64 0, .int .i64 0, .int .i64 0, .int .i64 0, .int .i64 0, .int .i64 0, .int .i64 0, .int .i64 0, .int .i64 0, .slice none 0 0, .int .i64 0, .int .i64 0, .int .i64 0, .int .i64 0, .int .i64 0, .int .i64 0, .int .i64 0, .slice none 0 0, .int .i64 0, .bool false, .int .i64 0, .int .i64 0, .int .i64 0, .slice none 0 0, .slice none 0 0, .int .i64 0, .slice none 0 0, .slice none 0 0] : Array Value).size = oa.size by rw [HOA.out]; rfl)
  have H1 := Lib.hid (show oa.all (·.oneCell') = true by rw [HOA.out]; simp [Value.oneCell'])
  go_upto_region 4 with (refine wpList_store_blk rfl 57 (.tmp 7) (.tmp 38) rfl X1.heap.size oa rfl rfl 57 #[.int .i64 0, .int .i64 0, .int .i64 0, .int .i64 0, .int .i64 0, .int .i64 0, .int .i64 0, .int .i64 0, .int .i64 0, .int .i64 0, .int .i64 0, .int .i64 0, .int .i64 0, .int .i64 0, .int .i64 0, .int .i64 0, .int .i64 0, .int .i64 0, .slice none 0 0, .int .i64 0, .int .i64 0, .int .i64 0, .int .i64 0, .int .i64 0, .int .i64 0, .int .i64 0, .int .i64 0, .int .i64 0, .slice none 0 0, .int .i64 0, .int .i64 0, .int .i64 0, .int .i64 0, .int .i64 0, .int .i64 0, .int .i64 0, .slice none 0 0, .int .i64 0, .bool false, .int .i64 0, .int .i64 0, .int .i64 0, .slice none 0 0, .slice none 0 0, .int .i64 0, .slice none 0 0, .slice none 0 0] HZ.out HI.out HSZ.out H1.out ?_; intro X2 hB2 hg2; have HO2 := Lib.hid hB2; have HE2 := Lib.hid ((ext_alloc HE1.out (.cells #[.int .i64 0, .int .i64 0, .int .i64 0, .int .i64 0, .int .i64 0, .int .i64 0, .int .i64 0, .int .i64 0, .int .i64 0, .int .i64 0, .int .i64 0, .int .i64 0, .int .i64 0, .int .i64 0, .int .i64 0, .int .i64 0, .int .i64 0, .int .i64 0, .slice none 0 0, .int .i64 0, .int .i64 0, .int .i64 0, .int .i64 0, .int .i64 0, .int .i64 0, .int .i64 0, .int .i64 0, .int .i64 0, .slice none 0 0, .int .i64 0, .int .i64 0, .int .i64 0, .int .i64 0, .int .i64 0, .int .i64 0, .int .i64 0, .slice none 0 0, .int .i64 0, .bool false, .int .i64 0, .int .i64 0, .int .i64 0, .slice none 0 0, .slice none 0 0, .int .i64 0, .slice none 0 0, .slice none 0 0] 57)).grown hg2 (ext_alloc HE1.out (.cells #[.int .i64 0, .int .i64 0, .int .i64 0, .int .i64 0, .int .i64 0, .int .i64 0, .int .i64 0, .int .i64 0, .int .i64 0, .int .i64 0, .int .i64 0, .int .i64 0, .int .i64 0, .int .i64 0, .int .i64 0, .int .i64 0, .int .i64 0, .int .i64 0, .slice none 0 0, .int .i64 0, .int .i64 0, .int .i64 0, .int .i64 0, .int .i64 0, .int .i64 0, .int .i64 0, .int .i64 0, .int .i64 0, .slice none 0 0, .int .i64 0, .int .i64 0, .int .i64 0, .int .i64 0, .int .i64 0, .int .i64 0, .int .i64 0, .slice none 0 0, .int .i64 0, .bool false, .int .i64 0, .int .i64 0, .int .i64 0, .slice none 0 0, .slice none 0 0, .int .i64 0, .slice none 0 0, .slice none 0 0] 57)).size (fun k e => by injection e with e; have := HE1.out.size; omega)); clear hB2 hg2)
  clear a0 a1 a2 bd1 bd2 HZ HI HSZ H1
  have HN := Lib.hid (show X0.heap.size ≤ X1.heap.size from HE1.out.size)
  have a4 := ((HB.out.ext HE2.out).cell 4).trans (show _ = some (.int .i64 0) by rw [HVA.out]; rfl)
  have a6 := ((HB.out.ext HE2.out).cell 6).trans (show _ = some (.int .i64 0) by rw [HVA.out]; rfl)
  go_quiet (first | (go_at_call 46; with_reducible refine Calls.quiet_of_same (K4.out _)) | (go_at_call 46; with_reducible refine Calls.quiet_of_same (K6.out _)))
  clear a4 a6
  obtain ⟨X3, hX3⟩ : ∃ X3, X3 = X2.drewN nq := ⟨_, rfl⟩
  rw [← hX3]
  have HE3 := Lib.hid (show Below X0.heap.size X0 X3 by rw [hX3]; exact ext_drewN HE2.out _)
  have HO3 := Lib.hid (show Blk X3 X1.heap.size 57 oa by rw [hX3]; exact HO2.out.ext (ext_drewN (ext_refl _) _))
  clear hX3
  go_upto_region 5 with (fail)
  have a3 := ((HB.out.ext HE3.out).cell 3).trans (show _ = some (.int .i64 0) by rw [HVA.out]; rfl)
  have a7 := ((HB.out.ext HE3.out).cell 7).trans (show _ = some (.int .i64 0) by rw [HVA.out]; rfl)
  go_quiet (first | (go_at_call 46; with_reducible refine Calls.quiet_of_same (K3.out _)) | (go_at_call 46; with_reducible refine Calls.quiet_of_same (K7.out _)))
  clear a3 a7
  obtain ⟨X4, hX4⟩ : ∃ X4, X4 = X3.drewN nq := ⟨_, rfl⟩
  rw [← hX4]
  have HE4 := Lib.hid (show Below X0.heap.size X0 X4 by rw [hX4]; exact ext_drewN HE3.out _)
  have HO4 := Lib.hid (show Blk X4 X1.heap.size 57 oa by rw [hX4]; exact HO3.out.ext (ext_drewN (ext_refl _) _))
  clear hX4
  have a5 := ((HB.out.ext HE4.out).cell 5).trans (show _ = some (.int .i64 0) by rw [HVA.out]; rfl)
  have a0 := ((HB.out.ext HE4.out).cell 0).trans (show _ = some (.int .i64 1) by rw [HVA.out]; rfl)
  have a17 := ((HB.out.ext HE4.out).cell 17).trans (show _ = some (.int .i64 p) by rw [HVA.out]; rfl)
  have a18 := ((HB.out.ext HE4.out).cell 18).trans (show _ = some (.slice A ln c) by rw [HVA.out]; rfl)
  have c17 := (HO4.out.cell 17).trans (show _ = some (.int .i64 0) by rw [HOA.out]; rfl)
  have c18 := (HO4.out.cell 18).trans (show _ = some (.slice none 0 0) by rw [HOA.out]; rfl)
  have g17 := HO4.out.frozen 17
  have g18 := HO4.out.frozen 18
  go_upto_region 11 with (go_at_call 46; with_reducible refine (K5.out _).mono ?_; rintro e w' ⟨rfl, hw5⟩; subst w')
  clear a5 a0
  obtain ⟨Y, hY⟩ : ∃ Y, Y = (((X4).setCell ⟨X1.heap.size, 17, none⟩ (.int .i64 p)).setCell ⟨X1.heap.size, 18, none⟩ (.slice A ln c)) := ⟨_, rfl⟩
  rw [← hY]
  have HEY := Lib.hid (show Below w.heap.size w Y by rw [hY]; exact (ext_set (ext_set (ext_call HE.out HE4.out) (Nat.le_trans HE.out.size HN.out) _) (Nat.le_trans HE.out.size HN.out) _))
  have HBY := Lib.hid (show Blk Y w.heap.size 57 va by rw [hY]; exact ((HB.out.ext HE4.out).far (by have := HB.out.lt; have := HN.out; simp; omega) _).far (by have := HB.out.lt; have := HN.out; simp; omega) _)
  have HOY := Lib.hid (show Blk Y X1.heap.size 57 va by rw [hY]; have h9 := ((HO4.out).set_ 17 (.int .i64 p)).set_ 18 (.slice A ln c); rwa [show ((oa).setIfInBounds 17 (.int .i64 p)).setIfInBounds 18 (.slice A ln c) = va by rw [HOA.out, HVA.out]; kernel_rfl] at h9)
  clear hY a17 c17 g17 a18 c18 g18
  have a17 := (HBY.out.cell 17).trans (show _ = some (.int .i64 p) by rw [HVA.out]; rfl)
  have a18 := (HBY.out.cell 18).trans (show _ = some (.slice A ln c) by rw [HVA.out]; rfl)
  have l1 := ld_blk (P := Tryz.prog) HBY.out (show Array.extract va 0 47 = va by rw [HVA.out]; kernel_rfl) Tryz.underlying57 rfl (by rw [HVA.out]; kernel_rfl)
  have l2 := ld_blk (P := Tryz.prog) HOY.out (show Array.extract va 0 47 = va by rw [HVA.out]; kernel_rfl) Tryz.underlying57 rfl (by rw [HVA.out]; kernel_rfl)
  obtain ⟨l1, e11⟩ := l1
  obtain ⟨l2, e12⟩ := l2
  have HRV := Lib.hid (show Calls Tryz.prog 47 #[.agg #[.int .i64 p, .slice A ln c]] Y fun e w' => e = .returned (.bool true) ∧ Below Y.heap.size Y w' by
    have h9 := validRecord_any p ⟨hp0, hp1⟩ l (.slice A ln c) Y (HV.out.ext HEY.out) HG.out.ok
    rw [HG.out.turns] at h9
    exact h9)
  clear l1 e11 l2 e12
  go_wp2_with fail
  refine HRV.out.mono ?_
  rintro e Z ⟨rfl, hbz⟩
  have HEZ := Lib.hid (ext_call HEY.out hbz)
  have HBZ := Lib.hid (HBY.out.ext hbz)
  have HOZ := Lib.hid (HOY.out.ext hbz)
  clear hbz a17 a18 HRV
  have l1 := ld_blk (P := Tryz.prog) HBZ.out (show Array.extract va 0 47 = va by rw [HVA.out]; kernel_rfl) Tryz.underlying57 rfl (by rw [HVA.out]; kernel_rfl)
  have l2 := ld_blk (P := Tryz.prog) HOZ.out (show Array.extract va 0 47 = va by rw [HVA.out]; kernel_rfl) Tryz.underlying57 rfl (by rw [HVA.out]; kernel_rfl)
  obtain ⟨l1, e11⟩ := l1
  obtain ⟨l2, e12⟩ := l2
  have HS := Lib.hid (show Calls Tryz.prog 51 #[.agg va, .agg va] Z fun e w' => e = .returned (.bool true) ∧ Below Z.heap.size Z w' by rw [HVA.out]; exact msgSameRec (1) (100) (tn) (0) (0) (0) (0) (0) (0) (0) p A ln c l Z (HV.out.ext HEZ.out) (by have := HG.out.ok.few; omega))
  go_wp2_with (go_at_call 51; with_reducible refine HS.out.mono ?_; rintro e W9 ⟨rfl, hb9⟩; have HE9 := Lib.hid (ext_call HEZ.out hb9); clear hb9)
  go_ret
  exact ⟨rfl, HE9.out⟩

set_option maxRecDepth 100000 in
set_option maxHeartbeats 4000000 in
theorem validBeat (tn np p ep : Int) (hn0 : 0 ≤ tn) (hn1 : tn ≤ 23) (ht0 : 0 < np) (ht1 : np ≤ 1000000) (hp0 : 0 ≤ p) (hp1 : p ≤ 10000) (he0 : 0 ≤ ep) (he1 : ep ≤ 1000000) (w : World) : Calls Tryz.prog 17 #[.agg #[.int .i64 2, .int .i64 100, .int .i64 tn, .int .i64 0, .int .i64 ep, .int .i64 0, .int .i64 0, .int .i64 np, .int .i64 0, .int .i64 p, .int .i64 0, .int .i64 0, .int .i64 0, .int .i64 0, .int .i64 0, .int .i64 0, .int .i64 0, .int .i64 0, .slice none 0 0, .int .i64 0, .int .i64 0, .int .i64 0, .int .i64 0, .int .i64 0, .int .i64 0, .int .i64 0, .int .i64 0, .int .i64 0, .slice none 0 0, .int .i64 0, .int .i64 0, .int .i64 0, .int .i64 0, .int .i64 0, .int .i64 0, .int .i64 0, .slice none 0 0, .int .i64 0, .bool false, .int .i64 0, .int .i64 0, .int .i64 0, .slice none 0 0, .slice none 0 0, .int .i64 0, .slice none 0 0, .slice none 0 0]] w fun e w' => e = .returned (.bool true) ∧ Below w.heap.size w w' := by
  obtain ⟨va, hva⟩ : ∃ va : Array Value, va = #[.int .i64 2, .int .i64 100, .int .i64 tn, .int .i64 0, .int .i64 ep, .int .i64 0, .int .i64 0, .int .i64 np, .int .i64 0, .int .i64 p, .int .i64 0, .int .i64 0, .int .i64 0, .int .i64 0, .int .i64 0, .int .i64 0, .int .i64 0, .int .i64 0, .slice none 0 0, .int .i64 0, .int .i64 0, .int .i64 0, .int .i64 0, .int .i64 0, .int .i64 0, .int .i64 0, .int .i64 0, .int .i64 0, .slice none 0 0, .int .i64 0, .int .i64 0, .int .i64 0, .int .i64 0, .int .i64 0, .int .i64 0, .int .i64 0, .slice none 0 0, .int .i64 0, .bool false, .int .i64 0, .int .i64 0, .int .i64 0, .slice none 0 0, .slice none 0 0, .int .i64 0, .slice none 0 0, .slice none 0 0] := ⟨_, rfl⟩
  obtain ⟨oa, hoa⟩ : ∃ oa : Array Value, oa = #[.int .i64 2, .int .i64 100, .int .i64 tn, .int .i64 0, .int .i64 0, .int .i64 0, .int .i64 0, .int .i64 0, .int .i64 0, .int .i64 0, .int .i64 0, .int .i64 0, .int .i64 0, .int .i64 0, .int .i64 0, .int .i64 0, .int .i64 0, .int .i64 0, .slice none 0 0, .int .i64 0, .int .i64 0, .int .i64 0, .int .i64 0, .int .i64 0, .int .i64 0, .int .i64 0, .int .i64 0, .int .i64 0, .slice none 0 0, .int .i64 0, .int .i64 0, .int .i64 0, .int .i64 0, .int .i64 0, .int .i64 0, .int .i64 0, .slice none 0 0, .int .i64 0, .bool false, .int .i64 0, .int .i64 0, .int .i64 0, .slice none 0 0, .slice none 0 0, .int .i64 0, .slice none 0 0, .slice none 0 0] := ⟨_, rfl⟩
  obtain ⟨X0, hX⟩ : ∃ X, X = w.alloc (.cells va 57) := ⟨_, rfl⟩
  have HX := Lib.hid hX
  have HE := Lib.hid (show Below w.heap.size w X0 by rw [hX]; exact ext_new _ _)
  have HB := Lib.hid (show Blk X0 w.heap.size 57 va by rw [hX]; exact Blk.new _ _ _)
  have K1 := Lib.hid sideO_q
  have K2 := Lib.hid (fun W => side_q tn hn0 hn1 W)
  have K4 := Lib.hid (fun W => mw_qy (ep) 0 1000000 (by omega) (by omega) W)
  have K6 := Lib.hid (fun W => mw_qn (0) 1 4611686018427387903 (by omega) W)
  have K3 := Lib.hid (fun W => mw_qn (0) 1 1000000 (by omega) W)
  have K7 := Lib.hid (fun W => mw_qy (np) 0 1000000 (by omega) (by omega) W)
  have K5 := Lib.hid (fun W => mw_qy (0) 0 7 (by omega) (by omega) W)
  have K9 := Lib.hid (fun W => mw_qy (p) 0 10000 (by omega) (by omega) W)
  have HVA := Lib.hid hva
  have HOA := Lib.hid hoa
  rw [← hva]
  clear hX hva hoa
  go_enter Tryz.func17, Tryz.ntmps17
  go_upto_region 1 with (fail)
  rw [← HX.out]
  have a1 := (HB.out.cell 1).trans (show _ = some (.int .i64 100) by rw [HVA.out]; rfl)
  have a2 := (HB.out.cell 2).trans (show _ = some (.int .i64 tn) by rw [HVA.out]; rfl)
  go_quiet (first | (go_at_call 45; with_reducible refine Calls.quiet_of_same (K1.out _)) | (go_at_call 45; with_reducible refine Calls.quiet_of_same (K2.out _)))
  clear a1 a2
  obtain ⟨X1, hX1⟩ : ∃ X1, X1 = X0.drewN nq := ⟨_, rfl⟩
  rw [← hX1]
  have HE1 := Lib.hid (show Below X0.heap.size X0 X1 by rw [hX1]; exact ext_drewN (ext_refl _) _)
  clear hX1
  obtain ⟨bd1, bd2⟩ := bd_of w (P := Tryz.prog) (t := 57) (ps := #[(0, .int .i64 2), (1, .int .i64 100), (2, .int .i64 tn)]) (cs := oa) (by rw [HOA.out]; kernel_rfl)
  have a0 := ((HB.out.ext HE1.out).cell 0).trans (show _ = some (.int .i64 2) by rw [HVA.out]; rfl)
  have a1 := ((HB.out.ext HE1.out).cell 1).trans (show _ = some (.int .i64 100) by rw [HVA.out]; rfl)
  have a2 := ((HB.out.ext HE1.out).cell 2).trans (show _ = some (.int .i64 tn) by rw [HVA.out]; rfl)
  have HZ := Lib.hid (Blk.new X1 57 #[.int .i64 0, .int .i64 0, .int .i64 0, .int .i64 0, .int .i64 0, .int .i64 0, .int .i64 0, .int .i64 0, .int .i64 0, .int .i64 0, .int .i64 0, .int .i64 0, .int .i64 0, .int .i64 0, .int .i64 0, .int .i64 0, .int .i64 0, .int .i64 0, .slice none 0 0, .int .i64 0, .int .i64 0, .int .i64 0, .int .i64 0, .int .i64 0, .int .i64 0, .int .i64 0, .int .i64 0, .int .i64 0, .slice none 0 0, .int .i64 0, .int .i64 0, .int .i64 0, .int .i64 0, .int .i64 0, .int .i64 0, .int .i64 0, .slice none 0 0, .int .i64 0, .bool false, .int .i64 0, .int .i64 0, .int .i64 0, .slice none 0 0, .slice none 0 0, .int .i64 0, .slice none 0 0, .slice none 0 0])
  have HI := Lib.hid (show (Tryz.prog.info? 57).map (·.size) = some oa.size by rw [HOA.out]; kernel_rfl)
  have HSZ := Lib.hid (show (#[.int .i64 0, .int .i64 0, .int .i64 0, .int .i64 0, .int .i64 0, .int .i64 0, .int .i64 0, .int .i64 0, .int .i64 0, .int .i64 0, .int .i64 0, .int .i64 0, .int .i64 0, .int .i64 0, .int .i64 0, .int .i64 0, .int .i64 0, .int .i64 0, .slice none 0 0, .int .i64 0, .int .i64 0, .int .i64 0, .int .i64 0, .int .i64 0, .int .i64 0, .int .i64 0, .int .i64 0, .int .i64 0, .slice none 0 0, .int .i64 0, .int .i64 0, .int .i64 0, .int .i64 0, .int .i64 0, .int .i64 0, .int .i64 0, .slice none 0 0, .int .i64 0, .bool false, .int .i64 0, .int .i64 0, .int .i64 0, .slice none 0 0, .slice none 0 0, .int .i64 0, .slice none 0 0, .slice none 0 0] : Array Value).size = oa.size by rw [HOA.out]; rfl)
  have H1 := Lib.hid (show oa.all (·.oneCell') = true by rw [HOA.out]; simp [Value.oneCell'])
  go_upto_region 4 with (refine wpList_store_blk rfl 57 (.tmp 7) (.tmp 38) rfl X1.heap.size oa rfl rfl 57 #[.int .i64 0, .int .i64 0, .int .i64 0, .int .i64 0, .int .i64 0, .int .i64 0, .int .i64 0, .int .i64 0, .int .i64 0, .int .i64 0, .int .i64 0, .int .i64 0, .int .i64 0, .int .i64 0, .int .i64 0, .int .i64 0, .int .i64 0, .int .i64 0, .slice none 0 0, .int .i64 0, .int .i64 0, .int .i64 0, .int .i64 0, .int .i64 0, .int .i64 0, .int .i64 0, .int .i64 0, .int .i64 0, .slice none 0 0, .int .i64 0, .int .i64 0, .int .i64 0, .int .i64 0, .int .i64 0, .int .i64 0, .int .i64 0, .slice none 0 0, .int .i64 0, .bool false, .int .i64 0, .int .i64 0, .int .i64 0, .slice none 0 0, .slice none 0 0, .int .i64 0, .slice none 0 0, .slice none 0 0] HZ.out HI.out HSZ.out H1.out ?_; intro X2 hB2 hg2; have HO2 := Lib.hid hB2; have HE2 := Lib.hid ((ext_alloc HE1.out (.cells #[.int .i64 0, .int .i64 0, .int .i64 0, .int .i64 0, .int .i64 0, .int .i64 0, .int .i64 0, .int .i64 0, .int .i64 0, .int .i64 0, .int .i64 0, .int .i64 0, .int .i64 0, .int .i64 0, .int .i64 0, .int .i64 0, .int .i64 0, .int .i64 0, .slice none 0 0, .int .i64 0, .int .i64 0, .int .i64 0, .int .i64 0, .int .i64 0, .int .i64 0, .int .i64 0, .int .i64 0, .int .i64 0, .slice none 0 0, .int .i64 0, .int .i64 0, .int .i64 0, .int .i64 0, .int .i64 0, .int .i64 0, .int .i64 0, .slice none 0 0, .int .i64 0, .bool false, .int .i64 0, .int .i64 0, .int .i64 0, .slice none 0 0, .slice none 0 0, .int .i64 0, .slice none 0 0, .slice none 0 0] 57)).grown hg2 (ext_alloc HE1.out (.cells #[.int .i64 0, .int .i64 0, .int .i64 0, .int .i64 0, .int .i64 0, .int .i64 0, .int .i64 0, .int .i64 0, .int .i64 0, .int .i64 0, .int .i64 0, .int .i64 0, .int .i64 0, .int .i64 0, .int .i64 0, .int .i64 0, .int .i64 0, .int .i64 0, .slice none 0 0, .int .i64 0, .int .i64 0, .int .i64 0, .int .i64 0, .int .i64 0, .int .i64 0, .int .i64 0, .int .i64 0, .int .i64 0, .slice none 0 0, .int .i64 0, .int .i64 0, .int .i64 0, .int .i64 0, .int .i64 0, .int .i64 0, .int .i64 0, .slice none 0 0, .int .i64 0, .bool false, .int .i64 0, .int .i64 0, .int .i64 0, .slice none 0 0, .slice none 0 0, .int .i64 0, .slice none 0 0, .slice none 0 0] 57)).size (fun k e => by injection e with e; have := HE1.out.size; omega)); clear hB2 hg2)
  clear a0 a1 a2 bd1 bd2 HZ HI HSZ H1
  have HN := Lib.hid (show X0.heap.size ≤ X1.heap.size from HE1.out.size)
  have a4 := ((HB.out.ext HE2.out).cell 4).trans (show _ = some (.int .i64 ep) by rw [HVA.out]; rfl)
  have a6 := ((HB.out.ext HE2.out).cell 6).trans (show _ = some (.int .i64 0) by rw [HVA.out]; rfl)
  go_quiet (first | (go_at_call 46; with_reducible refine Calls.quiet_of_same (K4.out _)) | (go_at_call 46; with_reducible refine Calls.quiet_of_same (K6.out _)))
  clear a4 a6
  obtain ⟨X3, hX3⟩ : ∃ X3, X3 = X2.drewN nq := ⟨_, rfl⟩
  rw [← hX3]
  have HE3 := Lib.hid (show Below X0.heap.size X0 X3 by rw [hX3]; exact ext_drewN HE2.out _)
  have HO3 := Lib.hid (show Blk X3 X1.heap.size 57 oa by rw [hX3]; exact HO2.out.ext (ext_drewN (ext_refl _) _))
  clear hX3
  go_upto_region 5 with (fail)
  have a3 := ((HB.out.ext HE3.out).cell 3).trans (show _ = some (.int .i64 0) by rw [HVA.out]; rfl)
  have a7 := ((HB.out.ext HE3.out).cell 7).trans (show _ = some (.int .i64 np) by rw [HVA.out]; rfl)
  go_quiet (first | (go_at_call 46; with_reducible refine Calls.quiet_of_same (K3.out _)) | (go_at_call 46; with_reducible refine Calls.quiet_of_same (K7.out _)))
  clear a3 a7
  obtain ⟨X4, hX4⟩ : ∃ X4, X4 = X3.drewN nq := ⟨_, rfl⟩
  rw [← hX4]
  have HE4 := Lib.hid (show Below X0.heap.size X0 X4 by rw [hX4]; exact ext_drewN HE3.out _)
  have HO4 := Lib.hid (show Blk X4 X1.heap.size 57 oa by rw [hX4]; exact HO3.out.ext (ext_drewN (ext_refl _) _))
  clear hX4
  have a5 := ((HB.out.ext HE4.out).cell 5).trans (show _ = some (.int .i64 0) by rw [HVA.out]; rfl)
  have a0 := ((HB.out.ext HE4.out).cell 0).trans (show _ = some (.int .i64 2) by rw [HVA.out]; rfl)
  go_upto_region 13 with (go_at_call 46; with_reducible refine (K5.out _).mono ?_; rintro e w' ⟨rfl, hw5⟩; subst w')
  clear a5 a0
  have a9 := ((HB.out.ext HE4.out).cell 9).trans (show _ = some (.int .i64 p) by rw [HVA.out]; rfl)
  have a7 := ((HB.out.ext HE4.out).cell 7).trans (show _ = some (.int .i64 np) by rw [HVA.out]; rfl)
  have a4 := ((HB.out.ext HE4.out).cell 4).trans (show _ = some (.int .i64 ep) by rw [HVA.out]; rfl)
  have c9 := (HO4.out.cell 9).trans (show _ = some (.int .i64 0) by rw [HOA.out]; rfl)
  have c7 := (HO4.out.cell 7).trans (show _ = some (.int .i64 0) by rw [HOA.out]; rfl)
  have c4 := (HO4.out.cell 4).trans (show _ = some (.int .i64 0) by rw [HOA.out]; rfl)
  have g9 := HO4.out.frozen 9
  have g7 := HO4.out.frozen 7
  have g4 := HO4.out.frozen 4
  go_region
  obtain ⟨Y, hY⟩ : ∃ Y, Y = ((((X4).setCell ⟨X1.heap.size, 9, none⟩ (.int .i64 p)).setCell ⟨X1.heap.size, 7, none⟩ (.int .i64 np)).setCell ⟨X1.heap.size, 4, none⟩ (.int .i64 ep)).drew := ⟨_, rfl⟩
  rw [← hY]
  have HEY := Lib.hid (show Below w.heap.size w Y by rw [hY]; exact (ext_set (ext_set (ext_set (ext_call HE.out HE4.out) (Nat.le_trans HE.out.size HN.out) _) (Nat.le_trans HE.out.size HN.out) _) (Nat.le_trans HE.out.size HN.out) _).drew)
  have HBY := Lib.hid (show Blk Y w.heap.size 57 va by rw [hY]; exact Blk.drew ((((HB.out.ext HE4.out).far (by have := HB.out.lt; have := HN.out; simp; omega) _).far (by have := HB.out.lt; have := HN.out; simp; omega) _).far (by have := HB.out.lt; have := HN.out; simp; omega) _))
  have HOY := Lib.hid (show Blk Y X1.heap.size 57 va by rw [hY]; have h9 := Blk.drew ((((HO4.out).set_ 9 (.int .i64 p)).set_ 7 (.int .i64 np)).set_ 4 (.int .i64 ep)); rwa [show (((oa).setIfInBounds 9 (.int .i64 p)).setIfInBounds 7 (.int .i64 np)).setIfInBounds 4 (.int .i64 ep) = va by rw [HOA.out, HVA.out]; kernel_rfl] at h9)
  clear hY a9 c9 g9 a7 c7 g7 a4 c4 g4
  have a9 := (HBY.out.cell 9).trans (show _ = some (.int .i64 p) by rw [HVA.out]; rfl)
  have a7 := (HBY.out.cell 7).trans (show _ = some (.int .i64 np) by rw [HVA.out]; rfl)
  have l1 := ld_blk (P := Tryz.prog) HBY.out (show Array.extract va 0 47 = va by rw [HVA.out]; kernel_rfl) Tryz.underlying57 rfl (by rw [HVA.out]; kernel_rfl)
  have l2 := ld_blk (P := Tryz.prog) HOY.out (show Array.extract va 0 47 = va by rw [HVA.out]; kernel_rfl) Tryz.underlying57 rfl (by rw [HVA.out]; kernel_rfl)
  obtain ⟨l1, e11⟩ := l1
  obtain ⟨l2, e12⟩ := l2
  have d1 : decide (np > 0) = true := by simp; omega
  have HS := Lib.hid (show ∀ W, Calls Tryz.prog 51 #[.agg va, .agg va] W fun e w' => e = .returned (.bool true) ∧ Below W.heap.size W w' by rw [HVA.out]; exact msgSame (2) (100) (tn) (0) (ep) (0) (0) (np) (0) (p) (0) (0) (0) (0) (0) (0) (0))
  go_wp2_with (first | (go_at_call 46; with_reducible refine (K9.out _).mono ?_; rintro e w' ⟨rfl, hw5⟩; subst w') | (go_at_call 51; with_reducible refine (HS.out _).mono ?_; rintro e W9 ⟨rfl, hb9⟩; have HE9 := Lib.hid (ext_call HEY.out hb9); clear hb9))
  go_ret
  exact ⟨rfl, HE9.out⟩

end Go.Proofs.YtbgfmbmcabekeaaGreatDoor
