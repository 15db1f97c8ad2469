/-
  package origin: Position, Root, State at a server whose values are told.
-/
import Derived.Test.YtbgfmbmcabekeaaGreatDoorJ18
import Derived.Test.YtbgfmbmcabekeaaGreatDoorJ34
import Derived.Test.YtbgfmbmcabekeaaGreatDoorJ36
set_option linter.unusedSimpArgs false
set_option linter.unusedVariables false

namespace Go.Proofs.YtbgfmbmcabekeaaGreatDoor
open Go.RowKit Go.Shelf

section
variable {B gs gl gst gm : Nat} {cs : Array Value} {rv hv : Value} {R : List (List ChgT × Nat × Nat)} {H : List (ByteArray × ByteArray)} {rs : List RowT} {w : World}
theorem ServX.cell0 (h : ServX B w gs gl gst gm cs rv hv R H rs) : w.cell? ⟨gs, 0, none⟩ = some (.pointer (some ⟨gl, 0, none⟩)) := (h.srv.cell 0).trans h.c0
theorem ServX.pos (h : ServX B w gs gl gst gm cs rv hv R H rs) : Calls Tryz.prog 16 #[.pointer (some ⟨gs, 0, none⟩)] w fun e w' => e = .returned (.int .i64 (R.length : Int)) ∧ w = w' := by
  obtain ⟨A, c, hrv⟩ := own_shape h.log.recs
  have hl := h.log.log
  rw [hrv] at hl
  exact srvPos gs gl R.length c A hv w h.cell0 hl
theorem ServX.root (h : ServX B w gs gl gst gm cs rv hv R H rs) (hn : R.length ≤ 50) (hR : RoundOK w) : Calls Tryz.prog 24 #[.pointer (some ⟨gs, 0, none⟩)] w fun e w' => e = .returned (.string (logRootF H)) ∧ Below w.heap.size w w' :=
  srvRootX B gs gl rv hv R H (by have := h.log.len; omega) w h.cell0 h.log hR
theorem ServX.state (h : ServX B w gs gl gst gm cs rv hv R H rs) (hn : R.length ≤ 50) : Calls Tryz.prog 25 #[.pointer (some ⟨gs, 0, none⟩), .int .i64 (R.length : Int)] w fun e w' =>
    ∃ ga ma, e = .returned (.tuple #[.pointer (some ⟨ga, 0, none⟩), .bool true]) ∧ StateR w' ga ma (R.length : Int) rs ∧ w.heap.size ≤ ga ∧ w.heap.size ≤ ma ∧ Below w.heap.size w w' := by
  refine (stateS B gs gl rv hv R H (by omega) h.good h.run R.length (Nat.le_refl _) w h.cell0 h.log).mono ?_
  rintro e w' ⟨ga, ma, h1, h2, h3⟩
  rw [List.take_of_length_le (by rw [trs_length]; exact Nat.le_refl _), ← h.rows] at h2
  exact ⟨ga, ma, h1, h2, h3⟩
theorem ServX.stRoot (h : ServX B w gs gl gst gm cs rv hv R H rs) {ga ma : Nat} {pos : Int} {W : World} (hS : StateR W ga ma pos rs) (hR : RoundOK W) : Calls Tryz.prog 26 #[.pointer (some ⟨ga, 0, none⟩)] W fun e w' => e = .returned (.string (stRootF rs)) ∧ Below W.heap.size W w' :=
  stateRootS rs h.rok h.size h.apart ga ma pos W hS hR
theorem ServX.last (h : ServX B w gs gl gst gm cs rv hv R H rs) : ∃ x, H[R.length]? = some x := ⟨_, List.getElem?_eq_getElem (by have := h.log.len; omega)⟩
/-- what Commit changes is older than what is made later -/
theorem ServX.fresh (h : ServX B w gs gl gst gm cs rv hv R H rs) : ∀ k : Nat, w.heap.size ≤ k → ¬ (StS gst gm k ∨ ApX gl rv hv k) := fun k hk => by
  rintro ((h1 | h1) | (h1 | h1 | h1))
  · have := h.st.1.lt; omega
  · have := h.st.2.lt; omega
  · have := h.log.log.lt; omega
  · have := (h.log.recs.lt k h1).2; omega
  · have := (h.log.heads.lt k h1).2; omega
end
theorem StateR.extF {w W : World} {ga ma B : Nat} {pos : Int} {rs : List RowT} {S : Nat → Prop} (h : StateR w ga ma pos rs) (h1 : B ≤ ga) (h2 : B ≤ ma) (hS : ∀ k, B ≤ k → ¬ S k) (k : ExtS S w W) : StateR W ga ma pos rs := by
  refine ⟨ExtS.blk h.1 k (hS ga h1), ?_⟩
  obtain ⟨es, c, hm, h3⟩ := h.2
  exact ⟨es, c, (k.block ma hm.lt (hS ma h2)).trans hm, h3⟩

end Go.Proofs.YtbgfmbmcabekeaaGreatDoor
