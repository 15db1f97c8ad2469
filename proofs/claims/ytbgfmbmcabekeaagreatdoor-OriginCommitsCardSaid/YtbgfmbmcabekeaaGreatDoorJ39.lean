/-
  package cachetierlaw27: OriginAsked returns true.
-/
import Derived.Test.YtbgfmbmcabekeaaGreatDoorJ38
import Derived.Deep.Cut
import Derived.Deep.CutRange
set_option linter.unusedSimpArgs false
set_option linter.unusedVariables false

namespace Go.Proofs.YtbgfmbmcabekeaaGreatDoor
open Go.RowKit Go.Shelf
attribute [local go_sem ↓] ld_exec ld_sem bd_exec bd_sem bs_exec bs_sem Go.wp_at_zero Go.wp_at_succ

theorem TabAt.ext {w W : World} {v : Value} {X : List (List (Int × Int × Int))} (h : TabAt w v X) (k : Below w.heap.size w W) : TabAt W v X := by
  obtain ⟨A, c, rfl, h⟩ := h
  refine ⟨A, c, rfl, fun h0 => ?_⟩
  obtain ⟨b, off, hA, hc⟩ := h h0
  exact ⟨b, off, hA, fun j T hT => by obtain ⟨u, hu, ht⟩ := hc j T hT; exact ⟨u, cell_ext hu k, ht.ext k⟩⟩
end Go.Proofs.YtbgfmbmcabekeaaGreatDoor
