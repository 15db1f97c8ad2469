/-
  package cachetierlaw27: OriginAsked returns true.
-/
import Derived.Test.YtnajpjnnlocfgaaGreatDoorJ51
import Derived.Deep.Cut
import Derived.Deep.CutRange
set_option linter.unusedSimpArgs false
set_option linter.unusedVariables false
namespace Go.Proofs.YtnajpjnnlocfgaaGreatDoor
open Go.RowKit Go.Shelf
attribute [local go_sem ↓] ld_exec ld_sem bd_exec bd_sem bs_exec bs_sem Go.wp_at_zero Go.wp_at_succ
theorem TabAt.ext {w W:World} {v:Value} {X:List (List (Int × Int × Int))} (h:TabAt w v X) (k:Below w.heap.size w W):TabAt W v X:=by
  obtain ⟨A,c,rfl,h⟩:=h
  refine ⟨A,c,rfl,fun h0=>?_⟩
  obtain ⟨b,off,hA,hc⟩:=h h0
  exact ⟨b,off,hA,fun j T hT=>by obtain ⟨u,hu,ht⟩:=hc j T hT;exact ⟨u,cell_ext hu k,ht.ext k⟩⟩
theorem pick_nat (c n:Int) (hn:0<n) (hn2:n≤1000) (hc : -9223372036854775808≤c) (hc2:c≤9223372036854775807):∃ k:Nat,(k:Int)<n∧∀ w:World,Calls Tryz.prog 7 #[.int .i64 c,.int .i64 n] w fun e w'=>e=.returned (.int .i64 (k:Int))∧w=w':=by
  have h:=pickF_lt c n hn
  obtain ⟨k,hk⟩:=Int.eq_ofNat_of_zero_le h.1
  refine ⟨k,by rw [← hk];exact h.2,fun w=>?_⟩
  have h2:=pick_any c n hn hn2 hc hc2 w
  rw [hk] at h2
  exact h2
end Go.Proofs.YtnajpjnnlocfgaaGreatDoor
