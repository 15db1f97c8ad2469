/-
  The statement on AuditorRefuses: for every root, number, head and list of strings the law returns true, and its arguments read as before. Condition: the two listed package variables read as the program's own initialisers lay them (the card ties them to the text).
-/
import Derived.Test.YtimoapjhepmehaaGreatDoorJ17
import Derived.Test.YtimoapjhepmehaaGreatDoorJ18
import Derived.Test.YtimoapjhepmehaaGreatDoorCards
import Derived.Test.YtimoapjhepmehaaGreatDoorTie
import Derived.ProofKit
import Derived.LaidMore
import Derived.OpenShut
import Derived.Stop.Joined
import Derived.Lib.LaidTab
import Derived.Lib.SmallJoins
import Derived.SliceStrings
import Derived.SevenTiedAt
set_option linter.unusedSimpArgs false
set_option linter.unusedVariables false

namespace Go.Proofs.YtimoapjhepmehaaGreatDoor
open Go.ChangeShapes Go.WideShapes Go.ChangeAt Go.WideMaps Go.WideElems Go.RowKit Go.Joins
open Go.ChangeMaps (open_string shut_string)

theorem refusesYes (S : Nat → Prop) (root c s : ByteArray) (n p : Int) (v : Value) (l : List ByteArray) (w : World) (hv : Strs S w v l) (hR : RoundOK w) (hl : l.length ≤ maxLen) :
    Calls Tryz.prog 4 #[.string root, .int .i64 n, .agg #[.int .i64 p, .string c, .string s], v] w fun e w' => e = .returned (.bool true) ∧ Below w.heap.size w w' :=
  refusesCore S root c s n p v l w hv hR hl saneYes

theorem ownKnob_none : ownKnob Tryz.prog.godebug = none := by kernel_rfl
theorem laidOut_ok : laidOutB Tryz.prog = true := by kernel_rfl
theorem gRound : Tryz.prog.globalNamed "cachetier/digest.round" = some 1 := by kernel_rfl
theorem gRoundType : (Tryz.prog.globals[1]?).map (·.type) = some 278 := by kernel_rfl
theorem cells_round : Tryz.prog.cellsOf 278 = 64 := by kernel_rfl
theorem cells_u32 : Tryz.prog.cellsOf 229 = 1 := by kernel_rfl
theorem cells_head : Tryz.prog.cellsOf 52 = 3 := by kernel_rfl
theorem cells_str : Tryz.prog.cellsOf 9 = 1 := by kernel_rfl

/-- WHAT THE ROW's LIST GIVES: the table of the digest's words lies where it was laid. -/
theorem round_of_laid {W : World} (h : laidMetH Tryz.prog Rows.auditorRefusesRow.laid W) : RoundOK W := by
  rw [MakeChecks.laidMetH_plain _ _ _ (by kernel_rfl)] at h
  have ht : Lib.TabIs Tryz.prog W "cachetier/digest.round" .u32 kList :=
    Lib.tabIs_of_head (rest := [("cachetier/proof.errMisfit", Rows.laid_cachetier_proof_errMisfit)]) gRound gRoundType Tryz.underlying278 Tryz.underlying229 cells_u32 cells_round h
  intro j v hv
  rw [List.getElem?_map, Option.map_eq_some_iff] at hv
  obtain ⟨z, hz, rfl⟩ := hv
  have hj := (List.getElem?_eq_some_iff.1 hz).1
  have h1 := ht.cell gRound j hj
  rw [List.getD_eq_getElem?_getD, hz] at h1
  rw [Nat.zero_add]
  exact h1

/-- The door's own heap meets the condition: three closed facts. -/
theorem door_met (os : Os) (args : Array Value) : laidMetH Tryz.prog Rows.auditorRefusesRow.laid ((World.doorLaid Tryz.prog 33 os).forCall (fun _ _ => 0) ⟨#[], args, []⟩).memory :=
  laidMetH_of_parts3 (fuel := 8) (laidMet_of_run' 8 (by kernel_rfl) (by kernel_rfl)) (by kernel_rfl) (by kernel_rfl)

set_option maxRecDepth 100000 in
theorem refuses_lifted (os : Os) (started : os.Started) (H : Type) (enc : TypeId × Value → H) :
    ReturnsInHanded {} Tryz.checked os 4 .any (fun w args => (Rows.auditorRefusesSpec.pre enc Tryz.prog Tryz.f4 [] false w args ∧ laidMetH Tryz.prog Rows.auditorRefusesRow.laid w) ∧ sizedMet enc Tryz.prog Tryz.f4 (OpenSpec.ofChange Rows.auditorRefusesSpec) false w args)
      (Rows.auditorRefusesSpec.post enc Tryz.prog Tryz.f4 false true false false) := by
  refine returnsInHanded_of_change_and (C := Tryz.checked) (X := fun w _ => laidMetH Tryz.prog Rows.auditorRefusesRow.laid w) (fun _ _ _ hh h => h.of_heap hh) ownKnob_none started (by kernel_rfl) Tryz.func4
    (ChangeSpec.witness_shaped (enc := enc) (C := Tryz.checked) (os := os) (X := fun w _ => laidMetH Tryz.prog Rows.auditorRefusesRow.laid w) false (World.doorLaid Tryz.prog 33 os) #[.string ⟨#[]⟩, .int .i64 0, .agg #[.int .i64 0, .string ⟨#[]⟩, .string ⟨#[]⟩], .slice none 0 0] 8 rfl (World.shaped_of_RefB (by kernel_rfl) (by kernel_rfl)) (by kernel_rfl) (by kernel_rfl) (by kernel_rfl) (door_met os _)) ?_
  intro W base args ds gs before hval0 hW _ _ hL _
  have hval : ∀ (j : Nat) t v, Tryz.f4.params[j]? = some t → args[j]? = some v → Value.okWide Tryz.prog W .any base t v := hval0
  have hW' := hW
  obtain ⟨p, q, hA0, hV, rfl, hfz, hnd⟩ := hW
  have hA : DataW.TrodAll enc Tryz.prog W 0 (fun _ => true) true Tryz.f4.params.toList args.toList ds p := hA0
  rw [Tryz.params4] at hA hval
  obtain ⟨v0, v1, v2, v3, d0, d1, d2, d3, p0, p1, p2, p3, rfl, rfl, hp, h0, h1, h2, h3⟩ := trodAll_four hA
  obtain ⟨rfl, rfl⟩ := trodVars_none hV
  clear hA0 hval0
  have hlt : ∀ x ∈ p, x.block < W.heap.size := fun x hx => by simpa using hW'.lt x (List.mem_append_left _ hx)
  have hlt0 : ∀ x ∈ p0, x.block < W.heap.size := fun x hx => hlt x (by rw [hp]; simp [hx])
  have hlt1 : ∀ x ∈ p1, x.block < W.heap.size := fun x hx => hlt x (by rw [hp]; simp [hx])
  have hlt2 : ∀ x ∈ p2, x.block < W.heap.size := fun x hx => hlt x (by rw [hp]; simp [hx])
  have hlt3 : ∀ x ∈ p3, x.block < W.heap.size := fun x hx => hlt x (by rw [hp]; simp [hx])
  have hargs : ∀ W' : World, Below W.heap.size W W' → DataW.TrodAll enc Tryz.prog W' 0 (fun b => decide (b < W.heap.size)) true [9, 3, 52, 53] [v0, v1, v2, v3] [d0, d1, d2, d3] (p0 ++ (p1 ++ (p2 ++ p3))) := fun W' hb =>
    trodAll_mk4 (Below.trod laidOut_ok (by kernel_rfl) (of_decide_eq_true (by kernel_rfl)) h0 hb hlt0) (Below.trod laidOut_ok (by kernel_rfl) (of_decide_eq_true (by kernel_rfl)) h1 hb hlt1)
      (Below.trod laidOut_ok (by kernel_rfl) (of_decide_eq_true (by kernel_rfl)) h2 hb hlt2) (Below.trod laidOut_ok (by kernel_rfl) (of_decide_eq_true (by kernel_rfl)) h3 hb hlt3)
  have hwalk : Calls Tryz.prog 4 #[v0, v1, v2, v3] W fun e W' => e = .returned (.bool true) ∧ Below W.heap.size W W' := by
    obtain ⟨root, rfl, _, _, _⟩ := open_string Tryz.underlying9 (hval 0 9 v0 rfl rfl) h0
    obtain ⟨n, rfl, _, _, _⟩ := open_int Tryz.underlying3 (hval 1 3 v1 rfl rfl) h1
    obtain ⟨c0, c1, c2, y0, y1, y2, m, rfl, _, _, hy0, hy1, hy2⟩ := open_agg3 Tryz.underlying52 (by kernel_rfl) cells_head (hval 2 52 v2 rfl rfl) h2
    obtain ⟨b, e0, _, _⟩ := DataW.trod_int Tryz.underlying3 hy0
    obtain ⟨c, e1, _, _⟩ := DataW.trod_string Tryz.underlying9 hy1
    obtain ⟨s, e2, _, _⟩ := DataW.trod_string Tryz.underlying9 hy2
    simp at e0 e1 e2
    subst e0 e1 e2
    obtain ⟨a0, len, cap, rfl⟩ := okWide_slice Tryz.underlying53 (hval 3 53 v3 rfl rfl)
    obtain ⟨fuel, hf⟩ := h3
    rcases open_strings Tryz.underlying53 Tryz.underlying9 cells_str hf with ⟨hcs, _⟩ | ⟨a, len', cap', ss, hcs, _, hl, hm, hz, _, hcell, _⟩
    · obtain ⟨rfl, rfl, rfl⟩ : a0 = none ∧ len = 0 ∧ cap = 0 := by simpa [Value.cells] using hcs
      exact refusesYes (fun _ => True) root c s n b _ [] W (Strs.nil_ _ _) (round_of_laid hL) (by simp)
    · obtain ⟨rfl, rfl, rfl⟩ : a0 = some a ∧ len = len' ∧ cap = cap' := by simpa [Value.cells] using hcs
      simp only [if_true] at hz
      have htl : (ss.take len).length = len := by simp; omega
      refine refusesYes (fun _ => True) root c s n b _ (ss.take len) W ⟨some a, cap, by rw [htl], by omega, fun hpos => ?_⟩ (round_of_laid hL) (by omega)
      obtain ⟨bk, off, spot⟩ := a
      have hspot : spot = none := by simpa [Addr.add] using World.cell?_spot (hcell 0 (by omega))
      subst hspot
      refine ⟨bk, off, rfl, trivial, fun j x hx => ?_⟩
      have hj : j < len := by
        have := (List.getElem?_eq_some_iff.1 hx).1
        omega
      have h := hcell j (by omega)
      rw [add_plain] at h
      rw [h]
      rw [List.getElem?_take, if_pos hj] at hx
      rw [List.getD_eq_getElem?_getD, hx]
      rfl
  refine hwalk.mono fun e W' ⟨he, hb⟩ => ?_
  subst he
  refine ⟨_, rfl, _, _, _, [], p0 ++ (p1 ++ (p2 ++ p3)), [], hW', ?_, ?_, ?_, hb.frame _, fun h => by cases h⟩
  · exact trodAll_mk1 (shut_bool Tryz.underlying4 true)
  · exact hargs W' hb
  · rfl

theorem refuses_said : Rows.AuditorRefusesSaid :=
  OpenClaim.holds_of_wide 4 Tryz.f4 rfl rfl rfl rfl rfl rfl rfl ⟨rfl, rfl, rfl, rfl, rfl⟩ rfl rfl rfl rfl rfl (by kernel_rfl) Tryz.func4 (by kernel_rfl)
    (of_decide_eq_true (by kernel_rfl)) (by unfold Func.isWrapper; first | (rw [if_pos (by decide +kernel)]; kernel_rfl) | (rw [if_neg (by decide +kernel)]; exact ⟨rfl, rfl⟩))
    (fun os started H enc _ => refuses_lifted os started H enc)

/-- No parameter wants a stand-in; what the card asks of the program's own looks. -/
theorem refuses_plain (f : FuncId) (fn : Func) (hf : Tryz.pinned.checked.prog.funcNamed "cachetier/cachetierlaw29.AuditorRefuses" = some f) (hfn : Tryz.pinned.checked.prog.funcs[f]? = some fn) :
    true = Tryz.pinned.checked.prog.looks [] ∧ ∀ (j : Nat) t, fn.params[j]? = some t → Tryz.pinned.checked.prog.wantsStandIn t = false := by
  obtain rfl : f = 4 := Option.some.inj ((show Tryz.prog.funcNamed "cachetier/cachetierlaw29.AuditorRefuses" = some 4 by kernel_rfl).symm.trans hf) |>.symm
  obtain rfl : fn = Tryz.f4 := (Option.some.inj (Tryz.func4.symm.trans hfn)).symm
  refine ⟨by kernel_rfl, fun j t ht => ?_⟩
  rw [Tryz.params4] at ht
  have hm : t ∈ [9, 3, 52, 53] := by simpa using Array.mem_of_getElem? ht
  have hall : ([9, 3, 52, 53].all fun u => !Tryz.prog.wantsStandIn u) = true := by kernel_rfl
  exact (show Tryz.prog.wantsStandIn t = false by simpa using List.all_eq_true.1 hall t hm)

/-- THE CARD. -/
theorem auditorRefuses_holds : Rows.AuditorRefusesCardSaid :=
  Claim7.holds_tied_plain_at .later [] _ _ _ _ refuses_said (fun _ h => by cases h) (by kernel_rfl) (fun _ h => by cases h) auditorRefuses_row_tie rfl ⟨rfl, rfl⟩ (by kernel_rfl) rfl refuses_plain (by kernel_rfl)

end Go.Proofs.YtimoapjhepmehaaGreatDoor
