/-
  Part 12 of 17: the contracts that the proof of the last part uses; each stands under its own head.
-/
import Derived.Test.YtbgfmbmcabekeaaGreatDoorJ11
import Derived.Test.YtbgfmbmcabekeaaGreatDoorJ10
import Derived.Test.YtbgfmbmcabekeaaGreatDoorJ8
import Derived.Test.YtbgfmbmcabekeaaGreatDoorJ5
import Derived.Test.YtbgfmbmcabekeaaGreatDoorJ2
set_option linter.unusedSimpArgs false
set_option linter.unusedVariables false

/-
  package origin: Receive of the law's miss.
-/
namespace Go.Proofs.YtbgfmbmcabekeaaGreatDoor
open Go.RowKit Go.Shelf
attribute [local go_sem ↓] ld_exec ld_sem
set_option maxRecDepth 100000 in
set_option maxHeartbeats 4000000 in
theorem recvMiss (one : Bool) (q : Nat) (hq : q = if one then 1 else 0) (lag : Int) (hlag : lag = if one then 0 else 1) (gs gl gst gn gp np cp nm cm no co : Nat) (er sent : Int) (Am Ao : Option Addr) (w : World) (hR : RoundOK w) (hs : SrvAt w gs gl gst gn gp np cp lag er sent Am nm cm Ao no co) (ho : OneRec w gl) :
    Calls Tryz.prog 20 #[.pointer (some ⟨gs, 0, none⟩), .agg #[.int .i64 7, .int .i64 2, .int .i64 100, .int .i64 0, .int .i64 0, .int .i64 0, .int .i64 7, .int .i64 0, .int .i64 0, .int .i64 0, .int .i64 1, .int .i64 0, .int .i64 0, .int .i64 5, .int .i64 5, .int .i64 0, .int .i64 0, .int .i64 0, .slice none 0 0, .int .i64 0, .int .i64 0, .int .i64 0, .int .i64 0, .int .i64 0, .int .i64 0, .int .i64 0, .int .i64 0, .int .i64 0, .slice none 0 0, .int .i64 0, .int .i64 0, .int .i64 0, .int .i64 0, .int .i64 0, .int .i64 0, .int .i64 0, .slice none 0 0, .int .i64 0, .bool false, .int .i64 0, .int .i64 0, .int .i64 0, .slice none 0 0, .slice none 0 0, .int .i64 0, .slice none 0 0, .slice none 0 0]] w fun e w' => ∃ g A n1 c1, e = .returned (.slice (some ⟨g, 0, none⟩) 1 1) ∧ Blk w' g 57 #[.int .i64 8, .int .i64 100, .int .i64 2, .int .i64 0, .int .i64 0, .int .i64 0, .int .i64 7, .int .i64 0, .int .i64 0, .int .i64 0, .int .i64 0, .int .i64 0, .int .i64 0, .int .i64 0, .int .i64 0, .int .i64 0, .int .i64 0, .int .i64 0, .slice none 0 0, .int .i64 1, .int .i64 0, .int .i64 0, .int .i64 5, .int .i64 5, .int .i64 0, .int .i64 0, .int .i64 0, .int .i64 (q : Int), .slice A n1 c1, .int .i64 0, .int .i64 0, .int .i64 0, .int .i64 0, .int .i64 0, .int .i64 0, .int .i64 0, .slice none 0 0, .int .i64 0, .bool false, .int .i64 0, .int .i64 0, .int .i64 0, .slice none 0 0, .slice none 0 0, .int .i64 0, .slice none 0 0, .slice none 0 0] ∧ Below w.heap.size w w' := by
  obtain ⟨va, hva⟩ : ∃ va : Array Value, va = #[.int .i64 7, .int .i64 2, .int .i64 100, .int .i64 0, .int .i64 0, .int .i64 0, .int .i64 7, .int .i64 0, .int .i64 0, .int .i64 0, .int .i64 1, .int .i64 0, .int .i64 0, .int .i64 5, .int .i64 5, .int .i64 0, .int .i64 0, .int .i64 0, .slice none 0 0, .int .i64 0, .int .i64 0, .int .i64 0, .int .i64 0, .int .i64 0, .int .i64 0, .int .i64 0, .int .i64 0, .int .i64 0, .slice none 0 0, .int .i64 0, .int .i64 0, .int .i64 0, .int .i64 0, .int .i64 0, .int .i64 0, .int .i64 0, .slice none 0 0, .int .i64 0, .bool false, .int .i64 0, .int .i64 0, .int .i64 0, .slice none 0 0, .slice none 0 0, .int .i64 0, .slice none 0 0, .slice none 0 0] := ⟨_, rfl⟩
  obtain ⟨X, hX⟩ : ∃ X, X = w.alloc (.cells va 57) := ⟨_, rfl⟩
  have HX := Lib.hid hX
  have HE := Lib.hid (show Below w.heap.size w X by rw [hX]; exact ext_new _ _)
  have HB := Lib.hid (show Blk X w.heap.size 57 va by rw [hX]; exact Blk.new _ _ _)
  have HVA := Lib.hid hva
  have HV := Lib.hid (show ∀ W, Calls Tryz.prog 17 #[.agg va] W fun e w' => e = .returned (.bool true) ∧ Below W.heap.size W w' by rw [hva]; intro W; exact validMiss W)
  have HH := Lib.hid (show ∀ W, Below w.heap.size w W → Calls Tryz.prog 92 #[.pointer (some ⟨gs, 0, none⟩), .agg va] W fun e w' => ∃ g A n1 c1, e = .returned (.slice (some ⟨g, 0, none⟩) 1 1) ∧ Blk w' g 57 #[.int .i64 8, .int .i64 100, .int .i64 2, .int .i64 0, .int .i64 0, .int .i64 0, .int .i64 7, .int .i64 0, .int .i64 0, .int .i64 0, .int .i64 0, .int .i64 0, .int .i64 0, .int .i64 0, .int .i64 0, .int .i64 0, .int .i64 0, .int .i64 0, .slice none 0 0, .int .i64 1, .int .i64 0, .int .i64 0, .int .i64 5, .int .i64 5, .int .i64 0, .int .i64 0, .int .i64 0, .int .i64 (q : Int), .slice A n1 c1, .int .i64 0, .int .i64 0, .int .i64 0, .int .i64 0, .int .i64 0, .int .i64 0, .int .i64 0, .slice none 0 0, .int .i64 0, .bool false, .int .i64 0, .int .i64 0, .int .i64 0, .slice none 0 0, .slice none 0 0, .int .i64 0, .slice none 0 0, .slice none 0 0] ∧ Below W.heap.size W w' by rw [hva]; intro W k; exact miss_any one q hq lag hlag gs gl gst gn gp np cp nm cm no co er sent Am Ao W (hR.below k) (hs.ext k) (ho.ext k))
  rw [← hva]
  clear hX hva hq hlag hR hs ho
  have l1 := ld_blk (P := Tryz.prog) HB.out (show Array.extract va 0 47 = va by rw [HVA.out]; kernel_rfl) Tryz.underlying57 rfl (by rw [HVA.out]; kernel_rfl)
  obtain ⟨l1, e1⟩ := l1
  go_enter Tryz.func20, Tryz.ntmps20
  go_upto_region 1 with (fail)
  rw [← HX.out]
  go_wp2_with fail
  refine (HV.out X).mono ?_
  rintro e Z ⟨rfl, hbz⟩
  have HEZ := Lib.hid (ext_call HE.out hbz)
  have HBZ := Lib.hid (HB.out.ext hbz)
  clear hbz l1 e1
  have a2 := (HBZ.out.cell 2).trans (show _ = some (.int .i64 100) by rw [HVA.out]; rfl)
  have a0 := (HBZ.out.cell 0).trans (show _ = some (.int .i64 7) by rw [HVA.out]; rfl)
  have HAn := Lib.hid (fun (W : World) (k : Below Z.heap.size Z W) => show Calls Tryz.prog 52 #[] W fun e w' => ∃ g, e = .returned (.map (some g)) ∧ w'.cell? ⟨w.heap.size, 0, none⟩ = some (.int .i64 7) ∧ (Instr.lookup 119 (.map (some g)) (.int .i64 7) true).run Tryz.prog w' = .ok (.tuple #[.func (.func 92) #[] #[], .bool true]) w' ∧ Below W.heap.size W w' from (answers_any W).mono fun e w' ⟨g, h1, _, h3, h4⟩ =>
      ⟨g, h1, cell_ext (cell_ext a0 k) h4, lookup_Iok (P := Tryz.prog) (w := w') Tryz.underlying119 Tryz.underlying3 h3 7 (z := .nilFunc) (by kernel_rfl), h4⟩)
  go_upto_region 3 with (fail)
  go_region_with (go_at_call 52; refine (HAn.out _ (by first | exact ext_refl Z | exact (ext_refl Z).drew)).mono ?_; rintro e W1 ⟨g, rfl, hk1, hlk, hb1⟩)
  all_goals
    have HE1 := Lib.hid (ext_call HEZ.out (undrew hb1))
    have l1 := ld_blk (P := Tryz.prog) (HBZ.out.ext (undrew hb1)) (show Array.extract va 0 47 = va by rw [HVA.out]; kernel_rfl) Tryz.underlying57 rfl (by rw [HVA.out]; kernel_rfl)
    obtain ⟨l1, e1⟩ := l1
    clear hb1 hlk hk1 a0 a2
    go_wp2_with fail
    refine (HH.out W1 HE1.out).mono ?_
    rintro e W2 ⟨g1, A1, n1, c1, rfl, hb, hb2⟩
    have HE2 := Lib.hid (ext_call HE1.out hb2)
    clear hb2
    go_wp2
    go_ret
    exact ⟨g1, A1, n1, c1, rfl, hb, HE2.out⟩

end Go.Proofs.YtbgfmbmcabekeaaGreatDoor

/-
  package origin: Receive of a message that wants a ring.
-/
namespace Go.Proofs.YtbgfmbmcabekeaaGreatDoor
open Go.RowKit Go.Shelf
attribute [local go_sem ↓] ld_exec ld_sem
end Go.Proofs.YtbgfmbmcabekeaaGreatDoor

/-
  package cachetierref12: SameInts, Same at equal rings.
-/
namespace Go.Proofs.YtbgfmbmcabekeaaGreatDoor
open Go.RowKit Go.Shelf

end Go.Proofs.YtbgfmbmcabekeaaGreatDoor

/-
  Memory words for sane of cachetierlaw27; origin.New once more, with its maps told apart.
-/
namespace Go.Proofs.YtbgfmbmcabekeaaGreatDoor
open Go.RowKit Go.Shelf

theorem own_extS {W W' : World} {S : Nat → Prop} {base n sz : Nat} {e : TypeId} {v : Value} {xs : List Value} (h : W.ownsRow base e sz v n xs) (k : ExtS S W W') (hn : ∀ (g : Nat) (cs : Array Value), Blk W g e cs → ¬ S g) : W'.ownsRow base e sz v n xs := by
  refine ⟨h.1, ?_⟩
  rcases h.2 with hn' | ⟨g, cap, cur, h1, h2, h3, h4⟩
  · exact .inl hn'
  · exact .inr ⟨g, cap, cur, h1, h2, (k.block g (Array.getElem?_eq_some_iff.1 h3).1 (hn g cur h3)).trans h3, h4⟩
theorem OneRec.srv2 {W W' : World} {gs gl gst gn gp np cp nm cm no co : Nat} {lag ep sent : Int} {Am Ao : Option Addr} {kv : List (Int × Value)} (h : OneRec W gl) (hs : SrvAt W gs gl gst gn gp np cp lag ep sent Am nm cm Ao no co) (hm : MapI W gn kv) (k : ExtS (fun j => j = gs ∨ j = gn) W W') : OneRec W' gl := by
  obtain ⟨gr, c, g, d, v, h1, h2, h3, h4⟩ := h.at_
  have n1 : ¬ (gl = gs ∨ gl = gn) := by
    rintro (e | e)
    · exact blkNe h1 hs (by decide) e
    · exact MapI.neBlk hm h1 e
  have n2 : ¬ (gr = gs ∨ gr = gn) := by
    rintro (e | e)
    · subst e
      have h0 := (h3.cell 0).symm.trans (Blk.cell hs 0)
      cases h0
    · exact MapI.ne hm (h3.cell 0 : W.cell? ⟨gr, 0, none⟩ = some (.int .i64 1)) e
  have n3 : ¬ (g = gs ∨ g = gn) := by
    rintro (e | e)
    · subst e
      have h0 := (h4.cell 0).symm.trans (Blk.cell hs 0)
      cases h0
    · exact MapI.ne hm (h4.cell 0 : W.cell? ⟨g, 0, none⟩ = some (.int .i64 0)) e
  exact ⟨gr, c, g, d, v, ExtS.blk h1 k n1, h2, ExtS.headB h3 k n2, ExtS.headB h4 k n3⟩
theorem own_at {W : World} {base e sz n g cap : Nat} {xs : List Value} (h : W.ownsRow base e sz (.slice (some ⟨g, 0, none⟩) n cap) n xs) (j : Nat) (u : Value) (hj : xs[j]? = some u) : W.cell? ⟨g, j, none⟩ = some u := by
  have h1 := h.cells (g := g) rfl j u hj
  rwa [Addr.add_mid, Nat.zero_add] at h1

set_option maxRecDepth 100000 in
set_option maxHeartbeats 2000000 in
theorem originNew2 (w : World) (hR : RoundOK w) : Calls Tryz.prog 8 #[] w fun e w' => ∃ gs gl gst gm gp gn, e = .returned (.pointer (some ⟨gs, 0, none⟩)) ∧ Srv0 w' w.heap.size gs gl gst gm gp gn ∧ gm ≠ gn ∧ Below w.heap.size w w' := by
  have HR := Lib.hid hR
  clear hR
  have hmm := @run_makeMap Tryz.prog
  go_enter Tryz.func8, Tryz.ntmps8
  go_wp2_with fail
  refine (storeNew w).mono ?_
  rintro e W1 ⟨rfl, hw⟩
  have HE1 := Lib.hid (show Below w.heap.size w W1 by rw [← hw]; exact ext_alloc (ext_new _ _) _)
  have HS1 := Lib.hid (show StateIs W1 false (w.heap.size + 1) w.heap.size 0 by rw [← hw]; exact ⟨Blk.new' _ _ _ (by simp), (MapAt.new w).alloc _⟩)
  clear hw
  go_wp2_with fail
  refine (stateRoot false _ _ 0 W1 HS1.out (HR.out.below HE1.out)).mono ?_
  rintro e W2 ⟨rfl, hb2⟩
  have HE2 := Lib.hid (ext_call HE1.out hb2)
  have HS2 := Lib.hid (HS1.out.ext hb2)
  clear hb2 HS1
  go_wp2_with fail
  refine (logNew (stateF false) (stateF_size _) W2).mono ?_
  rintro e W3 ⟨gl, rfl, hl3, hgl, hb3⟩
  have HE3 := Lib.hid (ext_call HE2.out hb3)
  have HS3 := Lib.hid (HS2.out.ext hb3)
  have HL3 := Lib.hid hl3
  have hz2 := HE2.out.size
  have hz3 := HE3.out.size
  have hm3 : w.heap.size < W3.heap.size := HS3.out.2.lt
  clear hb3 hl3 HS2
  go_wp2
  go_ret
  have hP := Blk.new W3 3 #[.int .i64 0]
  have e1 := ext_new W3 (.cells #[.int .i64 0] 3)
  have e2 := ext_alloc e1 (.map #[] 0)
  have hN := MapI.new (W3.alloc (.cells #[.int .i64 0] 3))
  refine ⟨_, gl, _, _, _, _, rfl, ⟨Blk.new' _ _ _ (by simp), (HS3.out.ext e2).ext (ext_new _ _), (HL3.out.ext e2).ext (ext_new _ _), (hP.alloc _).alloc _, ?_, ?_⟩, ?_, ext_alloc (ext_call HE3.out e2) _⟩
  · simpa using hN.ext (ext_new _ _)
  · refine ⟨?_, ?_, ?_, ?_, ?_, ?_⟩ <;> (try simp) <;> omega
  · (try simp); omega

end Go.Proofs.YtbgfmbmcabekeaaGreatDoor

/-
  package cachetierlaw27: sane.
-/
namespace Go.Proofs.YtbgfmbmcabekeaaGreatDoor
open Go.RowKit Go.Shelf
attribute [local go_sem ↓] ld_exec ld_sem bd_exec bd_sem Go.wp_at_zero Go.wp_at_succ

theorem nodes02 : NodesOK [0, 2] := ⟨by decide, by decide, by decide, fun j a b h1 h2 => by
  match j, h1, h2 with
  | 0, h1, h2 => simp at h1 h2; omega
  | 1, h1, h2 => simp at h2
  | (j + 2), h1, h2 => simp at h1⟩

set_option maxRecDepth 100000 in
set_option maxHeartbeats 8000000 in
theorem sane27 (w : World) (hR : RoundOK w) : Calls Tryz.prog 7 #[] w fun e w' => e = .returned (.bool true) ∧ Below w.heap.size w w' := by
  have HR := Lib.hid hR
  clear hR
  go_enter Tryz.func7, Tryz.ntmps7
  go_wp2_with fail
  refine (originNew2 w HR.out).mono ?_
  rintro e W1 ⟨gs, gl, gst, gm, gp, gn, rfl, h0, hgmn, hb1⟩
  have HS1 := Lib.hid (show SrvAt W1 gs gl gst gn gp 1 1 0 0 0 none 0 0 none 0 0 from h0.cells)
  have HT1 := Lib.hid h0.state
  have HL1 := Lib.hid h0.log
  have HP1 := Lib.hid h0.past
  have HM1 := Lib.hid h0.nodes
  have HN1 := Lib.hid h0.new
  have HE1 := Lib.hid hb1
  clear h0 hb1
  go_wp2_with fail
  obtain ⟨W2, hW2⟩ : ∃ W2, W2 = W1.alloc (.cells #[.int .i64 0, .int .i64 5, .bool false, .int .i64 0, .int .i64 0, .int .i64 0, .bool true, .int .i64 1, .int .i64 2, .int .i64 3] 75) := ⟨_, rfl⟩
  rw [← hW2]
  have HE2 := Lib.hid (show Below W1.heap.size W1 W2 by rw [hW2]; exact ext_new _ _)
  have HB2 := Lib.hid (show Blk W2 W1.heap.size 75 #[.int .i64 0, .int .i64 5, .bool false, .int .i64 0, .int .i64 0, .int .i64 0, .bool true, .int .i64 1, .int .i64 2, .int .i64 3] by rw [hW2]; exact Blk.new _ _ _)
  clear hW2
  generalize W1.heap.size = bp at HB2 ⊢
  have HS2 := Lib.hid (HS1.out.ext HE2.out)
  have HT2 := Lib.hid (HT1.out.ext HE2.out)
  have HL2 := Lib.hid (HL1.out.ext HE2.out)
  have HP2 := Lib.hid (HP1.out.ext HE2.out)
  have HM2 := Lib.hid (HM1.out.ext HE2.out)
  have HW2 := Lib.hid (ext_call HE1.out HE2.out)
  have hlog := HL2.out.choose_spec.1
  have nsl : gs ≠ gl := blkNe HS2.out hlog (by decide)
  have nst : gs ≠ gst := blkNe HS2.out HT2.out.1 (by decide)
  have nsm : gs ≠ gm := blkNeMap HS2.out HT2.out.2
  have npl : gp ≠ gl := blkNe HP2.out hlog (by decide)
  have npt : gp ≠ gst := blkNe HP2.out HT2.out.1 (by decide)
  have npm : gp ≠ gm := blkNeMap HP2.out HT2.out.2
  have nps : gp ≠ gs := blkNe HP2.out HS2.out (by decide)
  have npn : gp ≠ gn := MapI.neBlk HM2.out HP2.out
  have nsn : gs ≠ gn := MapI.neBlk HM2.out HS2.out
  have nln : gl ≠ gn := MapI.neBlk HM2.out hlog
  have ntn : gst ≠ gn := MapI.neBlk HM2.out HT2.out.1
  have nbl : bp ≠ gl := blkNe HB2.out hlog (by decide)
  have nbt : bp ≠ gst := blkNe HB2.out HT2.out.1 (by decide)
  have nbm : bp ≠ gm := blkNeMap HB2.out HT2.out.2
  have cS : ¬ ComS gl gst gm gs := by rintro (h | h | h); exact nsl h; exact nst h; exact nsm h
  have cP : ¬ ComS gl gst gm gp := by rintro (h | h | h); exact npl h; exact npt h; exact npm h
  have cN : ¬ ComS gl gst gm gn := by rintro (h | h | h); exact nln h.symm; exact ntn h.symm; exact hgmn h.symm
  have cB : ¬ ComS gl gst gm bp := by rintro (h | h | h); exact nbl h; exact nbt h; exact nbm h
  have HC := Lib.hid (And.intro cS (And.intro cP (And.intro cN cB)))
  have HD := Lib.hid (And.intro nps (And.intro npn nsn))
  have HN := Lib.hid HN1.out
  clear hlog nsl nst nsm npl npt npm nps npn nsn nln ntn nbl nbt nbm cS cP cN cB hgmn HN1 HS1 HT1 HL1 HP1 HM1 HE1 HE2
  refine (commit1 w HR.out gs gl gst gm bp 1 zeros32 zeros32_size W2 HW2.out ⟨HN.out.2.1, HN.out.2.2.1, HN.out.2.2.2.1⟩ (Blk.cell HS2.out 0) (Blk.cell HS2.out 1) HC.out.1 HL2.out (.of HB2.out) HT2.out).mono ?_
  rintro e W3 ⟨rfl, ho3, ht3, hx3⟩
  have HS3 := Lib.hid (HS2.out.extS hx3 HC.out.1)
  have HT3 := Lib.hid ht3
  have HO3 := Lib.hid ho3
  have HP3 := Lib.hid (ExtS.blk HP2.out hx3 HC.out.2.1)
  have HM3 := Lib.hid (HM2.out.extS hx3 HC.out.2.2.1)
  have HB3 := Lib.hid (ExtS.blk HB2.out hx3 HC.out.2.2.2)
  have HW3 := Lib.hid (ExtS.below HW2.out (by rintro k (h | h | h) <;> rw [h]; exact HN.out.2.1; exact HN.out.2.2.1; exact HN.out.2.2.2.1) hx3)
  clear ho3 ht3 hx3 HS2 HT2 HL2 HP2 HM2 HB2 HW2
  go_wp2_with fail
  obtain ⟨gr, cr, ggr, dgr, vgr, hlg, _⟩ := HO3.out.at_
  refine (commit2 gs gl gst gm bp 1 cr _ _ W3 (Blk.cell HS3.out 0) (Blk.cell HS3.out 1) hlg (.of HB3.out) HT3.out).mono ?_
  rintro e W4 ⟨rfl, hb4⟩
  have HS4 := Lib.hid (HS3.out.ext hb4)
  have HO4 := Lib.hid (HO3.out.ext hb4)
  have HP4 := Lib.hid (HP3.out.ext hb4)
  have HM4 := Lib.hid (HM3.out.ext hb4)
  have HW4 := Lib.hid (ext_call HW3.out hb4)
  clear hb4 hlg HS3 HT3 HO3 HP3 HM3 HB3 HW3 HC
  go_wp2_with fail
  have hnums : NumsAt (W4.alloc (.cells #[.int .i64 0, .int .i64 2] 3)) (.slice (some ⟨W4.heap.size, 0, none⟩) 2 2) [0, 2] := ⟨some ⟨W4.heap.size, 0, none⟩, 2, rfl, by decide, fun _ => ⟨W4.heap.size, 0, rfl, fun j n hj => by
    have hb := Blk.new W4 3 #[.int .i64 0, .int .i64 2]
    match j, hj with
    | 0, hj => simp at hj; subst hj; exact hb.cell 0
    | 1, hj => simp at hj; subst hj; exact hb.cell 1
    | (q + 2), hj => simp at hj⟩⟩
  refine (members_any [0, 2] 1 _ _ hnums nodes02 (by omega) (by omega)).mono ?_
  rintro e W5 ⟨r, rfl, ⟨vm, vo, os, rfl, hm5, hn5, hl5, hos5, hlim5⟩, hb5⟩
  have hb5' := ext_call (ext_new W4 _) hb5
  have HS5 := Lib.hid (HS4.out.ext hb5')
  have HO5 := Lib.hid (HO4.out.ext hb5')
  have HP5 := Lib.hid (HP4.out.ext hb5')
  have HM5 := Lib.hid (HM4.out.ext hb5')
  have HW5 := Lib.hid (ext_call HW4.out hb5')
  have HRg := Lib.hid (setRingYes gs gl gst gn gp 1 1 0 0 0 none 0 0 none 0 0 [] [0, 2] os 1 vm vo W5 HS5.out HM5.out hm5 nodes02 hn5 hl5 hos5 hlim5 (by omega) (by omega) (by omega))
  obtain ⟨Avm, cvm, rfl, _⟩ := hm5
  obtain ⟨Avo, cvo, rfl, _⟩ := hn5
  clear hb5 hb5' hnums hl5 hos5 hlim5 HS4 HO4 HP4 HM4 HW4
  go_wp2_with fail
  refine HRg.out.mono ?_
  rintro e W6 ⟨rfl, ⟨Am, nm, cm, Ao, no, co, hs6, hm6, hn6⟩, hmp6, hx6⟩
  have HS6 := Lib.hid hs6
  have HO6 := Lib.hid (HO5.out.srv2 HS5.out HM5.out hx6)
  have HP6 := Lib.hid (ExtS.blk HP5.out hx6 (by rintro (h | h); exact HD.out.1 h; exact HD.out.2.1 h))
  have HM6 := Lib.hid (show MapI W6 gn [(0, .bool true), (2, .bool true)] from hmp6)
  have HW6 := Lib.hid (ExtS.below HW5.out (by rintro k (h | h) <;> rw [h]; exact HN.out.1; exact HN.out.2.2.2.2.2) hx6)
  clear hs6 hm6 hn6 hmp6 hx6 HRg HS5 HO5 HP5 HM5 HW5
  go_wp2_with fail
  refine (tick1 gs gl gst gn gp 0 1 Am nm cm Ao no co W6 HS6.out HO6.out HP6.out HM6.out).mono ?_
  rintro e W7 ⟨gt, ct, xs, x0, x2, gp7, cp7, rfl, hl7, hxs, hs7, hp7, hx7⟩
  have HLL7 := Lib.hid hl7
  have HXS := Lib.hid hxs
  have HS7 := Lib.hid hs7
  have HP7 := Lib.hid hp7
  have HX7 := Lib.hid hx7
  clear hl7 hxs hs7 hp7 hx7
  go_wp2_with fail
  refine (tick2 gs gl gst gn gp gp7 cp7 W6.heap.size 0 1 1 1 0 1 0 Am nm cm Ao no co Am nm cm Ao no co W6 W7 HS6.out HO6.out HM6.out HX7.out (Nat.le_refl _) HS7.out HP7.out HX7.out.size).mono ?_
  rintro e W8 ⟨gm8, c8, ys, gp8, cp8, rfl, hm8, hys, hs8, hp8, hx8, hy8⟩
  have HLL8 := Lib.hid (own_extS HLL7.out hy8 (by
    rintro g cs hg (h | h)
    · subst h; exact blkNe hg HS7.out (by decide) rfl
    · subst h; exact (own_blkNe HP7.out hg (by decide)) rfl))
  have HMM8 := Lib.hid hm8
  have HYS := Lib.hid hys
  have HS8 := Lib.hid hs8
  have HP8 := Lib.hid hp8
  have HX8 := Lib.hid hx8
  have HO8 := Lib.hid (HO6.out.srv HS6.out hx8)
  have HW8 := Lib.hid (ExtS.below HW6.out (by rintro k h; rw [h]; exact HN.out.1) hx8)
  clear hm8 hys hs8 hp8 hx8 hy8 HLL7 HS7 HP7 HX7 HS6 HO6 HP6 HM6 HW6 HD
  obtain ⟨va, hva⟩ : ∃ va : Array Value, va = #[.int .i64 7, .int .i64 2, .int .i64 100, .int .i64 0, .int .i64 0, .int .i64 0, .int .i64 7, .int .i64 0, .int .i64 0, .int .i64 0, .int .i64 1, .int .i64 0, .int .i64 0, .int .i64 5, .int .i64 5, .int .i64 0, .int .i64 0, .int .i64 0, .slice none 0 0, .int .i64 0, .int .i64 0, .int .i64 0, .int .i64 0, .int .i64 0, .int .i64 0, .int .i64 0, .int .i64 0, .int .i64 0, .slice none 0 0, .int .i64 0, .int .i64 0, .int .i64 0, .int .i64 0, .int .i64 0, .int .i64 0, .int .i64 0, .slice none 0 0, .int .i64 0, .bool false, .int .i64 0, .int .i64 0, .int .i64 0, .slice none 0 0, .slice none 0 0, .int .i64 0, .slice none 0 0, .slice none 0 0] := ⟨_, rfl⟩
  obtain ⟨bd1, bd2⟩ := bd_of W8 (P := Tryz.prog) (t := 57) (ps := #[(0, .int .i64 7), (1, .int .i64 2), (2, .int .i64 100), (10, .agg #[.int .i64 1, .int .i64 0, .int .i64 0, .int .i64 5, .int .i64 5, .int .i64 0, .int .i64 0]), (6, .int .i64 7)]) (cs := va) (by rw [hva]; kernel_rfl)
  have HZ := Lib.hid (Blk.new W8 57 #[.int .i64 0, .int .i64 0, .int .i64 0, .int .i64 0, .int .i64 0, .int .i64 0, .int .i64 0, .int .i64 0, .int .i64 0, .int .i64 0, .int .i64 0, .int .i64 0, .int .i64 0, .int .i64 0, .int .i64 0, .int .i64 0, .int .i64 0, .int .i64 0, .slice none 0 0, .int .i64 0, .int .i64 0, .int .i64 0, .int .i64 0, .int .i64 0, .int .i64 0, .int .i64 0, .int .i64 0, .int .i64 0, .slice none 0 0, .int .i64 0, .int .i64 0, .int .i64 0, .int .i64 0, .int .i64 0, .int .i64 0, .int .i64 0, .slice none 0 0, .int .i64 0, .bool false, .int .i64 0, .int .i64 0, .int .i64 0, .slice none 0 0, .slice none 0 0, .int .i64 0, .slice none 0 0, .slice none 0 0])
  have HI := Lib.hid (show (Tryz.prog.info? 57).map (·.size) = some va.size by rw [hva]; kernel_rfl)
  have HSZ := Lib.hid (show (#[.int .i64 0, .int .i64 0, .int .i64 0, .int .i64 0, .int .i64 0, .int .i64 0, .int .i64 0, .int .i64 0, .int .i64 0, .int .i64 0, .int .i64 0, .int .i64 0, .int .i64 0, .int .i64 0, .int .i64 0, .int .i64 0, .int .i64 0, .int .i64 0, .slice none 0 0, .int .i64 0, .int .i64 0, .int .i64 0, .int .i64 0, .int .i64 0, .int .i64 0, .int .i64 0, .int .i64 0, .int .i64 0, .slice none 0 0, .int .i64 0, .int .i64 0, .int .i64 0, .int .i64 0, .int .i64 0, .int .i64 0, .int .i64 0, .slice none 0 0, .int .i64 0, .bool false, .int .i64 0, .int .i64 0, .int .i64 0, .slice none 0 0, .slice none 0 0, .int .i64 0, .slice none 0 0, .slice none 0 0] : Array Value).size = va.size by rw [hva]; rfl)
  have H1 := Lib.hid (show va.all (·.oneCell') = true by rw [hva]; simp [Value.oneCell'])
  have HVA := Lib.hid hva
  clear hva
  go_upto_region 11 with (refine wpList_store_blk rfl 57 (.tmp 10) (.tmp 43) rfl W8.heap.size va rfl rfl 57 #[.int .i64 0, .int .i64 0, .int .i64 0, .int .i64 0, .int .i64 0, .int .i64 0, .int .i64 0, .int .i64 0, .int .i64 0, .int .i64 0, .int .i64 0, .int .i64 0, .int .i64 0, .int .i64 0, .int .i64 0, .int .i64 0, .int .i64 0, .int .i64 0, .slice none 0 0, .int .i64 0, .int .i64 0, .int .i64 0, .int .i64 0, .int .i64 0, .int .i64 0, .int .i64 0, .int .i64 0, .int .i64 0, .slice none 0 0, .int .i64 0, .int .i64 0, .int .i64 0, .int .i64 0, .int .i64 0, .int .i64 0, .int .i64 0, .slice none 0 0, .int .i64 0, .bool false, .int .i64 0, .int .i64 0, .int .i64 0, .slice none 0 0, .slice none 0 0, .int .i64 0, .slice none 0 0, .slice none 0 0] HZ.out HI.out HSZ.out H1.out ?_; intro W9 hB9 hg9; have HB9 := Lib.hid hB9; have HE9 := Lib.hid (show Below W8.heap.size W8 W9 from (ext_new W8 (.cells #[.int .i64 0, .int .i64 0, .int .i64 0, .int .i64 0, .int .i64 0, .int .i64 0, .int .i64 0, .int .i64 0, .int .i64 0, .int .i64 0, .int .i64 0, .int .i64 0, .int .i64 0, .int .i64 0, .int .i64 0, .int .i64 0, .int .i64 0, .int .i64 0, .slice none 0 0, .int .i64 0, .int .i64 0, .int .i64 0, .int .i64 0, .int .i64 0, .int .i64 0, .int .i64 0, .int .i64 0, .int .i64 0, .slice none 0 0, .int .i64 0, .int .i64 0, .int .i64 0, .int .i64 0, .int .i64 0, .int .i64 0, .int .i64 0, .slice none 0 0, .int .i64 0, .bool false, .int .i64 0, .int .i64 0, .int .i64 0, .slice none 0 0, .slice none 0 0, .int .i64 0, .slice none 0 0, .slice none 0 0] 57)).grown hg9 (ext_new W8 (.cells #[.int .i64 0, .int .i64 0, .int .i64 0, .int .i64 0, .int .i64 0, .int .i64 0, .int .i64 0, .int .i64 0, .int .i64 0, .int .i64 0, .int .i64 0, .int .i64 0, .int .i64 0, .int .i64 0, .int .i64 0, .int .i64 0, .int .i64 0, .int .i64 0, .slice none 0 0, .int .i64 0, .int .i64 0, .int .i64 0, .int .i64 0, .int .i64 0, .int .i64 0, .int .i64 0, .int .i64 0, .int .i64 0, .slice none 0 0, .int .i64 0, .int .i64 0, .int .i64 0, .int .i64 0, .int .i64 0, .int .i64 0, .int .i64 0, .slice none 0 0, .int .i64 0, .bool false, .int .i64 0, .int .i64 0, .int .i64 0, .slice none 0 0, .slice none 0 0, .int .i64 0, .slice none 0 0, .slice none 0 0] 57)).size (fun k e => by injection e with e; omega)); clear hB9 hg9)
  clear bd1 bd2 HZ HI HSZ H1
  have HRc := Lib.hid (show ∀ (one : Bool) (q : Nat) (hq : q = if one then 1 else 0) (lag : Int) (hlag : lag = if one then 0 else 1) (W : World) (hR : RoundOK W) (hs : SrvAt W gs gl gst gn gp8 3 cp8 lag 1 1 Am nm cm Ao no co) (ho : OneRec W gl),
      Calls Tryz.prog 20 #[.pointer (some ⟨gs, 0, none⟩), .agg va] W fun e w' => ∃ g A n1 c1, e = .returned (.slice (some ⟨g, 0, none⟩) 1 1) ∧ Blk w' g 57 #[.int .i64 8, .int .i64 100, .int .i64 2, .int .i64 0, .int .i64 0, .int .i64 0, .int .i64 7, .int .i64 0, .int .i64 0, .int .i64 0, .int .i64 0, .int .i64 0, .int .i64 0, .int .i64 0, .int .i64 0, .int .i64 0, .int .i64 0, .int .i64 0, .slice none 0 0, .int .i64 1, .int .i64 0, .int .i64 0, .int .i64 5, .int .i64 5, .int .i64 0, .int .i64 0, .int .i64 0, .int .i64 (q : Int), .slice A n1 c1, .int .i64 0, .int .i64 0, .int .i64 0, .int .i64 0, .int .i64 0, .int .i64 0, .int .i64 0, .slice none 0 0, .int .i64 0, .bool false, .int .i64 0, .int .i64 0, .int .i64 0, .slice none 0 0, .slice none 0 0, .int .i64 0, .slice none 0 0, .slice none 0 0] ∧ Below W.heap.size W w' by
    rw [HVA.out]
    intro one q hq lag hlag W hR hs ho
    exact recvMiss one q hq lag hlag gs gl gst gn gp8 3 cp8 nm cm no co 1 1 Am Ao W hR hs ho)
  obtain ⟨l1, e1⟩ := ld_blk (P := Tryz.prog) HB9.out (show Array.extract va 0 47 = va by rw [HVA.out]; kernel_rfl) Tryz.underlying57 rfl (by rw [HVA.out]; kernel_rfl)
  go_wp2_with fail
  refine (HRc.out true 1 rfl 0 rfl W9 (HR.out.below (ext_call HW8.out HE9.out)) (HS8.out.ext HE9.out) (HO8.out.ext HE9.out)).mono ?_
  rintro e W10 ⟨gf, Af, nf, cf, rfl, hf, hb10⟩
  have HE10 := Lib.hid (ext_call HE9.out hb10)
  have HF10 := Lib.hid hf
  have HB10 := Lib.hid (HB9.out.ext hb10)
  clear hf hb10 l1 e1
  have hS10 := HS8.out.ext HE10.out
  go_wp2_with fail
  refine (srvLagOk gs 1 _ (by omega) (by omega) W10 (Blk.cell hS10 3) (Blk.frozen hS10 3)).mono ?_
  rintro e W11 ⟨rfl, hW11⟩
  have hx11 : ExtS (fun k => k = gs) W10 W11 := by rw [← hW11]; exact ExtS.set1 _ _ _ _
  have HS11 := Lib.hid (show SrvAt W11 gs gl gst gn gp8 3 cp8 1 1 1 Am nm cm Ao no co by rw [← hW11]; exact Blk.set_ hS10 3 _)
  have HO11 := Lib.hid ((HO8.out.ext HE10.out).srv hS10 hx11)
  have HB11 := Lib.hid (ExtS.blk HB10.out hx11 (fun h => blkNe HB10.out hS10 (by decide) h))
  have HF11 := Lib.hid (ExtS.blk HF10.out hx11 (fun h => blkNe HF10.out hS10 (by decide) h))
  have HX11 := Lib.hid ((ExtS.of_ext (S := fun k => k = gs) HE10.out).trans hx11)
  have HW11 := Lib.hid (ExtS.below (ext_call HW8.out HE10.out) (by rintro k h; rw [h]; exact HN.out.1) hx11)
  clear hS10 hW11 hx11
  obtain ⟨l1, e1⟩ := ld_blk (P := Tryz.prog) HB11.out (show Array.extract va 0 47 = va by rw [HVA.out]; kernel_rfl) Tryz.underlying57 rfl (by rw [HVA.out]; kernel_rfl)
  go_wp2_with fail
  refine (HRc.out false 0 rfl 1 rfl W11 (HR.out.below HW11.out) HS11.out HO11.out).mono ?_
  rintro e W12 ⟨gf2, Af2, nf2, cf2, rfl, hf2, hb12⟩
  have HF12 := Lib.hid (HF11.out.ext hb12)
  have HG12 := Lib.hid hf2
  have HS12 := Lib.hid (HS11.out.ext hb12)
  have HO12 := Lib.hid (HO11.out.ext hb12)
  have HW12 := Lib.hid (ext_call HW11.out hb12)
  have HX12 := Lib.hid (HX11.out.trans (ExtS.of_ext hb12))
  have hgs : ∀ (g : Nat) (t : TypeId) (cs : Array Value), Blk W8 g t cs → t ≠ 101 → ¬ g = gs := fun g t cs h1 h2 h3 => blkNe h1 HS8.out h2 h3
  have HLL := Lib.hid (own_extS HLL8.out HX12.out (fun g cs h => hgs g _ cs h (by decide)))
  have HMM := Lib.hid (own_extS HMM8.out HX12.out (fun g cs h => hgs g _ cs h (by decide)))
  have HPP := Lib.hid (own_extS HP8.out HX12.out (fun g cs h => hgs g _ cs h (by decide)))
  clear hf2 hb12 l1 e1 hgs HF10 HB10 HB11 HF11 HX11 HW11 HS11 HO11 HX12 HE10 HE9 HB9 HLL8 HMM8 HP8 HS8 HO8 HW8
  have p0 : W12.cell? ⟨gs, 0, none⟩ = some (.pointer (some ⟨gl, 0, none⟩)) := Blk.cell HS12.out 0
  have p2 : W12.cell? ⟨gs, 2, none⟩ = some (.slice (some ⟨gp8, 0, none⟩) 3 cp8) := Blk.cell HS12.out 2
  have k0 := own_at HPP.out 0 (.int .i64 0) rfl
  have k1 := own_at HPP.out 1 (.int .i64 1) rfl
  have f0 : W12.cell? ⟨gf, 0, none⟩ = some (.int .i64 8) := HF12.out.cell 0
  have f2 : W12.cell? ⟨gf, 2, none⟩ = some (.int .i64 2) := HF12.out.cell 2
  have f6 : W12.cell? ⟨gf, 6, none⟩ = some (.int .i64 7) := HF12.out.cell 6
  have f27 : W12.cell? ⟨gf, 27, none⟩ = some (.int .i64 1) := HF12.out.cell 27
  have g27 : W12.cell? ⟨gf2, 27, none⟩ = some (.int .i64 0) := HG12.out.cell 27
  have l0 := own_at HLL.out 0 (.int .i64 1) (by rw [HXS.out]; rfl)
  have l47 := own_at HLL.out 47 (.int .i64 2) (by rw [HXS.out]; rfl)
  have l56 := own_at HLL.out 56 (.int .i64 1) (by rw [HXS.out]; rfl)
  have l51 := own_at HLL.out 51 (.int .i64 1) (by rw [HXS.out]; rfl)
  have l143 := own_at HLL.out 143 (.int .i64 2) (by rw [HXS.out]; rfl)
  have m54 := own_at HMM.out 54 (.int .i64 2) (by rw [HYS.out]; rfl)
  clear HVA HRc HF12 HG12 HLL HMM HPP HXS HYS HS12 HR HN
  go_upto_region 16 with (fail)
  go_upto_region 17 with (first
    | (go_at_call 16; refine (srvPosC gs gl W12 p0 HO12.out).mono ?_; rintro e w' ⟨rfl, hw'⟩; subst w')
    | (go_at_call 14; refine (srvTime gs 3 cp8 _ (by omega) W12 p2).mono ?_; rintro e w' ⟨rfl, hw'⟩; subst w'))
  go_upto_region 18 with (fail)
  clear l0 l47 l56 l51 l143 m54
  have HP0 := Lib.hid (show Calls Tryz.prog 15 #[.pointer (some ⟨gs, 0, none⟩), .int .i64 0] W12 fun e w' => e = .returned (.int .i64 0) ∧ W12 = w' from srvAtYes gs 3 cp8 0 gp8 0 (by omega) W12 p2 k0)
  have HP1 := Lib.hid (show Calls Tryz.prog 15 #[.pointer (some ⟨gs, 0, none⟩), .int .i64 1] W12 fun e w' => e = .returned (.int .i64 1) ∧ W12 = w' from srvAtYes gs 3 cp8 1 gp8 1 (by omega) W12 p2 k1)
  have HP3 := Lib.hid (show Calls Tryz.prog 15 #[.pointer (some ⟨gs, 0, none⟩), .int .i64 3] W12 fun e w' => e = .returned (.int .i64 (-1)) ∧ W12 = w' from srvAtNo gs 3 cp8 _ 3 (by omega) W12 p2)
  clear p0 p2 k0 k1
  go_wp2_with fail
  refine HP0.out.mono ?_
  rintro e w' ⟨rfl, hw'⟩
  subst w'
  clear f0 f2 f6 f27 g27
  go_wp2_with fail
  refine HP1.out.mono ?_
  rintro e w' ⟨rfl, hw'⟩
  subst w'
  go_wp2_with fail
  refine HP3.out.mono ?_
  rintro e w' ⟨rfl, hw'⟩
  subst w'
  go_wp2
  go_ret
  exact ⟨rfl, HW12.out⟩

end Go.Proofs.YtbgfmbmcabekeaaGreatDoor

/-
  package cachetierlaw27: ringOf.
-/
namespace Go.Proofs.YtbgfmbmcabekeaaGreatDoor
open Go.RowKit Go.Shelf

theorem pickF_lt (c n : Int) (hn : 0 < n) : 0 ≤ pickF c n ∧ pickF c n < n := by
  unfold pickF
  split
  · exact ⟨Int.emod_nonneg _ (by omega), Int.emod_lt_of_pos _ hn⟩
  · exact ⟨Int.emod_nonneg _ (by omega), Int.emod_lt_of_pos _ hn⟩
theorem tdiv_in (c n : Int) (hn : 0 < n) (hc : -9223372036854775808 ≤ c) (hc2 : c ≤ 9223372036854775807) : -9223372036854775808 ≤ c.tdiv n ∧ c.tdiv n ≤ 9223372036854775807 := by
  rcases Int.le_total 0 c with h | h
  · rw [Int.tdiv_eq_ediv_of_nonneg h]
    have h1 := Int.ediv_nonneg h (Int.le_of_lt hn)
    have h2 := Int.ediv_le_self n h
    omega
  · have h3 : c.tdiv n = -((-c) / n) := by rw [← Int.tdiv_eq_ediv_of_nonneg (by omega), Int.neg_tdiv, Int.neg_neg]
    have h1 := Int.ediv_nonneg (show 0 ≤ -c by omega) (Int.le_of_lt hn)
    have h2 := Int.ediv_le_self n (show 0 ≤ -c by omega)
    omega

end Go.Proofs.YtbgfmbmcabekeaaGreatDoor

/-
  package slices, origin: Clone, ownRing, Ring with rows that are fresh; Head and Receive of a nil server.
-/
namespace Go.Proofs.YtbgfmbmcabekeaaGreatDoor
open Go.RowKit Go.Shelf

theorem own_base {W : World} {b b' n sz : Nat} {e : TypeId} {v : Value} {xs : List Value} (h : W.ownsRow b e sz v n xs) (hb : b' ≤ b) : W.ownsRow b' e sz v n xs := by
  refine ⟨h.1, ?_⟩
  rcases h.2 with h1 | ⟨g, cap, cur, h1, h2, h3⟩
  · exact .inl h1
  · exact .inr ⟨g, cap, cur, h1, Nat.le_trans hb h2, h3⟩
/-- where an owned row lies -/
theorem own_blk {W : World} {b n sz : Nat} {e : TypeId} {v : Value} {xs : List Value} (h : W.ownsRow b e sz v n xs) (h0 : 0 < n) : ∃ g cap cur, v = .slice (some ⟨g, 0, none⟩) n cap ∧ b ≤ g ∧ Blk W g e cur := by
  rcases h.2 with ⟨_, h1⟩ | ⟨g, cap, cur, h1, h2, h3, _⟩
  · omega
  · exact ⟨g, cap, cur, h1, h2, h3⟩

end Go.Proofs.YtbgfmbmcabekeaaGreatDoor

/-
  package row: Encode, EncodeRecord at small numbers.
-/
namespace Go.Proofs.YtbgfmbmcabekeaaGreatDoor
open Go.RowKit
attribute [local go_sem ↓] app_exec app_sem Go.wp_at_zero Go.wp_at_succ

/-- three numbers appended to a row of numbers -/
theorem app3 (W : World) (base : Nat) (hb : base ≤ W.heap.size) (v : Value) (n : Nat) (xs : List Value) (hown : W.ownsRow base 3 1 v n xs) (hn : n ≤ 3) (b off : Nat) (x y z : Int) (h0 : W.cell? ⟨b, off, none⟩ = some (.int .i64 x)) (h1 : W.cell? ⟨b, off + 1, none⟩ = some (.int .i64 y)) (h2 : W.cell? ⟨b, off + 2, none⟩ = some (.int .i64 z)) :
    AppOK Tryz.prog W 28 28 v (.slice (some ⟨b, off, none⟩) 3 3) ∧ (appW Tryz.prog W 28 28 v (.slice (some ⟨b, off, none⟩) 3 3)).ownsRow base 3 1 (appV Tryz.prog W 28 28 v (.slice (some ⟨b, off, none⟩) 3 3)) (n + 3) (xs ++ [.int .i64 x, .int .i64 y, .int .i64 z]) ∧ W.grownBy (appW Tryz.prog W 28 28 v (.slice (some ⟨b, off, none⟩) 3 3)) v.ownBlock := by
  obtain ⟨ii, hii, hzi0, hzi1, hzi2⟩ := info_parts int_infoP
  refine app_own (P := Tryz.prog) (w := W) base 28 28 3 ii (.int .i64 0) 1 8 Tryz.underlying28 hii hzi0 hzi1 hzi2 rfl (by decide) v n xs hown ⟨b, off, none⟩ 3 3 [.int .i64 x, .int .i64 y, .int .i64 z] rfl (fun j u hj => ?_) (by simp [Value.oneCell']) (by unfold maxLen; omega) (by omega) hb
  match j, hj with
  | 0, hj => simp at hj; subst hj; simpa [Addr.add] using h0
  | 1, hj => simp at hj; subst hj; simpa [Addr.add] using h1
  | 2, hj => simp at hj; subst hj; simpa [Addr.add] using h2

/-- where a row of numbers lies -/
theorem own_ints {W : World} {base n : Nat} {v : Value} {l : List Int} (h : W.ownsRow base 3 1 v n (l.map (Value.int .i64))) (h0 : 0 < n) : ∃ g c, v = .slice (some ⟨g, 0, none⟩) n c ∧ g < W.heap.size ∧ IntsAt W g 0 l := by
  obtain ⟨g, cap, cur, rfl, -, hb⟩ := own_blk h h0
  refine ⟨g, cap, rfl, hb.lt, fun j x hx => ?_⟩
  have h1 := h.cells (g := g) rfl j (.int .i64 x) (by rw [List.getElem?_map, hx]; rfl)
  rw [add_lit0] at h1
  rw [Nat.zero_add]
  exact h1
theorem IntsAt.ext {w W : World} {b off : Nat} {l : List Int} (h : IntsAt w b off l) (k : Below w.heap.size w W) : IntsAt W b off l := fun j x hx => cell_ext (h j x hx) k
/-- small numbers -/
def ChgT.small (c : ChgT) : Prop := ∀ x ∈ [c.t, c.k, c.o1, c.o2, c.o3, c.n1, c.n2, c.n3], -64 ≤ x ∧ x < 64
def encChg (c : ChgT) : List Int := [c.t, c.k, (if c.had then 1 else 0) + (if c.has then 2 else 0)] ++ (if c.had then [c.o1, c.o2, c.o3] else []) ++ (if c.has then [c.n1, c.n2, c.n3] else [])
def encRec (p : Int) (l : List ChgT) : List Int := [p, (l.length : Int)] ++ l.flatMap encChg

end Go.Proofs.YtbgfmbmcabekeaaGreatDoor
