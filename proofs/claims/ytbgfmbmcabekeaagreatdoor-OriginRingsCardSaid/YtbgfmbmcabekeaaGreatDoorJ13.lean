/-
  Part 13 of 18: the contracts that the proof of the last part uses; each stands under its own head.
-/
import Derived.Test.YtbgfmbmcabekeaaGreatDoorJ12
import Derived.Test.YtbgfmbmcabekeaaGreatDoorJ6
import Derived.Deep.MidRow
import Derived.BigQuiet
import Derived.Deep.QuietTactic
import Derived.Test.YtbgfmbmcabekeaaGreatDoorJ8
import Derived.Test.YtbgfmbmcabekeaaGreatDoorJ11
set_option linter.unusedSimpArgs false
set_option linter.unusedVariables false

/-
  Loads of whole structs as a rule for the walk. Package message: Same at equal messages.
-/
namespace Go.Proofs.YtbgfmbmcabekeaaGreatDoor
open Go.RowKit Go.Shelf

/-- a load that runs -/
def LdOK (P : Program) (w : World) (p : Value) (ty : TypeId) : Prop := ∃ v, (Instr.loadAt ty p).run P w = .ok v w
def ldV (P : Program) (w : World) (p : Value) (ty : TypeId) : Value := match (Instr.loadAt ty p).run P w with | .ok v _ => v | _ => undef
theorem ld_run {P : Program} {w : World} {p : Value} {ty : TypeId} (h : LdOK P w p ty) : (Instr.loadAt ty p).run P w = .ok (ldV P w p ty) w := by
  obtain ⟨v, h⟩ := h
  unfold ldV
  rw [h]
theorem ld_exec {P : Program} {w : World} {ρ : Operand → Value} {d : Option Tmp} {x : Operand} {ty t : TypeId} {p : String} {af : Array Edge} {g : Option (Nat × Bool)} (h : LdOK P w (ρ x) ty) :
    (execOp ρ { dst := d, op := .load ty x, type := t, pos := p, after := af, guard := g }).run P w = .ok (.value (ldV P w (ρ x) ty)) w := by
  have h' := ld_run h
  unfold execOp
  simp only [Sem.run_bind, Sem.run_pure, Result.andThen_ok, h']
theorem ld_sem {P : Program} {w : World} {ro : Option Nat} {ρ : Operand → Value} {d : Option Tmp} {x : Operand} {ty t : TypeId} {p : String} {af : Array Edge} {g : Option (Nat × Bool)} (h : LdOK P w (ρ x) ty) :
    (Oper.semAt ro ρ { dst := d, op := .load ty x, type := t, pos := p, after := af, guard := g }).run P w = .ok (.value (ldV P w (ρ x) ty)) w := by
  rw [Oper.semAt_eq ro ρ _ (by intro c h; cases h)]
  exact ld_exec h
theorem ld_blk {P : Program} {W : World} {b o e : Nat} {t ty : TypeId} {va cs : Array Value} {d : TypeDesc} (h : Blk W b t va) (hcs : va.extract o e = cs) (hu : P.underlying ty = some d) (hd : d.isRow = true) (hi : (P.info? ty).map (·.size) = some cs.size) :
    LdOK P W (.pointer (some ⟨b, o, none⟩)) ty ∧ ldV P W (.pointer (some ⟨b, o, none⟩)) ty = .agg cs := by
  have hr : W.rangeAt b o cs.toList := fun j v hv => by
    rw [h.cell]
    subst hcs
    simp only [Array.toList_extract, List.extract_eq_take_drop, List.getElem?_take, List.getElem?_drop] at hv
    split at hv
    · simpa using hv
    · cases hv
  have := run_loadAt_mid (P := P) W b o ty cs.toList d hr hu hd (by simpa using hi)
  simp only [Array.toArray_toList] at this
  exact ⟨⟨_, this⟩, by unfold ldV; rw [this]⟩

theorem sKeep {X W : World} {A B : Nat} {va qa ra ea aa ga : Array Value} (h : Blk X A 57 va ∧ Blk X B 57 va) (hm : va.extract 0 47 = va) (hqq : va.extract 10 17 = qa) (hr : va.extract 17 19 = ra) (he : va.extract 19 29 = ea) (ha : va.extract 29 44 = aa) (hg : va.extract 44 47 = ga) (zm : va.size = 47) (zq : qa.size = 7) (zr : ra.size = 2) (ze : ea.size = 10) (za : aa.size = 15) (zg : ga.size = 3) (k : Below X.heap.size X W) : (LdOK Tryz.prog W (.pointer (some ⟨A, 0, none⟩)) 57 ∧ ldV Tryz.prog W (.pointer (some ⟨A, 0, none⟩)) 57 = .agg va) ∧ (LdOK Tryz.prog W (.pointer (some ⟨A, 10, none⟩)) 44 ∧ ldV Tryz.prog W (.pointer (some ⟨A, 10, none⟩)) 44 = .agg qa) ∧ (LdOK Tryz.prog W (.pointer (some ⟨A, 17, none⟩)) 46 ∧ ldV Tryz.prog W (.pointer (some ⟨A, 17, none⟩)) 46 = .agg ra) ∧ (LdOK Tryz.prog W (.pointer (some ⟨A, 19, none⟩)) 49 ∧ ldV Tryz.prog W (.pointer (some ⟨A, 19, none⟩)) 49 = .agg ea) ∧ (LdOK Tryz.prog W (.pointer (some ⟨A, 29, none⟩)) 55 ∧ ldV Tryz.prog W (.pointer (some ⟨A, 29, none⟩)) 55 = .agg aa) ∧ (LdOK Tryz.prog W (.pointer (some ⟨A, 44, none⟩)) 30 ∧ ldV Tryz.prog W (.pointer (some ⟨A, 44, none⟩)) 30 = .agg ga) ∧ (LdOK Tryz.prog W (.pointer (some ⟨B, 0, none⟩)) 57 ∧ ldV Tryz.prog W (.pointer (some ⟨B, 0, none⟩)) 57 = .agg va) ∧ (LdOK Tryz.prog W (.pointer (some ⟨B, 10, none⟩)) 44 ∧ ldV Tryz.prog W (.pointer (some ⟨B, 10, none⟩)) 44 = .agg qa) ∧ (LdOK Tryz.prog W (.pointer (some ⟨B, 17, none⟩)) 46 ∧ ldV Tryz.prog W (.pointer (some ⟨B, 17, none⟩)) 46 = .agg ra) ∧ (LdOK Tryz.prog W (.pointer (some ⟨B, 19, none⟩)) 49 ∧ ldV Tryz.prog W (.pointer (some ⟨B, 19, none⟩)) 49 = .agg ea) ∧ (LdOK Tryz.prog W (.pointer (some ⟨B, 29, none⟩)) 55 ∧ ldV Tryz.prog W (.pointer (some ⟨B, 29, none⟩)) 55 = .agg aa) ∧ (LdOK Tryz.prog W (.pointer (some ⟨B, 44, none⟩)) 30 ∧ ldV Tryz.prog W (.pointer (some ⟨B, 44, none⟩)) 30 = .agg ga) ∧ Below X.heap.size X W :=
  ⟨ld_blk (h.1.ext k) hm Tryz.underlying57 rfl (by rw [zm]; kernel_rfl), ld_blk (h.1.ext k) hqq Tryz.underlying44 rfl (by rw [zq]; kernel_rfl), ld_blk (h.1.ext k) hr Tryz.underlying46 rfl (by rw [zr]; kernel_rfl), ld_blk (h.1.ext k) he Tryz.underlying49 rfl (by rw [ze]; kernel_rfl), ld_blk (h.1.ext k) ha Tryz.underlying55 rfl (by rw [za]; kernel_rfl), ld_blk (h.1.ext k) hg Tryz.underlying30 rfl (by rw [zg]; kernel_rfl), ld_blk (h.2.ext k) hm Tryz.underlying57 rfl (by rw [zm]; kernel_rfl), ld_blk (h.2.ext k) hqq Tryz.underlying44 rfl (by rw [zq]; kernel_rfl), ld_blk (h.2.ext k) hr Tryz.underlying46 rfl (by rw [zr]; kernel_rfl), ld_blk (h.2.ext k) he Tryz.underlying49 rfl (by rw [ze]; kernel_rfl), ld_blk (h.2.ext k) ha Tryz.underlying55 rfl (by rw [za]; kernel_rfl), ld_blk (h.2.ext k) hg Tryz.underlying30 rfl (by rw [zg]; kernel_rfl), k⟩
theorem sKeepB {X W : World} {A B : Nat} {va qa ra ea aa ga : Array Value} (h : (LdOK Tryz.prog W (.pointer (some ⟨A, 0, none⟩)) 57 ∧ ldV Tryz.prog W (.pointer (some ⟨A, 0, none⟩)) 57 = .agg va) ∧ (LdOK Tryz.prog W (.pointer (some ⟨A, 10, none⟩)) 44 ∧ ldV Tryz.prog W (.pointer (some ⟨A, 10, none⟩)) 44 = .agg qa) ∧ (LdOK Tryz.prog W (.pointer (some ⟨A, 17, none⟩)) 46 ∧ ldV Tryz.prog W (.pointer (some ⟨A, 17, none⟩)) 46 = .agg ra) ∧ (LdOK Tryz.prog W (.pointer (some ⟨A, 19, none⟩)) 49 ∧ ldV Tryz.prog W (.pointer (some ⟨A, 19, none⟩)) 49 = .agg ea) ∧ (LdOK Tryz.prog W (.pointer (some ⟨A, 29, none⟩)) 55 ∧ ldV Tryz.prog W (.pointer (some ⟨A, 29, none⟩)) 55 = .agg aa) ∧ (LdOK Tryz.prog W (.pointer (some ⟨A, 44, none⟩)) 30 ∧ ldV Tryz.prog W (.pointer (some ⟨A, 44, none⟩)) 30 = .agg ga) ∧ (LdOK Tryz.prog W (.pointer (some ⟨B, 0, none⟩)) 57 ∧ ldV Tryz.prog W (.pointer (some ⟨B, 0, none⟩)) 57 = .agg va) ∧ (LdOK Tryz.prog W (.pointer (some ⟨B, 10, none⟩)) 44 ∧ ldV Tryz.prog W (.pointer (some ⟨B, 10, none⟩)) 44 = .agg qa) ∧ (LdOK Tryz.prog W (.pointer (some ⟨B, 17, none⟩)) 46 ∧ ldV Tryz.prog W (.pointer (some ⟨B, 17, none⟩)) 46 = .agg ra) ∧ (LdOK Tryz.prog W (.pointer (some ⟨B, 19, none⟩)) 49 ∧ ldV Tryz.prog W (.pointer (some ⟨B, 19, none⟩)) 49 = .agg ea) ∧ (LdOK Tryz.prog W (.pointer (some ⟨B, 29, none⟩)) 55 ∧ ldV Tryz.prog W (.pointer (some ⟨B, 29, none⟩)) 55 = .agg aa) ∧ (LdOK Tryz.prog W (.pointer (some ⟨B, 44, none⟩)) 30 ∧ ldV Tryz.prog W (.pointer (some ⟨B, 44, none⟩)) 30 = .agg ga) ∧ Below X.heap.size X W) : Below X.heap.size X W := h.2.2.2.2.2.2.2.2.2.2.2.2

attribute [local go_sem ↓] ld_exec ld_sem
set_option maxRecDepth 100000 in
set_option maxHeartbeats 2000000 in
theorem msgSameC (va qa ra ea aa ga : Array Value) (hs : Array Value) (hqq : va.extract 10 17 = qa) (hr : va.extract 17 19 = ra) (he : va.extract 19 29 = ea) (ha : va.extract 29 44 = aa) (hg : va.extract 44 47 = ga) (zm : va.size = 47) (zq : qa.size = 7) (zr : ra.size = 2) (ze : ea.size = 10) (za : aa.size = 15) (zg : ga.size = 3)
    (HH : ∀ W, Calls Tryz.prog 86 #[.agg va] W fun e w' => e = .returned (.agg hs) ∧ Below W.heap.size W w')
    (h10 : ∀ W, (Op.equalIn 10000 167 (.agg hs) (.agg hs)).run Tryz.prog W = .ok true W)
    (hq : ∀ W, (Op.equalIn 10000 44 (.agg qa) (.agg qa)).run Tryz.prog W = .ok true W)
    (HR : ∀ W, Calls Tryz.prog 87 #[.agg ra, .agg ra] W fun e w' => e = .returned (.bool true) ∧ Below W.heap.size W w')
    (HEn : ∀ W, Calls Tryz.prog 88 #[.agg ea, .agg ea] W fun e w' => e = .returned (.bool true) ∧ Below W.heap.size W w')
    (HA : ∀ W, Calls Tryz.prog 89 #[.agg aa, .agg aa] W fun e w' => e = .returned (.bool true) ∧ Below W.heap.size W w')
    (HG : ∀ W, Calls Tryz.prog 90 #[.agg ga, .agg ga] W fun e w' => e = .returned (.bool true) ∧ Below W.heap.size W w')
    (w : World) : Calls Tryz.prog 51 #[.agg va, .agg va] w fun e w' => e = .returned (.bool true) ∧ Below w.heap.size w w' := by
  have hm : va.extract 0 47 = va := by rw [← zm]; simp
  have HH' := Lib.hid HH
  have HR' := Lib.hid HR
  have HEn' := Lib.hid HEn
  have HA' := Lib.hid HA
  have HG' := Lib.hid HG
  obtain ⟨X, hX⟩ : ∃ X, X = (w.alloc (.cells va 57)).alloc (.cells va 57) := ⟨_, rfl⟩
  have HE := Lib.hid (show Below w.heap.size w X by rw [hX]; exact ext_alloc (ext_new _ _) _)
  have HBB := Lib.hid (show Blk X w.heap.size 57 va ∧ Blk X (w.heap.size + 1) 57 va by rw [hX]; exact ⟨(Blk.new _ _ _).alloc _, Blk.new' _ _ _ (by simp)⟩)
  have HK := Lib.hid (fun W k => sKeep (W := W) HBB.out hm hqq hr he ha hg zm zq zr ze za zg k)
  have HX := Lib.hid hX
  clear hX HH HR HEn HA HG hm hr he ha hg zq zr ze za zg
  go_enter Tryz.func51, Tryz.ntmps51
  go_upto_region 1 with (fail)
  rw [← HX.out]
  go_region_held3 (fun w' => (LdOK Tryz.prog w' (.pointer (some ⟨w.heap.size, 0, none⟩)) 57 ∧ ldV Tryz.prog w' (.pointer (some ⟨w.heap.size, 0, none⟩)) 57 = .agg va) ∧ (LdOK Tryz.prog w' (.pointer (some ⟨w.heap.size, 10, none⟩)) 44 ∧ ldV Tryz.prog w' (.pointer (some ⟨w.heap.size, 10, none⟩)) 44 = .agg qa) ∧ (LdOK Tryz.prog w' (.pointer (some ⟨w.heap.size, 17, none⟩)) 46 ∧ ldV Tryz.prog w' (.pointer (some ⟨w.heap.size, 17, none⟩)) 46 = .agg ra) ∧ (LdOK Tryz.prog w' (.pointer (some ⟨w.heap.size, 19, none⟩)) 49 ∧ ldV Tryz.prog w' (.pointer (some ⟨w.heap.size, 19, none⟩)) 49 = .agg ea) ∧ (LdOK Tryz.prog w' (.pointer (some ⟨w.heap.size, 29, none⟩)) 55 ∧ ldV Tryz.prog w' (.pointer (some ⟨w.heap.size, 29, none⟩)) 55 = .agg aa) ∧ (LdOK Tryz.prog w' (.pointer (some ⟨w.heap.size, 44, none⟩)) 30 ∧ ldV Tryz.prog w' (.pointer (some ⟨w.heap.size, 44, none⟩)) 30 = .agg ga) ∧ (LdOK Tryz.prog w' (.pointer (some ⟨w.heap.size + 1, 0, none⟩)) 57 ∧ ldV Tryz.prog w' (.pointer (some ⟨w.heap.size + 1, 0, none⟩)) 57 = .agg va) ∧ (LdOK Tryz.prog w' (.pointer (some ⟨w.heap.size + 1, 10, none⟩)) 44 ∧ ldV Tryz.prog w' (.pointer (some ⟨w.heap.size + 1, 10, none⟩)) 44 = .agg qa) ∧ (LdOK Tryz.prog w' (.pointer (some ⟨w.heap.size + 1, 17, none⟩)) 46 ∧ ldV Tryz.prog w' (.pointer (some ⟨w.heap.size + 1, 17, none⟩)) 46 = .agg ra) ∧ (LdOK Tryz.prog w' (.pointer (some ⟨w.heap.size + 1, 19, none⟩)) 49 ∧ ldV Tryz.prog w' (.pointer (some ⟨w.heap.size + 1, 19, none⟩)) 49 = .agg ea) ∧ (LdOK Tryz.prog w' (.pointer (some ⟨w.heap.size + 1, 29, none⟩)) 55 ∧ ldV Tryz.prog w' (.pointer (some ⟨w.heap.size + 1, 29, none⟩)) 55 = .agg aa) ∧ (LdOK Tryz.prog w' (.pointer (some ⟨w.heap.size + 1, 44, none⟩)) 30 ∧ ldV Tryz.prog w' (.pointer (some ⟨w.heap.size + 1, 44, none⟩)) 30 = .agg ga) ∧ Below X.heap.size X w')
    (first | with_reducible assumption | exact HK.out _ (by repeat (first | with_reducible refine ext_alloc ?_ _ | with_reducible refine Below.drew ?_ | with_reducible refine ext_drewN ?_ _ | with_reducible assumption | with_reducible exact ext_refl _)))
    (first
      | (go_at_call 86; (with_reducible refine (HH'.out _).mono ?_); rintro e Z ⟨rfl, hb'⟩; have hXZ := ext_call (sKeepB (by assumption)) hb'; clear hb')
      | (go_at_call 87; (with_reducible refine (HR'.out _).mono ?_); rintro e Z ⟨rfl, hb'⟩; have hXZ := ext_call (sKeepB (by assumption)) hb'; clear hb')
      | (go_at_call 88; (with_reducible refine (HEn'.out _).mono ?_); rintro e Z ⟨rfl, hb'⟩; have hXZ := ext_call (sKeepB (by assumption)) hb'; clear hb')
      | (go_at_call 89; (with_reducible refine (HA'.out _).mono ?_); rintro e Z ⟨rfl, hb'⟩; have hXZ := ext_call (sKeepB (by assumption)) hb'; clear hb')
      | (go_at_call 90; (with_reducible refine (HG'.out _).mono ?_); rintro e Z ⟨rfl, hb'⟩; have hXZ := ext_call (sKeepB (by assumption)) hb'; clear hb'))
  all_goals
    have HZ := Lib.hid (ext_call HE.out (by first | exact hXZ | exact sKeepB (by assumption)))
    clear hXZ
    go_wp2
    go_ret
    exact ⟨rfl, HZ.out⟩

end Go.Proofs.YtbgfmbmcabekeaaGreatDoor

/-
  Package message: Same at equal messages of a header and a query.
-/
namespace Go.Proofs.YtbgfmbmcabekeaaGreatDoor
open Go.RowKit Go.Shelf

set_option maxRecDepth 100000 in
theorem msgSame (h0 h1 h2 h3 h4 h5 h6 h7 h8 h9 q0 q1 q2 q3 q4 q5 q6 : Int) (w : World) : Calls Tryz.prog 51 #[.agg #[.int .i64 h0, .int .i64 h1, .int .i64 h2, .int .i64 h3, .int .i64 h4, .int .i64 h5, .int .i64 h6, .int .i64 h7, .int .i64 h8, .int .i64 h9, .int .i64 q0, .int .i64 q1, .int .i64 q2, .int .i64 q3, .int .i64 q4, .int .i64 q5, .int .i64 q6, .int .i64 0, .slice none 0 0, .int .i64 0, .int .i64 0, .int .i64 0, .int .i64 0, .int .i64 0, .int .i64 0, .int .i64 0, .int .i64 0, .int .i64 0, .slice none 0 0, .int .i64 0, .int .i64 0, .int .i64 0, .int .i64 0, .int .i64 0, .int .i64 0, .int .i64 0, .slice none 0 0, .int .i64 0, .bool false, .int .i64 0, .int .i64 0, .int .i64 0, .slice none 0 0, .slice none 0 0, .int .i64 0, .slice none 0 0, .slice none 0 0], .agg #[.int .i64 h0, .int .i64 h1, .int .i64 h2, .int .i64 h3, .int .i64 h4, .int .i64 h5, .int .i64 h6, .int .i64 h7, .int .i64 h8, .int .i64 h9, .int .i64 q0, .int .i64 q1, .int .i64 q2, .int .i64 q3, .int .i64 q4, .int .i64 q5, .int .i64 q6, .int .i64 0, .slice none 0 0, .int .i64 0, .int .i64 0, .int .i64 0, .int .i64 0, .int .i64 0, .int .i64 0, .int .i64 0, .int .i64 0, .int .i64 0, .slice none 0 0, .int .i64 0, .int .i64 0, .int .i64 0, .int .i64 0, .int .i64 0, .int .i64 0, .int .i64 0, .slice none 0 0, .int .i64 0, .bool false, .int .i64 0, .int .i64 0, .int .i64 0, .slice none 0 0, .slice none 0 0, .int .i64 0, .slice none 0 0, .slice none 0 0]] w fun e w' => e = .returned (.bool true) ∧ Below w.heap.size w w' := by
  have HH := header_any h0 h1 h2 h3 h4 h5 h6 h7 h8 h9 q0 q1 q2 q3 q4 q5 q6
  obtain ⟨va, hva⟩ : ∃ va : Array Value, va = #[.int .i64 h0, .int .i64 h1, .int .i64 h2, .int .i64 h3, .int .i64 h4, .int .i64 h5, .int .i64 h6, .int .i64 h7, .int .i64 h8, .int .i64 h9, .int .i64 q0, .int .i64 q1, .int .i64 q2, .int .i64 q3, .int .i64 q4, .int .i64 q5, .int .i64 q6, .int .i64 0, .slice none 0 0, .int .i64 0, .int .i64 0, .int .i64 0, .int .i64 0, .int .i64 0, .int .i64 0, .int .i64 0, .int .i64 0, .int .i64 0, .slice none 0 0, .int .i64 0, .int .i64 0, .int .i64 0, .int .i64 0, .int .i64 0, .int .i64 0, .int .i64 0, .slice none 0 0, .int .i64 0, .bool false, .int .i64 0, .int .i64 0, .int .i64 0, .slice none 0 0, .slice none 0 0, .int .i64 0, .slice none 0 0, .slice none 0 0] := ⟨_, rfl⟩
  rw [← hva] at HH ⊢
  refine msgSameC va #[.int .i64 q0, .int .i64 q1, .int .i64 q2, .int .i64 q3, .int .i64 q4, .int .i64 q5, .int .i64 q6] #[.int .i64 0, .slice none 0 0] #[.int .i64 0, .int .i64 0, .int .i64 0, .int .i64 0, .int .i64 0, .int .i64 0, .int .i64 0, .int .i64 0, .int .i64 0, .slice none 0 0] #[.int .i64 0, .int .i64 0, .int .i64 0, .int .i64 0, .int .i64 0, .int .i64 0, .int .i64 0, .slice none 0 0, .int .i64 0, .bool false, .int .i64 0, .int .i64 0, .int .i64 0, .slice none 0 0, .slice none 0 0] #[.int .i64 0, .slice none 0 0, .slice none 0 0] #[.int .i64 h0, .int .i64 h1, .int .i64 h2, .int .i64 h3, .int .i64 h4, .int .i64 h5, .int .i64 h6, .int .i64 h7, .int .i64 h8, .int .i64 h9] ?_ ?_ ?_ ?_ ?_ ?_ ?_ ?_ ?_ ?_ ?_ HH (eqHead h0 h1 h2 h3 h4 h5 h6 h7 h8 h9) (qryEq q0 q1 q2 q3 q4 q5 q6) recSame0 entSame0 ansSame0 ringSame0 w
  all_goals (try subst hva; kernel_rfl)

end Go.Proofs.YtbgfmbmcabekeaaGreatDoor

/-
  package query: Valid, Scan at the law's two queries; proof.of.
-/
namespace Go.Proofs.YtbgfmbmcabekeaaGreatDoor
open Go.RowKit
attribute [local go_sem ↓] Go.wp_at_zero Go.wp_at_succ

set_option maxRecDepth 100000 in
set_option maxHeartbeats 1000000 in
theorem queryValid1 (w : World) : Calls Tryz.prog 48 #[.agg #[.int .i64 1, .int .i64 0, .int .i64 0, .int .i64 5, .int .i64 5, .int .i64 0, .int .i64 0]] w fun e w' => e = .returned (.bool true) ∧ Below w.heap.size w w' := by
  go_enter Tryz.func48, Tryz.ntmps48
  go_wp2
  go_ret
  exact ⟨rfl, ext_new _ _⟩

set_option maxRecDepth 100000 in
set_option maxHeartbeats 1000000 in
theorem queryValid0 (w : World) : Calls Tryz.prog 48 #[.agg #[.int .i64 1, .int .i64 0, .int .i64 0, .int .i64 5, .int .i64 5, .int .i64 0, .int .i64 0]] w fun e w' => e = .returned (.bool true) ∧ Below w.heap.size w w' := by
  go_enter Tryz.func48, Tryz.ntmps48
  go_wp2
  go_ret
  exact ⟨rfl, ext_new _ _⟩

set_option maxRecDepth 100000 in
set_option maxHeartbeats 1000000 in
theorem queryScan1 (w : World) : Calls Tryz.prog 206 #[.agg #[.int .i64 1, .int .i64 0, .int .i64 0, .int .i64 5, .int .i64 5, .int .i64 0, .int .i64 0]] w fun e w' => e = .returned (.tuple #[.int .i64 0, .int .i64 0, .int .i64 5, .int .i64 5]) ∧ Below w.heap.size w w' := by
  have HB := Lib.hid (Blk.new w 44 #[.int .i64 1, .int .i64 0, .int .i64 0, .int .i64 5, .int .i64 5, .int .i64 0, .int .i64 0])
  have c0 := HB.out.cell 0; have c1 := HB.out.cell 1; have c2 := HB.out.cell 2; have c3 := HB.out.cell 3; have c4 := HB.out.cell 4; have c5 := HB.out.cell 5; have c6 := HB.out.cell 6
  go_enter Tryz.func206, Tryz.ntmps206
  go_wp2_with fail
  refine (queryValid1 _).mono ?_
  rintro e W1 ⟨rfl, hb1⟩
  have HB1 := Lib.hid (HB.out.ext hb1)
  have HE1 := Lib.hid (ext_call (ext_new w _) hb1)
  clear hb1 c0 c1 c2 c3 c4 c5 c6
  have c0 := HB1.out.cell 0; have c1 := HB1.out.cell 1; have c2 := HB1.out.cell 2; have c3 := HB1.out.cell 3; have c4 := HB1.out.cell 4; have c5 := HB1.out.cell 5; have c6 := HB1.out.cell 6
  go_wp2
  go_quiet (fail)
  go_wp2
  refine bodyPost_ret (v := .tuple #[.int .i64 0, .int .i64 0, .int .i64 5, .int .i64 5]) (by simp [results, Tryz.results206, go_sem]) rfl ⟨rfl, ?_⟩
  exact ext_drewN HE1.out _

set_option maxRecDepth 100000 in
set_option maxHeartbeats 1000000 in
theorem queryScan0 (w : World) : Calls Tryz.prog 206 #[.agg #[.int .i64 1, .int .i64 0, .int .i64 0, .int .i64 5, .int .i64 5, .int .i64 0, .int .i64 0]] w fun e w' => e = .returned (.tuple #[.int .i64 0, .int .i64 0, .int .i64 5, .int .i64 5]) ∧ Below w.heap.size w w' := by
  have HB := Lib.hid (Blk.new w 44 #[.int .i64 1, .int .i64 0, .int .i64 0, .int .i64 5, .int .i64 5, .int .i64 0, .int .i64 0])
  have c0 := HB.out.cell 0; have c1 := HB.out.cell 1; have c2 := HB.out.cell 2; have c3 := HB.out.cell 3; have c4 := HB.out.cell 4; have c5 := HB.out.cell 5; have c6 := HB.out.cell 6
  go_enter Tryz.func206, Tryz.ntmps206
  go_wp2_with fail
  refine (queryValid0 _).mono ?_
  rintro e W1 ⟨rfl, hb1⟩
  have HB1 := Lib.hid (HB.out.ext hb1)
  have HE1 := Lib.hid (ext_call (ext_new w _) hb1)
  clear hb1 c0 c1 c2 c3 c4 c5 c6
  have c0 := HB1.out.cell 0; have c1 := HB1.out.cell 1; have c2 := HB1.out.cell 2; have c3 := HB1.out.cell 3; have c4 := HB1.out.cell 4; have c5 := HB1.out.cell 5; have c6 := HB1.out.cell 6
  go_wp2
  go_quiet (fail)
  go_wp2
  refine bodyPost_ret (v := .tuple #[.int .i64 0, .int .i64 0, .int .i64 5, .int .i64 5]) (by simp [results, Tryz.results206, go_sem]) rfl ⟨rfl, ?_⟩
  exact ext_drewN HE1.out _

set_option maxRecDepth 100000 in
set_option maxHeartbeats 1000000 in
theorem proofOf1 (w : World) : Calls Tryz.prog 180 #[.agg #[.int .i64 1, .int .i64 0, .int .i64 0, .int .i64 5, .int .i64 5, .int .i64 0, .int .i64 0]] w fun e w' => e = .returned (.agg #[.int .i64 0, .int .i64 0, .int .i64 5, .int .i64 5]) ∧ Below w.heap.size w w' := by
  have HS := Lib.hid (Blk.new' (w.alloc (.cells #[.int .i64 1, .int .i64 0, .int .i64 0, .int .i64 5, .int .i64 5, .int .i64 0, .int .i64 0] 44)) 276 #[.int .i64 0, .int .i64 0, .int .i64 0, .int .i64 0] (b := w.heap.size + 1) (by simp))
  go_enter Tryz.func180, Tryz.ntmps180
  go_wp2_with fail
  refine (queryScan1 _).mono ?_
  rintro e W1 ⟨rfl, hb1⟩
  have HS1 := Lib.hid (HS.out.ext hb1)
  have HE1 := Lib.hid (ext_call (ext_alloc (ext_new w _) _) hb1)
  clear hb1
  have c0 := HS1.out.cell 0; have c1 := HS1.out.cell 1; have c2 := HS1.out.cell 2; have c3 := HS1.out.cell 3
  have f0 := HS1.out.frozen 0
  have f1 := HS1.out.frozen 1
  have f2 := HS1.out.frozen 2
  have f3 := HS1.out.frozen 3
  go_wp2
  have hBf := (((((((HS1.out.set_ 0 (.int .i64 0)).set_ 1 (.int .i64 0)).set_ 2 (.int .i64 5)).set_ 3 (.int .i64 5)).set_ 0 (.int .i64 0)).set_ 1 (.int .i64 0)).set_ 2 (.int .i64 5)).set_ 3 (.int .i64 5)
  have y0 := hBf.cell 0; have y1 := hBf.cell 1; have y2 := hBf.cell 2; have y3 := hBf.cell 3
  refine bodyPost_ret (v := .agg #[.int .i64 0, .int .i64 0, .int .i64 5, .int .i64 5]) (by simp [results, Tryz.results180, go_sem, y0, y1, y2, y3]) rfl ⟨rfl, ?_⟩
  repeat (first | with_reducible exact HE1.out | refine ext_set ?_ (by simp) _)

set_option maxRecDepth 100000 in
set_option maxHeartbeats 1000000 in
theorem proofOf0 (w : World) : Calls Tryz.prog 180 #[.agg #[.int .i64 1, .int .i64 0, .int .i64 0, .int .i64 5, .int .i64 5, .int .i64 0, .int .i64 0]] w fun e w' => e = .returned (.agg #[.int .i64 0, .int .i64 0, .int .i64 5, .int .i64 5]) ∧ Below w.heap.size w w' := by
  have HS := Lib.hid (Blk.new' (w.alloc (.cells #[.int .i64 1, .int .i64 0, .int .i64 0, .int .i64 5, .int .i64 5, .int .i64 0, .int .i64 0] 44)) 276 #[.int .i64 0, .int .i64 0, .int .i64 0, .int .i64 0] (b := w.heap.size + 1) (by simp))
  go_enter Tryz.func180, Tryz.ntmps180
  go_wp2_with fail
  refine (queryScan0 _).mono ?_
  rintro e W1 ⟨rfl, hb1⟩
  have HS1 := Lib.hid (HS.out.ext hb1)
  have HE1 := Lib.hid (ext_call (ext_alloc (ext_new w _) _) hb1)
  clear hb1
  have c0 := HS1.out.cell 0; have c1 := HS1.out.cell 1; have c2 := HS1.out.cell 2; have c3 := HS1.out.cell 3
  have f0 := HS1.out.frozen 0
  have f1 := HS1.out.frozen 1
  have f2 := HS1.out.frozen 2
  have f3 := HS1.out.frozen 3
  go_wp2
  have hBf := (((((((HS1.out.set_ 0 (.int .i64 0)).set_ 1 (.int .i64 0)).set_ 2 (.int .i64 5)).set_ 3 (.int .i64 5)).set_ 0 (.int .i64 0)).set_ 1 (.int .i64 0)).set_ 2 (.int .i64 5)).set_ 3 (.int .i64 5)
  have y0 := hBf.cell 0; have y1 := hBf.cell 1; have y2 := hBf.cell 2; have y3 := hBf.cell 3
  refine bodyPost_ret (v := .agg #[.int .i64 0, .int .i64 0, .int .i64 5, .int .i64 5]) (by simp [results, Tryz.results180, go_sem, y0, y1, y2, y3]) rfl ⟨rfl, ?_⟩
  repeat (first | with_reducible exact HE1.out | refine ext_set ?_ (by simp) _)

end Go.Proofs.YtbgfmbmcabekeaaGreatDoor

/-
  package message: Valid.
-/
namespace Go.Proofs.YtbgfmbmcabekeaaGreatDoor
open Go.RowKit Go.Shelf

theorem side_q (n : Int) (h0 : 0 ≤ n) (h1 : n ≤ 23) (w : World) : Calls Tryz.prog 45 #[.int .i64 n] w fun e w' => e = .returned (.int .i64 1) ∧ w' = w :=
  (sideNode n h0 h1 w).mono fun _ _ h => ⟨h.1, h.2.symm⟩
theorem sideO_q (w : World) : Calls Tryz.prog 45 #[.int .i64 100] w fun e w' => e = .returned (.int .i64 2) ∧ w' = w :=
  (sideOrigin w).mono fun _ _ h => ⟨h.1, h.2.symm⟩
theorem mw_qy (n l h : Int) (h0 : l ≤ n) (h1 : n ≤ h) (w : World) : Calls Tryz.prog 46 #[.int .i64 n, .int .i64 l, .int .i64 h] w fun e w' => e = .returned (.bool true) ∧ w' = w :=
  (mw_yes n l h h0 h1 w).mono fun _ _ h => ⟨h.1, h.2.symm⟩
theorem mw_qn (n l h : Int) (h0 : n < l ∨ h < n) (w : World) : Calls Tryz.prog 46 #[.int .i64 n, .int .i64 l, .int .i64 h] w fun e w' => e = .returned (.bool false) ∧ w' = w :=
  (mw_no n l h h0 w).mono fun _ _ h => ⟨h.1, h.2.symm⟩

attribute [local go_sem ↓] ld_exec ld_sem bd_exec bd_sem
set_option maxRecDepth 100000 in
set_option maxHeartbeats 4000000 in
theorem validMiss (w : World) : Calls Tryz.prog 17 #[.agg #[.int .i64 7, .int .i64 2, .int .i64 100, .int .i64 0, .int .i64 0, .int .i64 0, .int .i64 7, .int .i64 0, .int .i64 0, .int .i64 0, .int .i64 1, .int .i64 0, .int .i64 0, .int .i64 5, .int .i64 5, .int .i64 0, .int .i64 0, .int .i64 0, .slice none 0 0, .int .i64 0, .int .i64 0, .int .i64 0, .int .i64 0, .int .i64 0, .int .i64 0, .int .i64 0, .int .i64 0, .int .i64 0, .slice none 0 0, .int .i64 0, .int .i64 0, .int .i64 0, .int .i64 0, .int .i64 0, .int .i64 0, .int .i64 0, .slice none 0 0, .int .i64 0, .bool false, .int .i64 0, .int .i64 0, .int .i64 0, .slice none 0 0, .slice none 0 0, .int .i64 0, .slice none 0 0, .slice none 0 0]] w fun e w' => e = .returned (.bool true) ∧ Below w.heap.size w w' := by
  obtain ⟨va, hva⟩ : ∃ va : Array Value, va = #[.int .i64 7, .int .i64 2, .int .i64 100, .int .i64 0, .int .i64 0, .int .i64 0, .int .i64 7, .int .i64 0, .int .i64 0, .int .i64 0, .int .i64 1, .int .i64 0, .int .i64 0, .int .i64 5, .int .i64 5, .int .i64 0, .int .i64 0, .int .i64 0, .slice none 0 0, .int .i64 0, .int .i64 0, .int .i64 0, .int .i64 0, .int .i64 0, .int .i64 0, .int .i64 0, .int .i64 0, .int .i64 0, .slice none 0 0, .int .i64 0, .int .i64 0, .int .i64 0, .int .i64 0, .int .i64 0, .int .i64 0, .int .i64 0, .slice none 0 0, .int .i64 0, .bool false, .int .i64 0, .int .i64 0, .int .i64 0, .slice none 0 0, .slice none 0 0, .int .i64 0, .slice none 0 0, .slice none 0 0] := ⟨_, rfl⟩
  obtain ⟨oa, hoa⟩ : ∃ oa : Array Value, oa = #[.int .i64 7, .int .i64 2, .int .i64 100, .int .i64 0, .int .i64 0, .int .i64 0, .int .i64 0, .int .i64 0, .int .i64 0, .int .i64 0, .int .i64 0, .int .i64 0, .int .i64 0, .int .i64 0, .int .i64 0, .int .i64 0, .int .i64 0, .int .i64 0, .slice none 0 0, .int .i64 0, .int .i64 0, .int .i64 0, .int .i64 0, .int .i64 0, .int .i64 0, .int .i64 0, .int .i64 0, .int .i64 0, .slice none 0 0, .int .i64 0, .int .i64 0, .int .i64 0, .int .i64 0, .int .i64 0, .int .i64 0, .int .i64 0, .slice none 0 0, .int .i64 0, .bool false, .int .i64 0, .int .i64 0, .int .i64 0, .slice none 0 0, .slice none 0 0, .int .i64 0, .slice none 0 0, .slice none 0 0] := ⟨_, rfl⟩
  obtain ⟨X0, hX⟩ : ∃ X, X = w.alloc (.cells va 57) := ⟨_, rfl⟩
  have HX := Lib.hid hX
  have HE := Lib.hid (show Below w.heap.size w X0 by rw [hX]; exact ext_new _ _)
  have HB := Lib.hid (show Blk X0 w.heap.size 57 va by rw [hX]; exact Blk.new _ _ _)
  have K1 := Lib.hid (fun W => side_q (2) (by omega) (by omega) W)
  have K2 := Lib.hid sideO_q
  have K4 := Lib.hid (fun W => mw_qy (0) 0 1000000 (by omega) (by omega) W)
  have K6 := Lib.hid (fun W => mw_qy (7) 1 4611686018427387903 (by omega) (by omega) W)
  have K3 := Lib.hid (fun W => mw_qn (0) 1 1000000 (by omega) W)
  have K7 := Lib.hid (fun W => mw_qy (0) 0 1000000 (by omega) (by omega) W)
  have K5 := Lib.hid (fun W => mw_qy (0) 0 7 (by omega) (by omega) W)
  have HVA := Lib.hid hva
  have HOA := Lib.hid hoa
  rw [← hva]
  clear hX hva hoa
  go_enter Tryz.func17, Tryz.ntmps17
  go_upto_region 1 with (fail)
  rw [← HX.out]
  have a1 := (HB.out.cell 1).trans (show _ = some (.int .i64 2) by rw [HVA.out]; rfl)
  have a2 := (HB.out.cell 2).trans (show _ = some (.int .i64 100) by rw [HVA.out]; rfl)
  go_quiet (first | (go_at_call 45; with_reducible refine Calls.quiet_of_same (K1.out _)) | (go_at_call 45; with_reducible refine Calls.quiet_of_same (K2.out _)))
  clear a1 a2
  obtain ⟨X1, hX1⟩ : ∃ X1, X1 = X0.drewN nq := ⟨_, rfl⟩
  rw [← hX1]
  have HE1 := Lib.hid (show Below X0.heap.size X0 X1 by rw [hX1]; exact ext_drewN (ext_refl _) _)
  clear hX1
  obtain ⟨bd1, bd2⟩ := bd_of w (P := Tryz.prog) (t := 57) (ps := #[(0, .int .i64 7), (1, .int .i64 2), (2, .int .i64 100)]) (cs := oa) (by rw [HOA.out]; kernel_rfl)
  have a0 := ((HB.out.ext HE1.out).cell 0).trans (show _ = some (.int .i64 7) by rw [HVA.out]; rfl)
  have a1 := ((HB.out.ext HE1.out).cell 1).trans (show _ = some (.int .i64 2) by rw [HVA.out]; rfl)
  have a2 := ((HB.out.ext HE1.out).cell 2).trans (show _ = some (.int .i64 100) by rw [HVA.out]; rfl)
  have HZ := Lib.hid (Blk.new X1 57 #[.int .i64 0, .int .i64 0, .int .i64 0, .int .i64 0, .int .i64 0, .int .i64 0, .int .i64 0, .int .i64 0, .int .i64 0, .int .i64 0, .int .i64 0, .int .i64 0, .int .i64 0, .int .i64 0, .int .i64 0, .int .i64 0, .int .i64 0, .int .i64 0, .slice none 0 0, .int .i64 0, .int .i64 0, .int .i64 0, .int .i64 0, .int .i64 0, .int .i64 0, .int .i64 0, .int .i64 0, .int .i64 0, .slice none 0 0, .int .i64 0, .int .i64 0, .int .i64 0, .int .i64 0, .int .i64 0, .int .i64 0, .int .i64 0, .slice none 0 0, .int .i64 0, .bool false, .int .i64 0, .int .i64 0, .int .i64 0, .slice none 0 0, .slice none 0 0, .int .i64 0, .slice none 0 0, .slice none 0 0])
  have HI := Lib.hid (show (Tryz.prog.info? 57).map (·.size) = some oa.size by rw [HOA.out]; kernel_rfl)
  have HSZ := Lib.hid (show (#[.int .i64 0, .int .i64 0, .int .i64 0, .int .i64 0, .int .i64 0, .int .i64 0, .int .i64 0, .int .i64 0, .int .i64 0, .int .i64 0, .int .i64 0, .int .i64 0, .int .i64 0, .int .i64 0, .int .i64 0, .int .i64 0, .int .i64 0, .int .i64 0, .slice none 0 0, .int .i64 0, .int .i64 0, .int .i64 0, .int .i64 0, .int .i64 0, .int .i64 0, .int .i64 0, .int .i64 0, .int .i64 0, .slice none 0 0, .int .i64 0, .int .i64 0, .int .i64 0, .int .i64 0, .int .i64 0, .int .i64 0, .int .i64 0, .slice none 0 0, .int .i64 0, .bool false, .int .i64 0, .int .i64 0, .int .i64 0, .slice none 0 0, .slice none 0 0, .int .i64 0, .slice none 0 0, .slice none 0 0] : Array Value).size = oa.size by rw [HOA.out]; rfl)
  have H1 := Lib.hid (show oa.all (·.oneCell') = true by rw [HOA.out]; simp [Value.oneCell'])
  go_upto_region 4 with (refine wpList_store_blk rfl 57 (.tmp 7) (.tmp 38) rfl X1.heap.size oa rfl rfl 57 #[.int .i64 0, .int .i64 0, .int .i64 0, .int .i64 0, .int .i64 0, .int .i64 0, .int .i64 0, .int .i64 0, .int .i64 0, .int .i64 0, .int .i64 0, .int .i64 0, .int .i64 0, .int .i64 0, .int .i64 0, .int .i64 0, .int .i64 0, .int .i64 0, .slice none 0 0, .int .i64 0, .int .i64 0, .int .i64 0, .int .i64 0, .int .i64 0, .int .i64 0, .int .i64 0, .int .i64 0, .int .i64 0, .slice none 0 0, .int .i64 0, .int .i64 0, .int .i64 0, .int .i64 0, .int .i64 0, .int .i64 0, .int .i64 0, .slice none 0 0, .int .i64 0, .bool false, .int .i64 0, .int .i64 0, .int .i64 0, .slice none 0 0, .slice none 0 0, .int .i64 0, .slice none 0 0, .slice none 0 0] HZ.out HI.out HSZ.out H1.out ?_; intro X2 hB2 hg2; have HO2 := Lib.hid hB2; have HE2 := Lib.hid ((ext_alloc HE1.out (.cells #[.int .i64 0, .int .i64 0, .int .i64 0, .int .i64 0, .int .i64 0, .int .i64 0, .int .i64 0, .int .i64 0, .int .i64 0, .int .i64 0, .int .i64 0, .int .i64 0, .int .i64 0, .int .i64 0, .int .i64 0, .int .i64 0, .int .i64 0, .int .i64 0, .slice none 0 0, .int .i64 0, .int .i64 0, .int .i64 0, .int .i64 0, .int .i64 0, .int .i64 0, .int .i64 0, .int .i64 0, .int .i64 0, .slice none 0 0, .int .i64 0, .int .i64 0, .int .i64 0, .int .i64 0, .int .i64 0, .int .i64 0, .int .i64 0, .slice none 0 0, .int .i64 0, .bool false, .int .i64 0, .int .i64 0, .int .i64 0, .slice none 0 0, .slice none 0 0, .int .i64 0, .slice none 0 0, .slice none 0 0] 57)).grown hg2 (ext_alloc HE1.out (.cells #[.int .i64 0, .int .i64 0, .int .i64 0, .int .i64 0, .int .i64 0, .int .i64 0, .int .i64 0, .int .i64 0, .int .i64 0, .int .i64 0, .int .i64 0, .int .i64 0, .int .i64 0, .int .i64 0, .int .i64 0, .int .i64 0, .int .i64 0, .int .i64 0, .slice none 0 0, .int .i64 0, .int .i64 0, .int .i64 0, .int .i64 0, .int .i64 0, .int .i64 0, .int .i64 0, .int .i64 0, .int .i64 0, .slice none 0 0, .int .i64 0, .int .i64 0, .int .i64 0, .int .i64 0, .int .i64 0, .int .i64 0, .int .i64 0, .slice none 0 0, .int .i64 0, .bool false, .int .i64 0, .int .i64 0, .int .i64 0, .slice none 0 0, .slice none 0 0, .int .i64 0, .slice none 0 0, .slice none 0 0] 57)).size (fun k e => by injection e with e; have := HE1.out.size; omega)); clear hB2 hg2)
  clear a0 a1 a2 bd1 bd2 HZ HI HSZ H1
  have HN := Lib.hid (show X0.heap.size ≤ X1.heap.size from HE1.out.size)
  have a4 := ((HB.out.ext HE2.out).cell 4).trans (show _ = some (.int .i64 0) by rw [HVA.out]; rfl)
  have a6 := ((HB.out.ext HE2.out).cell 6).trans (show _ = some (.int .i64 7) by rw [HVA.out]; rfl)
  go_quiet (first | (go_at_call 46; with_reducible refine Calls.quiet_of_same (K4.out _)) | (go_at_call 46; with_reducible refine Calls.quiet_of_same (K6.out _)))
  clear a4 a6
  obtain ⟨X3, hX3⟩ : ∃ X3, X3 = X2.drewN nq := ⟨_, rfl⟩
  rw [← hX3]
  have HE3 := Lib.hid (show Below X0.heap.size X0 X3 by rw [hX3]; exact ext_drewN HE2.out _)
  have HO3 := Lib.hid (show Blk X3 X1.heap.size 57 oa by rw [hX3]; exact HO2.out.ext (ext_drewN (ext_refl _) _))
  clear hX3
  go_upto_region 5 with (fail)
  have a3 := ((HB.out.ext HE3.out).cell 3).trans (show _ = some (.int .i64 0) by rw [HVA.out]; rfl)
  have a7 := ((HB.out.ext HE3.out).cell 7).trans (show _ = some (.int .i64 0) by rw [HVA.out]; rfl)
  go_quiet (first | (go_at_call 46; with_reducible refine Calls.quiet_of_same (K3.out _)) | (go_at_call 46; with_reducible refine Calls.quiet_of_same (K7.out _)))
  clear a3 a7
  obtain ⟨X4, hX4⟩ : ∃ X4, X4 = X3.drewN nq := ⟨_, rfl⟩
  rw [← hX4]
  have HE4 := Lib.hid (show Below X0.heap.size X0 X4 by rw [hX4]; exact ext_drewN HE3.out _)
  have HO4 := Lib.hid (show Blk X4 X1.heap.size 57 oa by rw [hX4]; exact HO3.out.ext (ext_drewN (ext_refl _) _))
  clear hX4
  have a5 := ((HB.out.ext HE4.out).cell 5).trans (show _ = some (.int .i64 0) by rw [HVA.out]; rfl)
  have a0 := ((HB.out.ext HE4.out).cell 0).trans (show _ = some (.int .i64 7) by rw [HVA.out]; rfl)
  go_upto_region 31 with (go_at_call 46; with_reducible refine (K5.out _).mono ?_; rintro e w' ⟨rfl, hw5⟩; subst w')
  clear a5 a0
  have a5 := ((HB.out.ext HE4.out).cell 5).trans (show _ = some (.int .i64 0) by rw [HVA.out]; rfl)
  have a6 := ((HB.out.ext HE4.out).cell 6).trans (show _ = some (.int .i64 7) by rw [HVA.out]; rfl)
  have a10 := ((HB.out.ext HE4.out).cell 10).trans (show _ = some (.int .i64 1) by rw [HVA.out]; rfl)
  have a11 := ((HB.out.ext HE4.out).cell 11).trans (show _ = some (.int .i64 0) by rw [HVA.out]; rfl)
  have a12 := ((HB.out.ext HE4.out).cell 12).trans (show _ = some (.int .i64 0) by rw [HVA.out]; rfl)
  have a13 := ((HB.out.ext HE4.out).cell 13).trans (show _ = some (.int .i64 5) by rw [HVA.out]; rfl)
  have a14 := ((HB.out.ext HE4.out).cell 14).trans (show _ = some (.int .i64 5) by rw [HVA.out]; rfl)
  have a15 := ((HB.out.ext HE4.out).cell 15).trans (show _ = some (.int .i64 0) by rw [HVA.out]; rfl)
  have a16 := ((HB.out.ext HE4.out).cell 16).trans (show _ = some (.int .i64 0) by rw [HVA.out]; rfl)
  have c5 := (HO4.out.cell 5).trans (show _ = some (.int .i64 0) by rw [HOA.out]; rfl)
  have c6 := (HO4.out.cell 6).trans (show _ = some (.int .i64 0) by rw [HOA.out]; rfl)
  have c10 := (HO4.out.cell 10).trans (show _ = some (.int .i64 0) by rw [HOA.out]; rfl)
  have c11 := (HO4.out.cell 11).trans (show _ = some (.int .i64 0) by rw [HOA.out]; rfl)
  have c12 := (HO4.out.cell 12).trans (show _ = some (.int .i64 0) by rw [HOA.out]; rfl)
  have c13 := (HO4.out.cell 13).trans (show _ = some (.int .i64 0) by rw [HOA.out]; rfl)
  have c14 := (HO4.out.cell 14).trans (show _ = some (.int .i64 0) by rw [HOA.out]; rfl)
  have c15 := (HO4.out.cell 15).trans (show _ = some (.int .i64 0) by rw [HOA.out]; rfl)
  have c16 := (HO4.out.cell 16).trans (show _ = some (.int .i64 0) by rw [HOA.out]; rfl)
  have g5 := HO4.out.frozen 5
  have g6 := HO4.out.frozen 6
  have g10 := HO4.out.frozen 10
  have g11 := HO4.out.frozen 11
  have g12 := HO4.out.frozen 12
  have g13 := HO4.out.frozen 13
  have g14 := HO4.out.frozen 14
  have g15 := HO4.out.frozen 15
  have g16 := HO4.out.frozen 16
  go_region
  obtain ⟨Y, hY⟩ : ∃ Y, Y = ((((((((((X4).setCell ⟨X1.heap.size, 10, none⟩ (.int .i64 1)).setCell ⟨X1.heap.size, 11, none⟩ (.int .i64 0)).setCell ⟨X1.heap.size, 12, none⟩ (.int .i64 0)).setCell ⟨X1.heap.size, 13, none⟩ (.int .i64 5)).setCell ⟨X1.heap.size, 14, none⟩ (.int .i64 5)).setCell ⟨X1.heap.size, 15, none⟩ (.int .i64 0)).setCell ⟨X1.heap.size, 16, none⟩ (.int .i64 0)).setCell ⟨X1.heap.size, 5, none⟩ (.int .i64 0)).setCell ⟨X1.heap.size, 6, none⟩ (.int .i64 7)).drew := ⟨_, rfl⟩
  rw [← hY]
  have HEY := Lib.hid (show Below w.heap.size w Y by rw [hY]; exact (ext_set (ext_set (ext_set (ext_set (ext_set (ext_set (ext_set (ext_set (ext_set (ext_call HE.out HE4.out) (Nat.le_trans HE.out.size HN.out) _) (Nat.le_trans HE.out.size HN.out) _) (Nat.le_trans HE.out.size HN.out) _) (Nat.le_trans HE.out.size HN.out) _) (Nat.le_trans HE.out.size HN.out) _) (Nat.le_trans HE.out.size HN.out) _) (Nat.le_trans HE.out.size HN.out) _) (Nat.le_trans HE.out.size HN.out) _) (Nat.le_trans HE.out.size HN.out) _).drew)
  have HBY := Lib.hid (show Blk Y w.heap.size 57 va by rw [hY]; exact Blk.drew ((((((((((HB.out.ext HE4.out).far (by have := HB.out.lt; have := HN.out; simp; omega) _).far (by have := HB.out.lt; have := HN.out; simp; omega) _).far (by have := HB.out.lt; have := HN.out; simp; omega) _).far (by have := HB.out.lt; have := HN.out; simp; omega) _).far (by have := HB.out.lt; have := HN.out; simp; omega) _).far (by have := HB.out.lt; have := HN.out; simp; omega) _).far (by have := HB.out.lt; have := HN.out; simp; omega) _).far (by have := HB.out.lt; have := HN.out; simp; omega) _).far (by have := HB.out.lt; have := HN.out; simp; omega) _))
  have HOY := Lib.hid (show Blk Y X1.heap.size 57 va by rw [hY]; have h9 := Blk.drew ((((((((((HO4.out).set_ 10 (.int .i64 1)).set_ 11 (.int .i64 0)).set_ 12 (.int .i64 0)).set_ 13 (.int .i64 5)).set_ 14 (.int .i64 5)).set_ 15 (.int .i64 0)).set_ 16 (.int .i64 0)).set_ 5 (.int .i64 0)).set_ 6 (.int .i64 7)); rwa [show (((((((((oa).setIfInBounds 10 (.int .i64 1)).setIfInBounds 11 (.int .i64 0)).setIfInBounds 12 (.int .i64 0)).setIfInBounds 13 (.int .i64 5)).setIfInBounds 14 (.int .i64 5)).setIfInBounds 15 (.int .i64 0)).setIfInBounds 16 (.int .i64 0)).setIfInBounds 5 (.int .i64 0)).setIfInBounds 6 (.int .i64 7) = va by rw [HOA.out, HVA.out]; kernel_rfl] at h9)
  clear hY a5 a6 a10 a11 a12 a13 a14 a15 a16 c5 c6 c10 c11 c12 c13 c14 c15 c16 g5 g6 g10 g11 g12 g13 g14 g15 g16
  obtain ⟨l0, e0⟩ := ld_blk (P := Tryz.prog) (o := 10) (e := 17) HBY.out (show va.extract 10 17 = #[.int .i64 1, .int .i64 0, .int .i64 0, .int .i64 5, .int .i64 5, .int .i64 0, .int .i64 0] by rw [HVA.out]; kernel_rfl) Tryz.underlying44 rfl (by kernel_rfl)
  go_wp2_with fail
  with_reducible refine (queryValid1 _).mono ?_
  rintro e Z ⟨rfl, hbz⟩
  have HEZ := Lib.hid (ext_call HEY.out hbz)
  have HBZ := Lib.hid (HBY.out.ext hbz)
  have HOZ := Lib.hid (HOY.out.ext hbz)
  clear hbz l0 e0
  have l1 := ld_blk (P := Tryz.prog) HBZ.out (show Array.extract va 0 47 = va by rw [HVA.out]; kernel_rfl) Tryz.underlying57 rfl (by rw [HVA.out]; kernel_rfl)
  have l2 := ld_blk (P := Tryz.prog) HOZ.out (show Array.extract va 0 47 = va by rw [HVA.out]; kernel_rfl) Tryz.underlying57 rfl (by rw [HVA.out]; kernel_rfl)
  obtain ⟨l1, e1⟩ := l1
  obtain ⟨l2, e2⟩ := l2
  have HS := Lib.hid (show ∀ W, Calls Tryz.prog 51 #[.agg va, .agg va] W fun e w' => e = .returned (.bool true) ∧ Below W.heap.size W w' by rw [HVA.out]; exact msgSame (7) (2) (100) (0) (0) (0) (7) (0) (0) (0) (1) (0) (0) (5) (5) (0) (0))
  go_wp2_with (go_at_call 51; with_reducible refine (HS.out _).mono ?_; rintro e W9 ⟨rfl, hb9⟩; have HE9 := Lib.hid (ext_call HEZ.out hb9); clear hb9)
  go_ret
  exact ⟨rfl, HE9.out⟩

set_option maxRecDepth 100000 in
set_option maxHeartbeats 4000000 in
theorem validWant (n ep : Int) (hn0 : 0 ≤ n) (hn1 : n ≤ 23) (he0 : 0 ≤ ep) (he1 : ep ≤ 1000000) (w : World) : Calls Tryz.prog 17 #[.agg #[.int .i64 9, .int .i64 n, .int .i64 100, .int .i64 0, .int .i64 ep, .int .i64 0, .int .i64 0, .int .i64 0, .int .i64 0, .int .i64 0, .int .i64 0, .int .i64 0, .int .i64 0, .int .i64 0, .int .i64 0, .int .i64 0, .int .i64 0, .int .i64 0, .slice none 0 0, .int .i64 0, .int .i64 0, .int .i64 0, .int .i64 0, .int .i64 0, .int .i64 0, .int .i64 0, .int .i64 0, .int .i64 0, .slice none 0 0, .int .i64 0, .int .i64 0, .int .i64 0, .int .i64 0, .int .i64 0, .int .i64 0, .int .i64 0, .slice none 0 0, .int .i64 0, .bool false, .int .i64 0, .int .i64 0, .int .i64 0, .slice none 0 0, .slice none 0 0, .int .i64 0, .slice none 0 0, .slice none 0 0]] w fun e w' => e = .returned (.bool true) ∧ Below w.heap.size w w' := by
  obtain ⟨va, hva⟩ : ∃ va : Array Value, va = #[.int .i64 9, .int .i64 n, .int .i64 100, .int .i64 0, .int .i64 ep, .int .i64 0, .int .i64 0, .int .i64 0, .int .i64 0, .int .i64 0, .int .i64 0, .int .i64 0, .int .i64 0, .int .i64 0, .int .i64 0, .int .i64 0, .int .i64 0, .int .i64 0, .slice none 0 0, .int .i64 0, .int .i64 0, .int .i64 0, .int .i64 0, .int .i64 0, .int .i64 0, .int .i64 0, .int .i64 0, .int .i64 0, .slice none 0 0, .int .i64 0, .int .i64 0, .int .i64 0, .int .i64 0, .int .i64 0, .int .i64 0, .int .i64 0, .slice none 0 0, .int .i64 0, .bool false, .int .i64 0, .int .i64 0, .int .i64 0, .slice none 0 0, .slice none 0 0, .int .i64 0, .slice none 0 0, .slice none 0 0] := ⟨_, rfl⟩
  obtain ⟨oa, hoa⟩ : ∃ oa : Array Value, oa = #[.int .i64 9, .int .i64 n, .int .i64 100, .int .i64 0, .int .i64 0, .int .i64 0, .int .i64 0, .int .i64 0, .int .i64 0, .int .i64 0, .int .i64 0, .int .i64 0, .int .i64 0, .int .i64 0, .int .i64 0, .int .i64 0, .int .i64 0, .int .i64 0, .slice none 0 0, .int .i64 0, .int .i64 0, .int .i64 0, .int .i64 0, .int .i64 0, .int .i64 0, .int .i64 0, .int .i64 0, .int .i64 0, .slice none 0 0, .int .i64 0, .int .i64 0, .int .i64 0, .int .i64 0, .int .i64 0, .int .i64 0, .int .i64 0, .slice none 0 0, .int .i64 0, .bool false, .int .i64 0, .int .i64 0, .int .i64 0, .slice none 0 0, .slice none 0 0, .int .i64 0, .slice none 0 0, .slice none 0 0] := ⟨_, rfl⟩
  obtain ⟨X0, hX⟩ : ∃ X, X = w.alloc (.cells va 57) := ⟨_, rfl⟩
  have HX := Lib.hid hX
  have HE := Lib.hid (show Below w.heap.size w X0 by rw [hX]; exact ext_new _ _)
  have HB := Lib.hid (show Blk X0 w.heap.size 57 va by rw [hX]; exact Blk.new _ _ _)
  have K1 := Lib.hid (fun W => side_q (n) hn0 hn1 W)
  have K2 := Lib.hid sideO_q
  have K4 := Lib.hid (fun W => mw_qy (ep) 0 1000000 he0 he1 W)
  have K6 := Lib.hid (fun W => mw_qn (0) 1 4611686018427387903 (by omega) W)
  have K3 := Lib.hid (fun W => mw_qn (0) 1 1000000 (by omega) W)
  have K7 := Lib.hid (fun W => mw_qy (0) 0 1000000 (by omega) (by omega) W)
  have K5 := Lib.hid (fun W => mw_qy (0) 0 7 (by omega) (by omega) W)
  have HVA := Lib.hid hva
  have HOA := Lib.hid hoa
  rw [← hva]
  clear hX hva hoa
  go_enter Tryz.func17, Tryz.ntmps17
  go_upto_region 1 with (fail)
  rw [← HX.out]
  have a1 := (HB.out.cell 1).trans (show _ = some (.int .i64 n) by rw [HVA.out]; rfl)
  have a2 := (HB.out.cell 2).trans (show _ = some (.int .i64 100) by rw [HVA.out]; rfl)
  go_quiet (first | (go_at_call 45; with_reducible refine Calls.quiet_of_same (K1.out _)) | (go_at_call 45; with_reducible refine Calls.quiet_of_same (K2.out _)))
  clear a1 a2
  obtain ⟨X1, hX1⟩ : ∃ X1, X1 = X0.drewN nq := ⟨_, rfl⟩
  rw [← hX1]
  have HE1 := Lib.hid (show Below X0.heap.size X0 X1 by rw [hX1]; exact ext_drewN (ext_refl _) _)
  clear hX1
  obtain ⟨bd1, bd2⟩ := bd_of w (P := Tryz.prog) (t := 57) (ps := #[(0, .int .i64 9), (1, .int .i64 n), (2, .int .i64 100)]) (cs := oa) (by rw [HOA.out]; kernel_rfl)
  have a0 := ((HB.out.ext HE1.out).cell 0).trans (show _ = some (.int .i64 9) by rw [HVA.out]; rfl)
  have a1 := ((HB.out.ext HE1.out).cell 1).trans (show _ = some (.int .i64 n) by rw [HVA.out]; rfl)
  have a2 := ((HB.out.ext HE1.out).cell 2).trans (show _ = some (.int .i64 100) by rw [HVA.out]; rfl)
  have HZ := Lib.hid (Blk.new X1 57 #[.int .i64 0, .int .i64 0, .int .i64 0, .int .i64 0, .int .i64 0, .int .i64 0, .int .i64 0, .int .i64 0, .int .i64 0, .int .i64 0, .int .i64 0, .int .i64 0, .int .i64 0, .int .i64 0, .int .i64 0, .int .i64 0, .int .i64 0, .int .i64 0, .slice none 0 0, .int .i64 0, .int .i64 0, .int .i64 0, .int .i64 0, .int .i64 0, .int .i64 0, .int .i64 0, .int .i64 0, .int .i64 0, .slice none 0 0, .int .i64 0, .int .i64 0, .int .i64 0, .int .i64 0, .int .i64 0, .int .i64 0, .int .i64 0, .slice none 0 0, .int .i64 0, .bool false, .int .i64 0, .int .i64 0, .int .i64 0, .slice none 0 0, .slice none 0 0, .int .i64 0, .slice none 0 0, .slice none 0 0])
  have HI := Lib.hid (show (Tryz.prog.info? 57).map (·.size) = some oa.size by rw [HOA.out]; kernel_rfl)
  have HSZ := Lib.hid (show (#[.int .i64 0, .int .i64 0, .int .i64 0, .int .i64 0, .int .i64 0, .int .i64 0, .int .i64 0, .int .i64 0, .int .i64 0, .int .i64 0, .int .i64 0, .int .i64 0, .int .i64 0, .int .i64 0, .int .i64 0, .int .i64 0, .int .i64 0, .int .i64 0, .slice none 0 0, .int .i64 0, .int .i64 0, .int .i64 0, .int .i64 0, .int .i64 0, .int .i64 0, .int .i64 0, .int .i64 0, .int .i64 0, .slice none 0 0, .int .i64 0, .int .i64 0, .int .i64 0, .int .i64 0, .int .i64 0, .int .i64 0, .int .i64 0, .slice none 0 0, .int .i64 0, .bool false, .int .i64 0, .int .i64 0, .int .i64 0, .slice none 0 0, .slice none 0 0, .int .i64 0, .slice none 0 0, .slice none 0 0] : Array Value).size = oa.size by rw [HOA.out]; rfl)
  have H1 := Lib.hid (show oa.all (·.oneCell') = true by rw [HOA.out]; simp [Value.oneCell'])
  go_upto_region 4 with (refine wpList_store_blk rfl 57 (.tmp 7) (.tmp 38) rfl X1.heap.size oa rfl rfl 57 #[.int .i64 0, .int .i64 0, .int .i64 0, .int .i64 0, .int .i64 0, .int .i64 0, .int .i64 0, .int .i64 0, .int .i64 0, .int .i64 0, .int .i64 0, .int .i64 0, .int .i64 0, .int .i64 0, .int .i64 0, .int .i64 0, .int .i64 0, .int .i64 0, .slice none 0 0, .int .i64 0, .int .i64 0, .int .i64 0, .int .i64 0, .int .i64 0, .int .i64 0, .int .i64 0, .int .i64 0, .int .i64 0, .slice none 0 0, .int .i64 0, .int .i64 0, .int .i64 0, .int .i64 0, .int .i64 0, .int .i64 0, .int .i64 0, .slice none 0 0, .int .i64 0, .bool false, .int .i64 0, .int .i64 0, .int .i64 0, .slice none 0 0, .slice none 0 0, .int .i64 0, .slice none 0 0, .slice none 0 0] HZ.out HI.out HSZ.out H1.out ?_; intro X2 hB2 hg2; have HO2 := Lib.hid hB2; have HE2 := Lib.hid ((ext_alloc HE1.out (.cells #[.int .i64 0, .int .i64 0, .int .i64 0, .int .i64 0, .int .i64 0, .int .i64 0, .int .i64 0, .int .i64 0, .int .i64 0, .int .i64 0, .int .i64 0, .int .i64 0, .int .i64 0, .int .i64 0, .int .i64 0, .int .i64 0, .int .i64 0, .int .i64 0, .slice none 0 0, .int .i64 0, .int .i64 0, .int .i64 0, .int .i64 0, .int .i64 0, .int .i64 0, .int .i64 0, .int .i64 0, .int .i64 0, .slice none 0 0, .int .i64 0, .int .i64 0, .int .i64 0, .int .i64 0, .int .i64 0, .int .i64 0, .int .i64 0, .slice none 0 0, .int .i64 0, .bool false, .int .i64 0, .int .i64 0, .int .i64 0, .slice none 0 0, .slice none 0 0, .int .i64 0, .slice none 0 0, .slice none 0 0] 57)).grown hg2 (ext_alloc HE1.out (.cells #[.int .i64 0, .int .i64 0, .int .i64 0, .int .i64 0, .int .i64 0, .int .i64 0, .int .i64 0, .int .i64 0, .int .i64 0, .int .i64 0, .int .i64 0, .int .i64 0, .int .i64 0, .int .i64 0, .int .i64 0, .int .i64 0, .int .i64 0, .int .i64 0, .slice none 0 0, .int .i64 0, .int .i64 0, .int .i64 0, .int .i64 0, .int .i64 0, .int .i64 0, .int .i64 0, .int .i64 0, .int .i64 0, .slice none 0 0, .int .i64 0, .int .i64 0, .int .i64 0, .int .i64 0, .int .i64 0, .int .i64 0, .int .i64 0, .slice none 0 0, .int .i64 0, .bool false, .int .i64 0, .int .i64 0, .int .i64 0, .slice none 0 0, .slice none 0 0, .int .i64 0, .slice none 0 0, .slice none 0 0] 57)).size (fun k e => by injection e with e; have := HE1.out.size; omega)); clear hB2 hg2)
  clear a0 a1 a2 bd1 bd2 HZ HI HSZ H1
  have HN := Lib.hid (show X0.heap.size ≤ X1.heap.size from HE1.out.size)
  have a4 := ((HB.out.ext HE2.out).cell 4).trans (show _ = some (.int .i64 ep) by rw [HVA.out]; rfl)
  have a6 := ((HB.out.ext HE2.out).cell 6).trans (show _ = some (.int .i64 0) by rw [HVA.out]; rfl)
  go_quiet (first | (go_at_call 46; with_reducible refine Calls.quiet_of_same (K4.out _)) | (go_at_call 46; with_reducible refine Calls.quiet_of_same (K6.out _)))
  clear a4 a6
  obtain ⟨X3, hX3⟩ : ∃ X3, X3 = X2.drewN nq := ⟨_, rfl⟩
  rw [← hX3]
  have HE3 := Lib.hid (show Below X0.heap.size X0 X3 by rw [hX3]; exact ext_drewN HE2.out _)
  have HO3 := Lib.hid (show Blk X3 X1.heap.size 57 oa by rw [hX3]; exact HO2.out.ext (ext_drewN (ext_refl _) _))
  clear hX3
  go_upto_region 5 with (fail)
  have a3 := ((HB.out.ext HE3.out).cell 3).trans (show _ = some (.int .i64 0) by rw [HVA.out]; rfl)
  have a7 := ((HB.out.ext HE3.out).cell 7).trans (show _ = some (.int .i64 0) by rw [HVA.out]; rfl)
  go_quiet (first | (go_at_call 46; with_reducible refine Calls.quiet_of_same (K3.out _)) | (go_at_call 46; with_reducible refine Calls.quiet_of_same (K7.out _)))
  clear a3 a7
  obtain ⟨X4, hX4⟩ : ∃ X4, X4 = X3.drewN nq := ⟨_, rfl⟩
  rw [← hX4]
  have HE4 := Lib.hid (show Below X0.heap.size X0 X4 by rw [hX4]; exact ext_drewN HE3.out _)
  have HO4 := Lib.hid (show Blk X4 X1.heap.size 57 oa by rw [hX4]; exact HO3.out.ext (ext_drewN (ext_refl _) _))
  clear hX4
  have a5 := ((HB.out.ext HE4.out).cell 5).trans (show _ = some (.int .i64 0) by rw [HVA.out]; rfl)
  have a0 := ((HB.out.ext HE4.out).cell 0).trans (show _ = some (.int .i64 9) by rw [HVA.out]; rfl)
  have a4 := ((HB.out.ext HE4.out).cell 4).trans (show _ = some (.int .i64 ep) by rw [HVA.out]; rfl)
  have g4 := HO4.out.frozen 4
  have c4 := (HO4.out.cell 4).trans (show _ = some (.int .i64 0) by rw [HOA.out]; rfl)
  go_upto_region 46 with (go_at_call 46; with_reducible refine (K5.out _).mono ?_; rintro e w' ⟨rfl, hw5⟩; subst w')
  clear a5 a0 a4 c4 g4
  obtain ⟨Y, hY⟩ : ∃ Y, Y = X4.setCell ⟨X1.heap.size, 4, none⟩ (.int .i64 ep) := ⟨_, rfl⟩
  rw [← hY]
  have HEY := Lib.hid (show Below w.heap.size w Y by rw [hY]; exact ext_set (ext_call HE.out HE4.out) (Nat.le_trans HE.out.size HN.out) _)
  have l1 := ld_blk (P := Tryz.prog) (show Blk Y w.heap.size 57 va by rw [hY]; exact (HB.out.ext HE4.out).far (by have := HB.out.lt; have := HN.out; simp; omega) _) (show Array.extract va 0 47 = va by rw [HVA.out]; kernel_rfl) Tryz.underlying57 rfl (by rw [HVA.out]; kernel_rfl)
  have l2 := ld_blk (P := Tryz.prog) (show Blk Y X1.heap.size 57 va by rw [hY]; have h9 := HO4.out.set_ 4 (.int .i64 ep); rwa [show oa.setIfInBounds 4 (.int .i64 ep) = va by rw [HOA.out, HVA.out]; kernel_rfl] at h9) (show Array.extract va 0 47 = va by rw [HVA.out]; kernel_rfl) Tryz.underlying57 rfl (by rw [HVA.out]; kernel_rfl)
  clear hY
  obtain ⟨l1, e1⟩ := l1
  obtain ⟨l2, e2⟩ := l2
  have HS := Lib.hid (show ∀ W, Calls Tryz.prog 51 #[.agg va, .agg va] W fun e w' => e = .returned (.bool true) ∧ Below W.heap.size W w' by rw [HVA.out]; exact msgSame (9) (n) (100) (0) (ep) (0) (0) (0) (0) (0) (0) (0) (0) (0) (0) (0) (0))
  go_wp2_with (go_at_call 51; with_reducible refine (HS.out _).mono ?_; rintro e W9 ⟨rfl, hb9⟩; have HE9 := Lib.hid (ext_call HEY.out hb9); clear hb9)
  go_ret
  exact ⟨rfl, HE9.out⟩

end Go.Proofs.YtbgfmbmcabekeaaGreatDoor

/-
  package origin: answers, want, Receive of a message that wants a ring.
-/
namespace Go.Proofs.YtbgfmbmcabekeaaGreatDoor
open Go.RowKit Go.Shelf

set_option maxRecDepth 100000 in
set_option maxHeartbeats 1000000 in
theorem answers_any (w : World) : Calls Tryz.prog 52 #[] w fun e w' => ∃ g, e = .returned (.map (some g)) ∧ w.heap.size ≤ g ∧ MapI w' g [(3, .func (.func 91) #[] #[]), (7, .func (.func 92) #[] #[]), (9, .func (.func 93) #[] #[])] ∧ Below w.heap.size w w' := by
  have hmm := @run_makeMap Tryz.prog
  obtain ⟨o1, u1, m1⟩ := update_I (P := Tryz.prog) (w := w.alloc (.map #[] 0)) Tryz.underlying119 Tryz.underlying3 (MapI.new w) 3 (.func (.func 91) #[] #[])
  obtain ⟨o2, u2, m2⟩ := update_I (P := Tryz.prog) (w := (w.alloc (.map #[] 0)).putObj w.heap.size o1) Tryz.underlying119 Tryz.underlying3 m1 7 (.func (.func 92) #[] #[])
  obtain ⟨o3, u3, m3⟩ := update_I (P := Tryz.prog) (w := ((w.alloc (.map #[] 0)).putObj w.heap.size o1).putObj w.heap.size o2) Tryz.underlying119 Tryz.underlying3 m2 9 (.func (.func 93) #[] #[])
  have HM := Lib.hid m3
  clear m1 m2 m3
  go_enter Tryz.func52, Tryz.ntmps52
  go_wp2
  go_ret
  exact ⟨_, rfl, Nat.le_refl _, HM.out, ext_put (ext_put (ext_put (ext_new _ _) (Nat.le_refl _) _) (Nat.le_refl _) _) (Nat.le_refl _) _⟩

set_option maxRecDepth 100000 in
set_option maxHeartbeats 1000000 in
theorem srvRing (gs gl gst gn gp np cp nm cm no co : Nat) (lag ep sent : Int) (Am Ao : Option Addr) (ns os : List Nat) (w : World) (hs : SrvAt w gs gl gst gn gp np cp lag ep sent Am nm cm Ao no co) (hm : MemsAt w (.slice Am nm cm) ns) (hn : NodesOK ns) (ho : NumsAt w (.slice Ao no co) os) (hl : os.length = 64) :
    Calls Tryz.prog 28 #[.pointer (some ⟨gs, 0, none⟩)] w fun e w' => ∃ A n c B m d, e = .returned (.agg #[.int .i64 ep, .slice A n c, .slice B m d]) ∧ MemsAt w' (.slice A n c) ns ∧ NumsAt w' (.slice B m d) os ∧ Below w.heap.size w w' := by
  have h4 : w.cell? ⟨gs, 4, none⟩ = some (.int .i64 ep) := Blk.cell hs 4
  have h5 : w.cell? ⟨gs, 5, none⟩ = some (.slice Am nm cm) := Blk.cell hs 5
  have h6 : w.cell? ⟨gs, 6, none⟩ = some (.slice Ao no co) := Blk.cell hs 6
  have sl := Blk.lt hs
  have HO := Lib.hid (fun (W : World) (k : Below w.heap.size w W) => ownRing_any ns os ep _ _ W (hm.ext k) hn (ho.ext k) hl)
  have hl4 : 4 ≤ os.length := by omega
  clear hs hm hn ho hl
  go_enter Tryz.func28, Tryz.ntmps28
  go_wp2_with fail
  refine (HO.out _ (ext_new w _)).mono ?_
  rintro e W1 ⟨A1, n1, k1, A2, n2, k2, rfl, hm1, hn1, hb1⟩
  have hr := (Blk.new w 30 #[.int .i64 0, .slice none 0 0, .slice none 0 0]).ext hb1
  have hk : Ext2 w.heap.size w.heap.size W1 (((W1.setCell ⟨w.heap.size, 0, none⟩ (.int .i64 ep)).setCell ⟨w.heap.size, 1, none⟩ (.slice A1 n1 k1)).setCell ⟨w.heap.size, 2, none⟩ (.slice A2 n2 k2)) := (((Ext2.refl _ _ W1).setA 0 _).setA 1 _).setA 2 _
  have HM := Lib.hid (hm1.ext2 hk hr)
  have HN := Lib.hid (hn1.ext2 hl4 hk hr)
  have HE := Lib.hid (Ext2.below (ext_call (ext_new w _) hb1) (Nat.le_refl _) (Nat.le_refl _) hk)
  have HB := Lib.hid (((hr.set_ 0 (.int .i64 ep)).set_ 1 (.slice A1 n1 k1)).set_ 2 (.slice A2 n2 k2))
  obtain ⟨x0, x1, x2⟩ := bcells3 hr
  have g0 := hr.frozen 0
  have g1 := hr.frozen 1
  have g2 := hr.frozen 2
  clear hm1 hn1 hb1 hr hk
  go_wp2
  obtain ⟨y0, y1, y2⟩ := bcells3 (show Blk _ w.heap.size 30 #[.int .i64 ep, .slice A1 n1 k1, .slice A2 n2 k2] from HB.out)
  exact bodyPost_ret (v := .agg #[.int .i64 ep, .slice A1 n1 k1, .slice A2 n2 k2]) (by simp [results, Tryz.results28, go_sem, y0, y1, y2]) rfl ⟨_, _, _, _, _, _, rfl, HM.out, HN.out, HE.out⟩

set_option maxRecDepth 100000 in
set_option maxHeartbeats 2000000 in
theorem wantNo (n ep : Int) (gs : Nat) (er : Int) (w : World) (h4 : w.cell? ⟨gs, 4, none⟩ = some (.int .i64 er)) (hle : er ≤ ep) :
    Calls Tryz.prog 93 #[.pointer (some ⟨gs, 0, none⟩), .agg #[.int .i64 9, .int .i64 n, .int .i64 100, .int .i64 0, .int .i64 ep, .int .i64 0, .int .i64 0, .int .i64 0, .int .i64 0, .int .i64 0, .int .i64 0, .int .i64 0, .int .i64 0, .int .i64 0, .int .i64 0, .int .i64 0, .int .i64 0, .int .i64 0, .slice none 0 0, .int .i64 0, .int .i64 0, .int .i64 0, .int .i64 0, .int .i64 0, .int .i64 0, .int .i64 0, .int .i64 0, .int .i64 0, .slice none 0 0, .int .i64 0, .int .i64 0, .int .i64 0, .int .i64 0, .int .i64 0, .int .i64 0, .int .i64 0, .slice none 0 0, .int .i64 0, .bool false, .int .i64 0, .int .i64 0, .int .i64 0, .slice none 0 0, .slice none 0 0, .int .i64 0, .slice none 0 0, .slice none 0 0]] w fun e w' => e = .returned (.slice none 0 0) ∧ Below w.heap.size w w' := by
  obtain ⟨va, hva⟩ : ∃ va : Array Value, va = #[.int .i64 9, .int .i64 n, .int .i64 100, .int .i64 0, .int .i64 ep, .int .i64 0, .int .i64 0, .int .i64 0, .int .i64 0, .int .i64 0, .int .i64 0, .int .i64 0, .int .i64 0, .int .i64 0, .int .i64 0, .int .i64 0, .int .i64 0, .int .i64 0, .slice none 0 0, .int .i64 0, .int .i64 0, .int .i64 0, .int .i64 0, .int .i64 0, .int .i64 0, .int .i64 0, .int .i64 0, .int .i64 0, .slice none 0 0, .int .i64 0, .int .i64 0, .int .i64 0, .int .i64 0, .int .i64 0, .int .i64 0, .int .i64 0, .slice none 0 0, .int .i64 0, .bool false, .int .i64 0, .int .i64 0, .int .i64 0, .slice none 0 0, .slice none 0 0, .int .i64 0, .slice none 0 0, .slice none 0 0] := ⟨_, rfl⟩
  obtain ⟨X, hX⟩ : ∃ X, X = w.alloc (.cells va 57) := ⟨_, rfl⟩
  have HX := Lib.hid hX
  have HE := Lib.hid (show Below w.heap.size w X by rw [hX]; exact ext_new _ _)
  have HB := Lib.hid (show Blk X w.heap.size 57 va by rw [hX]; exact Blk.new _ _ _)
  have HVA := Lib.hid hva
  have s4 := cell_ext h4 HE.out
  rw [← hva]
  clear hX hva h4
  have a4 := (HB.out.cell 4).trans (show _ = some (.int .i64 ep) by rw [HVA.out]; rfl)
  go_enter Tryz.func93, Tryz.ntmps93
  go_upto_region 1 with (fail)
  rw [← HX.out]
  go_quiet (fail)
  go_wp2
  go_ret
  exact ⟨rfl, ext_drewN HE.out _⟩

set_option maxRecDepth 100000 in
set_option maxHeartbeats 2000000 in
theorem wantYes (n ep : Int) (gs gl gst gn gp np cp nm cm no co : Nat) (lag er sent : Int) (Am Ao : Option Addr) (ns os : List Nat) (w : World) (hs : SrvAt w gs gl gst gn gp np cp lag er sent Am nm cm Ao no co) (hm : MemsAt w (.slice Am nm cm) ns) (hn : NodesOK ns) (ho : NumsAt w (.slice Ao no co) os) (hl : os.length = 64) (hle : ¬ er ≤ ep) :
    Calls Tryz.prog 93 #[.pointer (some ⟨gs, 0, none⟩), .agg #[.int .i64 9, .int .i64 n, .int .i64 100, .int .i64 0, .int .i64 ep, .int .i64 0, .int .i64 0, .int .i64 0, .int .i64 0, .int .i64 0, .int .i64 0, .int .i64 0, .int .i64 0, .int .i64 0, .int .i64 0, .int .i64 0, .int .i64 0, .int .i64 0, .slice none 0 0, .int .i64 0, .int .i64 0, .int .i64 0, .int .i64 0, .int .i64 0, .int .i64 0, .int .i64 0, .int .i64 0, .int .i64 0, .slice none 0 0, .int .i64 0, .int .i64 0, .int .i64 0, .int .i64 0, .int .i64 0, .int .i64 0, .int .i64 0, .slice none 0 0, .int .i64 0, .bool false, .int .i64 0, .int .i64 0, .int .i64 0, .slice none 0 0, .slice none 0 0, .int .i64 0, .slice none 0 0, .slice none 0 0]] w fun e w' => ∃ g A1 n1 k1 A2 n2 k2, e = .returned (.slice (some ⟨g, 0, none⟩) 1 1) ∧ Blk w' g 57 #[.int .i64 10, .int .i64 100, .int .i64 n, .int .i64 0, .int .i64 0, .int .i64 0, .int .i64 0, .int .i64 0, .int .i64 0, .int .i64 0, .int .i64 0, .int .i64 0, .int .i64 0, .int .i64 0, .int .i64 0, .int .i64 0, .int .i64 0, .int .i64 0, .slice none 0 0, .int .i64 0, .int .i64 0, .int .i64 0, .int .i64 0, .int .i64 0, .int .i64 0, .int .i64 0, .int .i64 0, .int .i64 0, .slice none 0 0, .int .i64 0, .int .i64 0, .int .i64 0, .int .i64 0, .int .i64 0, .int .i64 0, .int .i64 0, .slice none 0 0, .int .i64 0, .bool false, .int .i64 0, .int .i64 0, .int .i64 0, .slice none 0 0, .slice none 0 0, .int .i64 er, .slice A1 n1 k1, .slice A2 n2 k2] ∧ MemsAt w' (.slice A1 n1 k1) ns ∧ NumsAt w' (.slice A2 n2 k2) os ∧ Below w.heap.size w w' := by
  obtain ⟨va, hva⟩ : ∃ va : Array Value, va = #[.int .i64 9, .int .i64 n, .int .i64 100, .int .i64 0, .int .i64 ep, .int .i64 0, .int .i64 0, .int .i64 0, .int .i64 0, .int .i64 0, .int .i64 0, .int .i64 0, .int .i64 0, .int .i64 0, .int .i64 0, .int .i64 0, .int .i64 0, .int .i64 0, .slice none 0 0, .int .i64 0, .int .i64 0, .int .i64 0, .int .i64 0, .int .i64 0, .int .i64 0, .int .i64 0, .int .i64 0, .int .i64 0, .slice none 0 0, .int .i64 0, .int .i64 0, .int .i64 0, .int .i64 0, .int .i64 0, .int .i64 0, .int .i64 0, .slice none 0 0, .int .i64 0, .bool false, .int .i64 0, .int .i64 0, .int .i64 0, .slice none 0 0, .slice none 0 0, .int .i64 0, .slice none 0 0, .slice none 0 0] := ⟨_, rfl⟩
  obtain ⟨X, hX⟩ : ∃ X, X = w.alloc (.cells va 57) := ⟨_, rfl⟩
  have HX := Lib.hid hX
  have HE := Lib.hid (show Below w.heap.size w X by rw [hX]; exact ext_new _ _)
  have HB := Lib.hid (show Blk X w.heap.size 57 va by rw [hX]; exact Blk.new _ _ _)
  have HVA := Lib.hid hva
  have HRg := Lib.hid (fun (W : World) (k : Below X.heap.size X W) => srvRing gs gl gst gn gp np cp nm cm no co lag er sent Am Ao ns os W ((hs.ext HE.out).ext k) ((hm.ext HE.out).ext k) hn ((ho.ext HE.out).ext k) hl)
  have s4 : X.cell? ⟨gs, 4, none⟩ = some (.int .i64 er) := Blk.cell (hs.ext HE.out) 4
  rw [← hva]
  clear hX hva hs hm ho hl
  have a4 := (HB.out.cell 4).trans (show _ = some (.int .i64 ep) by rw [HVA.out]; rfl)
  go_enter Tryz.func93, Tryz.ntmps93
  go_upto_region 1 with (fail)
  rw [← HX.out]
  go_quiet (fail)
  clear a4 s4
  obtain ⟨Y, hY⟩ : ∃ Y, Y = X.drewN nq := ⟨_, rfl⟩
  rw [← hY]
  have HEY := Lib.hid (show Below X.heap.size X Y by rw [hY]; exact ext_drewN (ext_refl _) _)
  have a1 := ((HB.out.ext HEY.out).cell 1).trans (show _ = some (.int .i64 n) by rw [HVA.out]; rfl)
  clear hY
  go_upto_region 3 with (fail)
  go_region_with (go_at_call 28; refine (HRg.out _ (by first | exact HEY.out.drew | exact HEY.out)).mono ?_; rintro e W1 ⟨A1, n1, k1, A2, n2, k2, rfl, hm1, hn1, hb1⟩; have a1 := cell_ext a1 (undrew hb1))
  all_goals
    have HEW := Lib.hid (ext_call HE.out (ext_call HEY.out (undrew hb1)))
    have HM := Lib.hid hm1
    have HN := Lib.hid hn1
    clear hm1 hn1 hb1 a1
    go_wp2
    go_ret
    exact ⟨W1.heap.size, A1, n1, k1, A2, n2, k2, rfl, Blk.new _ _ _, HM.out.ext (ext_new _ _), HN.out.ext (ext_new _ _), ext_alloc HEW.out _⟩

/-- what the handlers are -/
def handI : List (Int × Value) := [(3, .func (.func 91) #[] #[]), (7, .func (.func 92) #[] #[]), (9, .func (.func 93) #[] #[])]


end Go.Proofs.YtbgfmbmcabekeaaGreatDoor
