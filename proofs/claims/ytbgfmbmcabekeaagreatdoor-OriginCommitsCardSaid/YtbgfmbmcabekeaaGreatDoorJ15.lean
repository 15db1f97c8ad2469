/-
  Part 15 of 17: the contracts that the proof of the last part uses; each stands under its own head.
-/
import Derived.Test.YtbgfmbmcabekeaaGreatDoorJ14
import Derived.Deep.RegionHeld3
set_option linter.unusedSimpArgs false
set_option linter.unusedVariables false

/-
  package logtree: Append at any log.
-/
namespace Go.Proofs.YtbgfmbmcabekeaaGreatDoor
open Go.RowKit
attribute [local go_sem ↓] Go.wp_at_zero Go.wp_at_succ

theorem recg_info : (Tryz.prog.info? 46).map (fun i => (i.zero, i.size, i.bytes)) = some (some (.agg #[.int .i64 0, .slice none 0 0]), 2, 32) := by kernel_rfl
theorem headg_info : (Tryz.prog.info? 86).map (fun i => (i.zero, i.size, i.bytes)) = some (some (.agg #[.int .i64 0, .string ⟨#[]⟩, .string ⟨#[]⟩]), 3, 40) := by kernel_rfl
theorem agKeep5 {W0 W W' : World} {gl gh rb n : Nat} {hv : Value} {c s : ByteArray} {p : Int} {v : Value} (h : W.cell? ⟨gl, 1, none⟩ = some hv ∧ W.cell? ⟨gh, n * 3, none⟩ = some (.int .i64 (n : Int)) ∧ W.cell? ⟨gh, n * 3 + 1, none⟩ = some (.string c) ∧ W.cell? ⟨gh, n * 3 + 2, none⟩ = some (.string s) ∧
    W.cell? ⟨rb, 0, none⟩ = some (.int .i64 p) ∧ W.cell? ⟨rb, 1, none⟩ = some v ∧ Below W0.heap.size W0 W) (hb : Below W.heap.size W W') : W'.cell? ⟨gl, 1, none⟩ = some hv ∧ W'.cell? ⟨gh, n * 3, none⟩ = some (.int .i64 (n : Int)) ∧ W'.cell? ⟨gh, n * 3 + 1, none⟩ = some (.string c) ∧ W'.cell? ⟨gh, n * 3 + 2, none⟩ = some (.string s) ∧
    W'.cell? ⟨rb, 0, none⟩ = some (.int .i64 p) ∧ W'.cell? ⟨rb, 1, none⟩ = some v ∧ Below W0.heap.size W0 W' :=
  ⟨cell_ext h.1 hb, cell_ext h.2.1 hb, cell_ext h.2.2.1 hb, cell_ext h.2.2.2.1 hb, cell_ext h.2.2.2.2.1 hb, cell_ext h.2.2.2.2.2.1 hb, ext_call h.2.2.2.2.2.2 hb⟩
theorem agB5 {W0 W : World} {gl gh rb n : Nat} {hv : Value} {c s : ByteArray} {p : Int} {v : Value} (h : W.cell? ⟨gl, 1, none⟩ = some hv ∧ W.cell? ⟨gh, n * 3, none⟩ = some (.int .i64 (n : Int)) ∧ W.cell? ⟨gh, n * 3 + 1, none⟩ = some (.string c) ∧ W.cell? ⟨gh, n * 3 + 2, none⟩ = some (.string s) ∧
    W.cell? ⟨rb, 0, none⟩ = some (.int .i64 p) ∧ W.cell? ⟨rb, 1, none⟩ = some v ∧ Below W0.heap.size W0 W) : Below W0.heap.size W0 W := h.2.2.2.2.2.2

theorem aqKeepG {X W : World} {rb hx : Nat} {S : Nat → Prop} {a b c d e : Value} (h : Blk X rb 46 #[a, b] ∧ Blk X hx 86 #[c, d, e] ∧ ¬ S rb ∧ ¬ S hx) (k : ExtS S X W) :
    W.cell? ⟨rb, 0, none⟩ = some a ∧ W.cell? ⟨rb, 1, none⟩ = some b ∧ W.cell? ⟨hx, 0, none⟩ = some c ∧ W.cell? ⟨hx, 1, none⟩ = some d ∧ W.cell? ⟨hx, 2, none⟩ = some e ∧ ExtS S X W :=
  ⟨(ExtS.blk h.1 k h.2.2.1).cell 0, (ExtS.blk h.1 k h.2.2.1).cell 1, (ExtS.blk h.2.1 k h.2.2.2).cell 0, (ExtS.blk h.2.1 k h.2.2.2).cell 1, (ExtS.blk h.2.1 k h.2.2.2).cell 2, k⟩
theorem news_blk {W : World} {g : Nat} {t : TypeId} {cs : Array Value} (h : Blk W g t cs) : ∀ j u, cs.toList[j]? = some u → W.cell? ((⟨g, 0, none⟩ : Addr).add j) = some u := fun j u hu => by
  rw [add_lit0, h.cell, ← hu]
  simp
theorem ExtS.setG {gl : Nat} {rv hv : Value} {X W : World} {i : Nat} {u : Value} (h : ExtS (ApX gl rv hv) X W) : ExtS (ApX gl rv hv) X (W.setCell ⟨gl, i, none⟩ u) :=
  h.trans ⟨rfl, rfl, rfl, by simp [World.setCell], fun k _ hn => Below.heap_setCell _ _ _ _ (fun e => hn (.inl e))⟩
theorem own_setT {W : World} {B g sz n : Nat} {t e : TypeId} {cs : Array Value} {v : Value} {xs : List Value} (h : W.ownsRow B e sz v n xs) (hb : Blk W g t cs) (ht : t ≠ e) (i : Nat) (u : Value) : (W.setCell ⟨g, i, none⟩ u).ownsRow B e sz v n xs := by
  refine h.kept (row := some g) ⟨rfl, rfl, rfl, by simp [World.setCell], fun k _ hk => Below.heap_setCell _ _ _ _ (fun e => hk (by rw [e]))⟩ ?_
  rcases h.2 with ⟨rfl, _⟩ | ⟨g', cap, cur, rfl, _, hb', _⟩
  · exact .inl rfl
  · refine .inr fun e2 => ?_
    have e3 : g' = g := Option.some.inj e2
    subst e3
    exact blkNe hb hb' ht rfl
theorem ChgB.setT {W : World} {g b : Nat} {t : TypeId} {cs : Array Value} {l : List ChgT} (h : ChgB W b l) (hb : Blk W g t cs) (ht : t ≠ 75) (i : Nat) (u : Value) : ChgB (W.setCell ⟨g, i, none⟩ u) b l := by
  refine h.far (p := ⟨g, i, none⟩) ?_ u
  obtain ⟨cur, hc, _⟩ := h
  intro e
  exact blkNe hb hc ht e.symm
theorem logG_app {X U : World} {B gl n go d : Nat} {rv hv rv2 hv2 : Value} {R : List (List ChgT × Nat × Nat)} {H : List (ByteArray × ByteArray)} {l : List ChgT} {cz t : ByteArray} (hn : n = R.length) (hH : H.length = n + 1) (hX : LogG B X gl rv hv R H) (hd : l.length ≤ d) (ht : t.size = 32) (hc : cz.size = 32)
    (h1 : Blk U gl 144 #[rv2, hv2]) (h2 : U.ownsRow B 46 2 rv2 (n + 1) (rcF 0 R ++ [.int .i64 ((n : Int) + 1), .slice (some ⟨go, 0, none⟩) l.length d])) (h3 : U.ownsRow B 86 3 hv2 (n + 1 + 1) (hcF 0 H ++ [.int .i64 ((n : Int) + 1), .string cz, .string t]))
    (h4 : ∀ x ∈ R, ChgB U x.2.1 x.1) (h5 : ChgB U go l) : LogG B U gl rv2 hv2 (R ++ [(l, go, d)]) (H ++ [(cz, t)]) := by
  refine ⟨h1, ?_, ?_, fun x hx => ?_, by simp [hX.len], fun h hh => ?_⟩
  · rw [rcF_append, List.length_append, ← hn, Nat.zero_add]; exact h2
  · rw [hcF_append, List.length_append, hH, Nat.zero_add]
    have e : (((n + 1 : Nat)) : Int) = (n : Int) + 1 := by omega
    rw [e]; exact h3
  · rcases List.mem_append.1 hx with h | h
    · exact ⟨h4 x h, (hX.chg x h).2⟩
    · simp at h; subst h; exact ⟨h5, hd⟩
  · rcases List.mem_append.1 hh with h6 | h6
    · exact hX.sizes h h6
    · simp at h6; subst h6; exact ⟨hc, ht⟩

end Go.Proofs.YtbgfmbmcabekeaaGreatDoor

/-
  The rows of a state stay few: their keys are apart, and small.
-/
namespace Go.Proofs.YtbgfmbmcabekeaaGreatDoor
open Go.RowKit

theorem nodup_lt : ∀ (n : Nat) (l : List Nat), l.Nodup → (∀ x ∈ l, x < n) → l.length ≤ n
  | 0, l, _, h => by
    cases l with
    | nil => simp
    | cons a r => exact absurd (h a (by simp)) (by omega)
  | n + 1, l, hn, h => by
    by_cases hm : n ∈ l
    · have h1 := nodup_lt n (l.erase n) (hn.erase n) (fun x hx => by
        have h2 := (hn.mem_erase_iff).1 hx
        have h3 := h x h2.2
        have h4 := h2.1
        omega)
      rw [List.length_erase_of_mem hm] at h1
      omega
    · have h1 := nodup_lt n l hn (fun x hx => by
        have h3 := h x hx
        have h4 : x ≠ n := fun e => hm (e ▸ hx)
        omega)
      omega

/-- a key of the generator's -/
def keyN (t k : Int) : Nat := (9 * t + (k - 1)).toNat
def tinyK (t k : Int) : Prop := (0 ≤ t ∧ t ≤ 2) ∧ (1 ≤ k ∧ k ≤ 9)
theorem keyN_lt {t k : Int} (h : tinyK t k) : keyN t k < 27 := by unfold keyN; obtain ⟨⟨h1, h2⟩, h3, h4⟩ := h; omega
theorem keyN_inj {t k t' k' : Int} (h : tinyK t k) (h' : tinyK t' k') (e : keyN t k = keyN t' k') : t = t' ∧ k = k' := by
  unfold keyN at e; obtain ⟨⟨h1, h2⟩, h3, h4⟩ := h; obtain ⟨⟨h5, h6⟩, h7, h8⟩ := h'; omega
/-- the rows of a state -/
structure StOK (rs : List RowT) : Prop where
  sm : ∀ r ∈ rs, r.sm
  tiny : ∀ r ∈ rs, tinyK r.t r.k
  apart : (rs.map fun r => keyN r.t r.k).Nodup
theorem StOK.nil : StOK [] := ⟨by simp, by simp, by simp⟩
theorem StOK.few {rs : List RowT} (h : StOK rs) : rs.length ≤ 27 := by
  have := nodup_lt 27 _ h.apart (fun x hx => by
    obtain ⟨r, hr, rfl⟩ := List.mem_map.1 hx
    exact keyN_lt (h.tiny r hr))
  simpa using this
theorem StOK.del {rs : List RowT} (h : StOK rs) (t k : Int) : StOK (delR rs t k) := by
  unfold delR
  split
  · rename_i i _
    have hs := List.eraseIdx_sublist rs i
    exact ⟨fun r hr => h.sm r (hs.subset hr), fun r hr => h.tiny r (hs.subset hr), h.apart.sublist (hs.map _)⟩
  · exact h
theorem StOK.put {rs : List RowT} (h : StOK rs) (r : RowT) (h1 : r.sm) (h2 : tinyK r.t r.k) : StOK (putR rs r) := by
  unfold putR
  split
  · rename_i i hi
    rw [List.findIdx?_eq_some_iff_getElem] at hi
    obtain ⟨hlt, his, _⟩ := hi
    simp only [RowT.is, Bool.and_eq_true, decide_eq_true_eq] at his
    refine ⟨fun x hx => ?_, fun x hx => ?_, ?_⟩
    · rcases List.mem_or_eq_of_mem_set hx with hx | rfl
      · exact h.sm x hx
      · exact h1
    · rcases List.mem_or_eq_of_mem_set hx with hx | rfl
      · exact h.tiny x hx
      · exact h2
    · rw [List.map_set]
      have e : (rs.map fun r => keyN r.t r.k).set i (keyN r.t r.k) = rs.map fun r => keyN r.t r.k := by
        apply List.ext_getElem?
        intro j
        rw [List.getElem?_set]
        by_cases hij : i = j
        · subst hij
          rw [if_pos rfl]
          simp [hlt, his.1, his.2]
        · rw [if_neg hij]
      rw [e]
      exact h.apart
  · rename_i hn
    rw [List.findIdx?_eq_none_iff] at hn
    refine ⟨fun x hx => ?_, fun x hx => ?_, ?_⟩
    · rcases List.mem_append.1 hx with hx | hx
      · exact h.sm x hx
      · simp at hx; rw [hx]; exact h1
    · rcases List.mem_append.1 hx with hx | hx
      · exact h.tiny x hx
      · simp at hx; rw [hx]; exact h2
    · rw [List.map_append, List.nodup_append]
      refine ⟨h.apart, by simp, fun a ha b hb => ?_⟩
      obtain ⟨x, hx, rfl⟩ := List.mem_map.1 ha
      simp only [List.map_cons, List.map_nil, List.mem_singleton] at hb
      subst hb
      intro e
      have h3 := keyN_inj (h.tiny x hx) h2 e
      have h4 := hn x hx
      simp [RowT.is, h3.1, h3.2] at h4
/-- a change of the generator's -/
structure ChgG (c : ChgT) : Prop where
  ok : c.ok
  small : c.small
  tiny : tinyK c.t c.k
theorem ChgG.row {c : ChgT} (h : ChgG c) : RowT.sm ⟨c.t, c.k, c.n1, c.n2, c.n3⟩ := by
  have h1 := h.ok
  have h2 := h.small
  have h3 := h.tiny
  unfold ChgT.small at h2
  simp only [List.mem_cons, List.not_mem_nil, or_false, forall_eq_or_imp, forall_eq] at h2
  refine ⟨⟨h1.1.1, h1.1.2, h1.2.2.2.2.1, h1.2.2.2.2.2.1, h1.2.2.2.2.2.2⟩, h2.1.2, h2.2.1.2, ?_⟩
  simp only [List.mem_cons, List.not_mem_nil, or_false, forall_eq_or_imp, forall_eq]
  exact ⟨h2.2.2.2.2.2.1, h2.2.2.2.2.2.2.1, h2.2.2.2.2.2.2.2⟩
theorem StOK.apply {l : List ChgT} : ∀ {rs : List RowT}, StOK rs → (∀ c ∈ l, ChgG c) → StOK (applyF rs l) := by
  induction l with
  | nil => intro rs h _; exact h
  | cons c l ih =>
    intro rs h hc
    have h1 : StOK (applyC rs c) := by
      have h2 := hc c (by simp)
      unfold applyC
      split
      · exact h.put _ h2.row h2.tiny
      · exact h.del _ _
    exact ih h1 (fun d hd => hc d (by simp [hd]))
theorem getR_mem {rs : List RowT} {t k : Int} {r : RowT} (h : getR rs t k = some r) : r ∈ rs := List.mem_of_find?_eq_some h
/-- what is filled in is small, too -/
theorem ChgG.fill {rs : List RowT} (h : StOK rs) {c : ChgT} (hc : ChgG c) : ChgG (fillC rs c) := by
  have h1 := hc.ok
  have h2 := hc.small
  unfold ChgT.small at h2
  simp only [List.mem_cons, List.not_mem_nil, or_false, forall_eq_or_imp, forall_eq] at h2
  cases hg : getR rs c.t c.k with
  | none =>
    refine ⟨?_, ?_, hc.tiny⟩
    · simp only [fillC, hg, ChgT.ok, Option.isSome_none, Option.getD_none, zeroR]
      exact ⟨h1.1, fun _ => ⟨trivial, trivial, trivial⟩, h1.2.2.1, by omega, h1.2.2.2.2⟩
    · simp only [fillC, hg, ChgT.small, Option.getD_none, zeroR, List.mem_cons, List.not_mem_nil, or_false, forall_eq_or_imp, forall_eq]
      exact ⟨h2.1, h2.2.1, by omega, by omega, by omega, h2.2.2.2.2.2⟩
  | some r =>
    have hr := h.sm r (getR_mem hg)
    obtain ⟨⟨_, _, q1, q2, q3⟩, _, _, q4⟩ := hr
    simp only [List.mem_cons, List.not_mem_nil, or_false, forall_eq_or_imp, forall_eq] at q4
    refine ⟨?_, ?_, hc.tiny⟩
    · simp only [fillC, hg, ChgT.ok, Option.isSome_some, Option.getD_some]
      exact ⟨h1.1, fun h => (by cases h), h1.2.2.1, ⟨q1, q2, q3⟩, h1.2.2.2.2⟩
    · simp only [fillC, hg, ChgT.small, Option.getD_some, List.mem_cons, List.not_mem_nil, or_false, forall_eq_or_imp, forall_eq]
      exact ⟨h2.1, h2.2.1, q4.1, q4.2.1, q4.2.2, h2.2.2.2.2.2⟩
theorem fill_fill (rs : List RowT) (c : ChgT) : fillC rs (fillC rs c) = fillC rs c := rfl

end Go.Proofs.YtbgfmbmcabekeaaGreatDoor

/-
  package origin: Commit at any server.
-/
namespace Go.Proofs.YtbgfmbmcabekeaaGreatDoor
open Go.RowKit Go.Shelf
attribute [local go_sem ↓] Go.wp_at_zero Go.wp_at_succ

/-- the changes of a record of the log -/
structure GoodL (l : List ChgT) : Prop where
  ok : ChgsOK l
  turns : validF l = true
/-- a server with these records and this state -/
structure ServG (B : Nat) (w : World) (gs gl gst gm : Nat) (cs : Array Value) (rv hv : Value) (R : List (List ChgT × Nat × Nat)) (H : List (ByteArray × ByteArray)) (rs : List RowT) : Prop where
  srv : Blk w gs 101 cs
  c0 : cs[0]? = some (.pointer (some ⟨gl, 0, none⟩))
  c1 : cs[1]? = some (.pointer (some ⟨gst, 0, none⟩))
  log : LogG B w gl rv hv R H
  st : StateR w gst gm (R.length : Int) rs
  ok : StOK rs
  good : ∀ x ∈ R, GoodL x.1
  base : B ≤ gl ∧ B ≤ gst ∧ B ≤ gm
theorem ServG.ext {B gs gl gst gm : Nat} {w W : World} {cs : Array Value} {rv hv : Value} {R : List (List ChgT × Nat × Nat)} {H : List (ByteArray × ByteArray)} {rs : List RowT} (h : ServG B w gs gl gst gm cs rv hv R H rs) (k : Below w.heap.size w W) : ServG B W gs gl gst gm cs rv hv R H rs :=
  ⟨h.srv.ext k, h.c0, h.c1, h.log.ext k, h.st.ext k, h.ok, h.good, h.base⟩
/-- the changes that the generator makes -/
structure GenL (l : List ChgT) : Prop where
  few : l.length ≤ 6
  gen : ∀ c ∈ l, ChgG c
  asc : ∀ (j : Nat) (a b : ChgT), l[j]? = some a → l[j + 1]? = some b → a.t < b.t ∨ (a.t = b.t ∧ a.k < b.k)
theorem GenL.fill {rs : List RowT} {l : List ChgT} (h : GenL l) (hs : StOK rs) : ChgsOK (l.map (fillC rs)) ∧ (∀ c ∈ l.map (fillC rs), ChgG c) ∧ (∀ c ∈ l.map (fillC rs), fillC rs c = c) := by
  have h1 : ∀ c ∈ l.map (fillC rs), ChgG c := fun c hc => by
    obtain ⟨d, hd, rfl⟩ := List.mem_map.1 hc
    exact (h.gen d hd).fill hs
  refine ⟨⟨by have := h.few; rw [List.length_map]; omega, fun c hc => (h1 c hc).ok, fun j a b ha hb => ?_⟩, h1, fun c hc => ?_⟩
  · rw [List.getElem?_map, Option.map_eq_some_iff] at ha hb
    obtain ⟨x, hx, rfl⟩ := ha
    obtain ⟨y, hy, rfl⟩ := hb
    exact h.asc j x y hx hy
  · obtain ⟨d, hd, rfl⟩ := List.mem_map.1 hc
    exact fill_fill rs d
/-- what Apply changes -/
def StS (gst gm : Nat) (k : Nat) : Prop := k = gst ∨ k = gm
theorem ChgsAt.extS {w W : World} {v : Value} {l : List ChgT} {gs gm : Nat} {pos : Int} {rs : List RowT} (h : ChgsAt w v l) (hS : StateR w gs gm pos rs) (k : ExtS (StS gs gm) w W) : ChgsAt W v l :=
  h.ext2 hS ⟨k.os, k.tape, k.output, k.size, fun j hj h1 h2 => k.block j hj (by rintro (h | h); exact h1 h; exact h2 h)⟩
theorem own_not {W : World} {B sz n g : Nat} {t e : TypeId} {v : Value} {xs : List Value} {cs : Array Value} (h : W.ownsRow B e sz v n xs) (hb : Blk W g t cs) (ht : t ≠ e) : v.ownBlock ≠ some g := by
  rcases h.2 with ⟨rfl, _⟩ | ⟨g', cap, cur, rfl, _, hb', _⟩
  · simp [Value.ownBlock]
  · intro e2
    have e3 : g' = g := Option.some.inj e2
    subst e3
    exact blkNe hb hb' ht rfl
theorem own_notMap {W : World} {B sz n g : Nat} {e : TypeId} {v : Value} {xs : List Value} {rs : List RowT} (h : W.ownsRow B e sz v n xs) (hm : MapR W g rs) : v.ownBlock ≠ some g := by
  obtain ⟨es, c, hm, _⟩ := hm
  rcases h.2 with ⟨rfl, _⟩ | ⟨g', cap, cur, rfl, _, hb', _⟩
  · simp [Value.ownBlock]
  · intro e2
    have e3 : g' = g := Option.some.inj e2
    subst e3
    unfold MapAt at hm
    rw [hm] at hb'
    cases hb'
theorem own_extS2 {W W' : World} {S : Nat → Prop} {base n sz : Nat} {e : TypeId} {v : Value} {xs : List Value} (h : W.ownsRow base e sz v n xs) (k : ExtS S W W') (hn : ∀ g, v.ownBlock = some g → ¬ S g) : W'.ownsRow base e sz v n xs := by
  refine ⟨h.1, ?_⟩
  rcases h.2 with hn' | ⟨g, cap, cur, h1, h2, h3, h4⟩
  · exact .inl hn'
  · exact .inr ⟨g, cap, cur, h1, h2, (k.block g (Array.getElem?_eq_some_iff.1 h3).1 (hn g (by rw [h1]; rfl))).trans h3, h4⟩
theorem ChgB.notS {W : World} {g b : Nat} {t : TypeId} {cs : Array Value} {l : List ChgT} (h : ChgB W b l) (hb : Blk W g t cs) (ht : t ≠ 75) : b ≠ g := by
  obtain ⟨cur, hc, _⟩ := h
  exact fun e => blkNe hb hc ht e.symm
theorem ChgB.notMap {W : World} {g b : Nat} {l : List ChgT} {rs : List RowT} (h : ChgB W b l) (hm : MapR W g rs) : b ≠ g := by
  obtain ⟨cur, hc, _⟩ := h
  obtain ⟨es, c, hm, _⟩ := hm
  rintro rfl
  unfold Blk at hc
  unfold MapAt at hm
  rw [hm] at hc
  cases hc
theorem ChgB.extS {W W' : World} {S : Nat → Prop} {b : Nat} {l : List ChgT} (h : ChgB W b l) (k : ExtS S W W') (hn : ¬ S b) : ChgB W' b l := by
  obtain ⟨cur, hc, h2⟩ := h
  exact ⟨cur, ExtS.blk hc k hn, h2⟩
theorem LogG.keepSt {B : Nat} {W W' : World} {gl gst gm : Nat} {pos : Int} {rv hv : Value} {R : List (List ChgT × Nat × Nat)} {H : List (ByteArray × ByteArray)} {rs : List RowT} (h : LogG B W gl rv hv R H) (hs : StateR W gst gm pos rs) (k : ExtS (StS gst gm) W W') : LogG B W' gl rv hv R H := by
  have hm : ∀ {g : Nat} {t : TypeId} {cs : Array Value}, Blk W g t cs → t ≠ 134 → ¬ StS gst gm g := fun hb ht => by
    rintro (e | e)
    · exact blkNe hb hs.1 ht e
    · subst e
      obtain ⟨es, c, hm, _⟩ := hs.2
      unfold Blk at hb
      unfold MapAt at hm
      rw [hm] at hb
      cases hb
  refine ⟨ExtS.blk h.log k (hm h.log (by decide)), own_extS2 h.recs k (fun g hg => ?_), own_extS2 h.heads k (fun g hg => ?_), fun x hx => ⟨?_, (h.chg x hx).2⟩, h.len, h.sizes⟩
  · rintro (e | e)
    · subst e; exact own_not h.recs hs.1 (by decide) hg
    · subst e; exact own_notMap h.recs hs.2 hg
  · rintro (e | e)
    · subst e; exact own_not h.heads hs.1 (by decide) hg
    · subst e; exact own_notMap h.heads hs.2 hg
  · refine (h.chg x hx).1.extS k ?_
    rintro (e | e)
    · exact (h.chg x hx).1.notS hs.1 (by decide) e
    · exact (h.chg x hx).1.notMap hs.2 e
theorem StateR.keepLog {B : Nat} {W W' : World} {gl gst gm : Nat} {pos : Int} {rv hv : Value} {R : List (List ChgT × Nat × Nat)} {H : List (ByteArray × ByteArray)} {rs : List RowT} (hs : StateR W gst gm pos rs) (h : LogG B W gl rv hv R H) (k : ExtS (ApX gl rv hv) W W') : StateR W' gst gm pos rs := by
  refine ⟨ExtS.blk hs.1 k ?_, ?_⟩
  · rintro (e | e | e)
    · exact blkNe hs.1 h.log (by decide) e
    · exact own_not h.recs hs.1 (by decide) e
    · exact own_not h.heads hs.1 (by decide) e
  · obtain ⟨es, c, hm, h2⟩ := hs.2
    refine ⟨es, c, (k.block gm hm.lt ?_).trans hm, h2⟩
    rintro (e | e | e)
    · subst e
      have hb := h.log
      unfold Blk at hb
      unfold MapAt at hm
      rw [hm] at hb
      cases hb
    · exact own_notMap h.recs hs.2 e
    · exact own_notMap h.heads hs.2 e

end Go.Proofs.YtbgfmbmcabekeaaGreatDoor

/-
  package origin: Commit at any server: refused, or one record more.
-/
namespace Go.Proofs.YtbgfmbmcabekeaaGreatDoor
open Go.RowKit Go.Shelf
attribute [local go_sem ↓] Go.wp_at_zero Go.wp_at_succ

end Go.Proofs.YtbgfmbmcabekeaaGreatDoor
