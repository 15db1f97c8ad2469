/-
  the plain law of OriginCommits: what a state has behind a transaction; a second time it changes nothing.
-/
import Derived.Test.YtbgfmbmcabekeaaGreatDoorJ33
set_option linter.unusedSimpArgs false
set_option linter.unusedVariables false

namespace Go.Proofs.YtbgfmbmcabekeaaGreatDoor
open Go.RowKit

theorem getR_cons (a : RowT) (rs : List RowT) (t k : Int) : getR (a :: rs) t k = if RowT.is t k a then some a else getR rs t k := by
  unfold getR
  rw [List.find?_cons]
  cases RowT.is t k a <;> rfl
theorem putR_cons (a r : RowT) (rs : List RowT) : putR (a :: rs) r = if RowT.is r.t r.k a then r :: rs else a :: putR rs r := by
  unfold putR
  rw [List.findIdx?_cons]
  cases RowT.is r.t r.k a with
  | true => rfl
  | false =>
    cases hf : rs.findIdx? (RowT.is r.t r.k) with
    | none => simp
    | some i => simp
theorem delR_cons (a : RowT) (rs : List RowT) (t k : Int) : delR (a :: rs) t k = if RowT.is t k a then rs else a :: delR rs t k := by
  unfold delR
  rw [List.findIdx?_cons]
  cases RowT.is t k a with
  | true => rfl
  | false =>
    cases hf : rs.findIdx? (RowT.is t k) with
    | none => simp
    | some i => simp
theorem getR_put (r : RowT) (t k : Int) : ∀ rs : List RowT, getR (putR rs r) t k = if t = r.t ∧ k = r.k then some r else getR rs t k
  | [] => by
    rw [show putR [] r = [r] from rfl, getR_cons]
    by_cases h : t = r.t ∧ k = r.k
    · rw [if_pos h, if_pos ((is_iff t k r).2 h)]
    · rw [if_neg h, if_neg (fun e => h ((is_iff t k r).1 e))]
  | a :: rs => by
    rw [putR_cons, getR_cons a rs]
    by_cases ha : RowT.is r.t r.k a = true
    · rw [if_pos ha, getR_cons]
      have ha2 := (is_iff _ _ _).1 ha
      by_cases h : t = r.t ∧ k = r.k
      · rw [if_pos h, if_pos ((is_iff t k r).2 h)]
      · rw [if_neg h, if_neg (fun e => h ((is_iff t k r).1 e)), if_neg (fun e => h (by
          have e2 := (is_iff t k a).1 e
          exact ⟨e2.1.trans ha2.1.symm, e2.2.trans ha2.2.symm⟩))]
    · rw [if_neg ha, getR_cons, getR_put r t k rs]
      by_cases h : t = r.t ∧ k = r.k
      · rw [if_pos h, if_neg (fun e => ha (by
          have e2 := (is_iff t k a).1 e
          exact (is_iff _ _ _).2 ⟨h.1.symm.trans e2.1, h.2.symm.trans e2.2⟩)), if_pos h]
      · rw [if_neg h, if_neg h]
theorem getR_none {rs : List RowT} {t k : Int} (h : ∀ b ∈ rs, ¬ (t = b.t ∧ k = b.k)) : getR rs t k = none := by
  unfold getR
  rw [List.find?_eq_none]
  exact fun b hb e => h b hb ((is_iff t k b).1 e)
theorem getR_del (t' k' t k : Int) : ∀ rs : List RowT, Apart rs → getR (delR rs t' k') t k = if t = t' ∧ k = k' then none else getR rs t k
  | [], _ => by
    rw [show delR [] t' k' = [] from rfl]
    show none = _
    split <;> rfl
  | a :: rs, hap => by
    unfold Apart at hap
    rw [List.pairwise_cons] at hap
    rw [delR_cons, getR_cons a rs]
    by_cases ha : RowT.is t' k' a = true
    · rw [if_pos ha]
      have ha2 := (is_iff _ _ _).1 ha
      by_cases h : t = t' ∧ k = k'
      · rw [if_pos h]
        exact getR_none fun b hb e => hap.1 b hb ⟨ha2.1.symm.trans (h.1.symm.trans e.1), ha2.2.symm.trans (h.2.symm.trans e.2)⟩
      · rw [if_neg h, if_neg (fun e => h (by
          have e2 := (is_iff t k a).1 e
          exact ⟨e2.1.trans ha2.1.symm, e2.2.trans ha2.2.symm⟩))]
    · rw [if_neg ha, getR_cons, getR_del t' k' t k rs hap.2]
      by_cases h : t = t' ∧ k = k'
      · rw [if_pos h, if_neg (fun e => ha (by
          have e2 := (is_iff t k a).1 e
          exact (is_iff _ _ _).2 ⟨h.1.symm.trans e2.1, h.2.symm.trans e2.2⟩)), if_pos h]
      · rw [if_neg h, if_neg h]
/-- the row that a change leaves -/
def aftC (c : ChgT) : Option RowT := if c.has then some ⟨c.t, c.k, c.n1, c.n2, c.n3⟩ else none
theorem getR_applyC {rs : List RowT} (hap : Apart rs) (c : ChgT) (t k : Int) : getR (applyC rs c) t k = if t = c.t ∧ k = c.k then aftC c else getR rs t k := by
  unfold applyC aftC
  cases c.has with
  | true =>
    simp only [if_true]
    rw [getR_put]
  | false =>
    simp only [Bool.false_eq_true, if_false]
    rw [getR_del c.t c.k t k rs hap]
theorem Apart.applyC {rs : List RowT} (h : Apart rs) (c : ChgT) : Apart (applyC rs c) := h.apply [c]
theorem getR_applyF_other (t k : Int) : ∀ (l : List ChgT) {rs : List RowT}, Apart rs → (∀ c ∈ l, ¬ (t = c.t ∧ k = c.k)) → getR (applyF rs l) t k = getR rs t k
  | [], _, _, _ => rfl
  | c :: l, rs, hap, h => by
    show getR (applyF (Proofs.YtbgfmbmcabekeaaGreatDoor.applyC rs c) l) t k = _
    rw [getR_applyF_other t k l (hap.applyC c) (fun x hx => h x (List.mem_cons_of_mem _ hx)), getR_applyC hap, if_neg (h c (List.mem_cons_self ..))]
theorem getR_applyF : ∀ (l : List ChgT) {rs : List RowT}, Apart rs → l.Pairwise (fun a b => ¬ (a.t = b.t ∧ a.k = b.k)) → ∀ c ∈ l, getR (applyF rs l) c.t c.k = aftC c
  | [], _, _, _, c, hc => by cases hc
  | d :: l, rs, hap, hp, c, hc => by
    rw [List.pairwise_cons] at hp
    show getR (applyF (Proofs.YtbgfmbmcabekeaaGreatDoor.applyC rs d) l) c.t c.k = _
    rcases List.mem_cons.1 hc with rfl | hc
    · rw [getR_applyF_other c.t c.k l (hap.applyC c) hp.1, getR_applyC hap, if_pos ⟨rfl, rfl⟩]
    · exact getR_applyF l (hap.applyC d) hp.2 c hc
def ltC (a b : ChgT) : Prop := a.t < b.t ∨ (a.t = b.t ∧ a.k < b.k)
theorem asc_pairwise : ∀ (l : List ChgT), (∀ (j : Nat) (a b : ChgT), l[j]? = some a → l[j + 1]? = some b → ltC a b) → l.Pairwise ltC
  | [], _ => List.Pairwise.nil
  | [a], _ => by simp
  | a :: b :: l, h => by
    have h1 := asc_pairwise (b :: l) (fun j x y hx hy => h (j + 1) x y (by simpa using hx) (by simpa using hy))
    have h2 := h 0 a b (by simp) (by simp)
    rw [List.pairwise_cons]
    refine ⟨fun x hx => ?_, h1⟩
    rcases List.mem_cons.1 hx with rfl | hx
    · exact h2
    · rw [List.pairwise_cons] at h1
      have h3 := h1.1 x hx
      unfold ltC at *
      omega
theorem ChgsOK.pairwise {l : List ChgT} (h : ChgsOK l) : l.Pairwise (fun a b => ¬ (a.t = b.t ∧ a.k = b.k)) :=
  (asc_pairwise l h.asc).imp (fun {a b} h e => by unfold ltC at h; omega)
/-- what the state has behind a transaction that was committed -/
theorem after_commit {rs : List RowT} {l : List ChgT} (hap : Apart rs) (hv : vrecF (l.map (fillC rs)) = true) {x : ChgT} (hx : x ∈ l) :
    getR (applyF rs (l.map (fillC rs))) x.t x.k = aftC x := by
  have h1 := ((vrecF_iff _).1 hv).1.pairwise
  exact getR_applyF _ hap h1 (fillC rs x) (List.mem_map.2 ⟨x, hx, rfl⟩)
theorem commit_ok {rs : List RowT} {l : List ChgT} (hv : vrecF (l.map (fillC rs)) = true) {x : ChgT} (hx : x ∈ l) : (fillC rs x).ok :=
  ((vrecF_iff _).1 hv).1.ok _ (List.mem_map.2 ⟨x, hx, rfl⟩)
/-- the same transaction changes nothing the second time -/
theorem commit_twice {rs : List RowT} {l : List ChgT} (hap : Apart rs) (hv : vrecF (l.map (fillC rs)) = true) :
    vrecF (l.map (fillC (applyF rs (l.map (fillC rs))))) = false := by
  cases hvv : vrecF (l.map (fillC (applyF rs (l.map (fillC rs))))) with
  | false => rfl
  | true =>
    exfalso
    cases l with
    | nil => unfold vrecF at hv; simp at hv
    | cons x l =>
      have hx : x ∈ x :: l := List.mem_cons_self ..
      unfold vrecF at hvv
      rw [Bool.and_eq_true] at hvv
      have h1 := ((vAsc_iff _ _).1 hvv.2).1 _ (List.mem_map.2 ⟨x, hx, rfl⟩)
      have h2 := ((validC_iff _).1 h1).1
      have h3 := after_commit hap hv hx
      clear hv hvv h1
      generalize applyF rs ((x :: l).map (fillC rs)) = rs' at h2 h3
      unfold ChgT.turns fillC at h2
      rw [h3] at h2
      unfold aftC at h2
      cases hh : x.has with
      | true => rw [hh] at h2; simp at h2
      | false => rw [hh] at h2; simp at h2
theorem commit_length {rs : List RowT} (l : List ChgT) : (applyF rs (l.map (fillC rs))).length ≤ rs.length + l.length := by
  have := applyF_length (l.map (fillC rs)) rs
  rwa [List.length_map] at this

end Go.Proofs.YtbgfmbmcabekeaaGreatDoor
