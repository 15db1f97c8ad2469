/-
  What the beats of the server look at: the server, its past, the nodes that it knows, the numbers of records that the nodes got.
-/
import Derived.Test.YtbgfmbmcabekeaaGreatDoorJ19
import Derived.Test.YtbgfmbmcabekeaaGreatDoorJ16
set_option linter.unusedSimpArgs false
set_option linter.unusedVariables false

namespace Go.Proofs.YtbgfmbmcabekeaaGreatDoor
open Go.RowKit Go.Shelf

/-- a row's block is not among some -/
theorem own_notS {W : World} {B sz n : Nat} {e : TypeId} {v : Value} {xs : List Value} {S : Nat → Prop} (h : W.ownsRow B e sz v n xs) (hb : ∀ (g : Nat) (cur : Array Value), Blk W g e cur → ¬ S g) : ∀ g, v.ownBlock = some g → ¬ S g := by
  intro g hg
  rcases h.2 with ⟨rfl, _⟩ | ⟨g', cap, cur, rfl, _, hb', _⟩
  · simp [Value.ownBlock] at hg
  · have e3 : g' = g := Option.some.inj hg
    subst e3
    exact hb _ _ hb'
theorem StateR.extS {S : Nat → Prop} {W W' : World} {gst gm : Nat} {pos : Int} {rs : List RowT} (h : StateR W gst gm pos rs) (k : ExtS S W W') (h1 : ¬ S gst) (h2 : ¬ S gm) : StateR W' gst gm pos rs := by
  obtain ⟨es, c, hm, h3⟩ := h.2
  exact ⟨ExtS.blk h.1 k h1, es, c, (k.block gm hm.lt h2).trans hm, h3⟩
theorem ServG.extS {S : Nat → Prop} {B gs gl gst gm : Nat} {W W' : World} {cs cs' : Array Value} {rv hv : Value} {R : List (List ChgT × Nat × Nat)} {H : List (ByteArray × ByteArray)} {rs : List RowT} (h : ServG B W gs gl gst gm cs rv hv R H rs) (k : ExtS S W W')
    (hb : ∀ (g : Nat) (t : TypeId) (cur : Array Value), Blk W g t cur → (t = 144 ∨ t = 75 ∨ t = 46 ∨ t = 86 ∨ t = 134) → ¬ S g) (hm : ¬ S gm) (hs : Blk W' gs 101 cs') (c0 : cs'[0]? = some (.pointer (some ⟨gl, 0, none⟩))) (c1 : cs'[1]? = some (.pointer (some ⟨gst, 0, none⟩))) :
    ServG B W' gs gl gst gm cs' rv hv R H rs :=
  ⟨hs, c0, c1, h.log.extS k (fun hb' ht => hb _ _ _ hb' (ht.elim .inl (fun e => .inr (.inl e)))) (own_notS h.log.recs fun g cur hb' => hb _ _ _ hb' (.inr (.inr (.inl rfl)))) (own_notS h.log.heads fun g cur hb' => hb _ _ _ hb' (.inr (.inr (.inr (.inl rfl))))),
    h.st.extS k (hb _ _ _ h.st.1 (.inr (.inr (.inr (.inr rfl))))) hm, h.ok, h.good, h.base⟩

/-- the cells of a server with a ring -/
def rCells (gl gst gp np cp : Nat) (ep : Int) (Am : Option Addr) (nm cm : Nat) (Ao : Option Addr) (no co gn : Nat) (sent : Int) : Array Value :=
  #[.pointer (some ⟨gl, 0, none⟩), .pointer (some ⟨gst, 0, none⟩), .slice (some ⟨gp, 0, none⟩) np cp, .int .i64 0, .int .i64 ep, .slice Am nm cm, .slice Ao no co, .map (some gn), .int .i64 sent]
/-- how many records each node got -/
def gotF (f : Nat → Nat) : Array Value := ((List.range 24).map fun i => Value.int .i64 (f i : Int)).toArray
theorem gotF_at (f : Nat → Nat) (i : Nat) (hi : i < 24) : (gotF f)[i]? = some (.int .i64 (f i : Int)) := by
  simp [gotF, List.getElem?_map, List.getElem?_range hi]
theorem gotF_set (f : Nat → Nat) (n v : Nat) : (gotF f).setIfInBounds n (.int .i64 (v : Int)) = gotF (fun i => if i = n then v else f i) := by
  apply Array.ext
  · simp [gotF]
  · intro i h1 h2
    have hi : i < 24 := by simpa [gotF] using h2
    rw [Array.getElem_setIfInBounds]
    · simp only [gotF, List.getElem_toArray, List.getElem_map, List.getElem_range]
      by_cases h : n = i
      · subst h; simp
      · have h9 : ¬ i = n := fun e => h e.symm
        simp [h, h9]
    · simpa [gotF] using hi

structure BeatS (w0 W : World) (gs gl gst gm gn gb gg : Nat) (ep : Int) (Am : Option Addr) (nm cm : Nat) (Ao : Option Addr) (no co : Nat) (vm vo : Value) (ns : List Nat) (gp np cp sent : Nat) (P : List Value) (rv hv : Value) (R : List (List ChgT × Nat × Nat)) (H : List (ByteArray × ByteArray)) (rs : List RowT) (f : Nat → Nat) : Prop where
  srv : ServG w0.heap.size W gs gl gst gm (rCells gl gst gp np cp ep Am nm cm Ao no co gn (sent : Int)) rv hv R H rs
  past : W.ownsRow w0.heap.size 3 1 (.slice (some ⟨gp, 0, none⟩) np cp) np P
  gpne : gp ≠ gg
  map : MapI W gn (knownI [] ns)
  mapne : gm ≠ gn
  got : Blk W gg 3 (gotF f)
  ring : Blk W gb 30 #[.int .i64 ep, vm, vo]
  ext : Below w0.heap.size w0 W
  low : w0.heap.size ≤ gs ∧ w0.heap.size ≤ gg
  np1 : 1 ≤ np
section
variable {w0 W W' : World} {gs gl gst gm gn gb gg : Nat} {ep : Int} {Am : Option Addr} {nm cm : Nat} {Ao : Option Addr} {no co : Nat} {vm vo : Value} {ns : List Nat} {gp np cp sent : Nat} {P : List Value} {rv hv : Value} {R : List (List ChgT × Nat × Nat)} {H : List (ByteArray × ByteArray)} {rs : List RowT} {f : Nat → Nat}
theorem BeatS.at_ (h : BeatS w0 W gs gl gst gm gn gb gg ep Am nm cm Ao no co vm vo ns gp np cp sent P rv hv R H rs f) : SrvAt W gs gl gst gn gp np cp 0 ep (sent : Int) Am nm cm Ao no co := h.srv.srv
theorem BeatS.more (h : BeatS w0 W gs gl gst gm gn gb gg ep Am nm cm Ao no co vm vo ns gp np cp sent P rv hv R H rs f) (k : Below W.heap.size W W') : BeatS w0 W' gs gl gst gm gn gb gg ep Am nm cm Ao no co vm vo ns gp np cp sent P rv hv R H rs f :=
  ⟨h.srv.ext k, own_ext h.past k, h.gpne, h.map.ext k, h.mapne, h.got.ext k, h.ring.ext k, ext_call h.ext k, h.low, h.np1⟩
/-- behind a commit -/
theorem BeatS.commit (h : BeatS w0 W gs gl gst gm gn gb gg ep Am nm cm Ao no co vm vo ns gp np cp sent P rv hv R H rs f) {rv2 hv2 : Value} {R2 : List (List ChgT × Nat × Nat)} {H2 : List (ByteArray × ByteArray)} {rs2 : List RowT}
    (hS : ServG w0.heap.size W' gs gl gst gm (rCells gl gst gp np cp ep Am nm cm Ao no co gn (sent : Int)) rv2 hv2 R2 H2 rs2) (hE : Below w0.heap.size w0 W') (k : ExtS (fun k => StS gst gm k ∨ ApX gl rv hv k) W W') :
    BeatS w0 W' gs gl gst gm gn gb gg ep Am nm cm Ao no co vm vo ns gp np cp sent P rv2 hv2 R2 H2 rs2 f := by
  have nb : ∀ {g : Nat} {t : TypeId} {cs : Array Value}, Blk W g t cs → t ≠ 134 → t ≠ 144 → t ≠ 46 → t ≠ 86 → ¬ (StS gst gm g ∨ ApX gl rv hv g) := fun hb h1 h2 h3 h4 => by
    rintro ((e | e) | (e | e | e))
    · exact blkNe hb h.srv.st.1 h1 e
    · obtain ⟨es, c, hm, _⟩ := h.srv.st.2
      exact blkNeMap hb hm e
    · exact blkNe hb h.srv.log.log h2 e
    · exact own_not h.srv.log.recs hb h3 e
    · exact own_not h.srv.log.heads hb h4 e
  refine ⟨hS, own_extS2 h.past k (own_notS h.past fun g cur hb => nb hb (by decide) (by decide) (by decide) (by decide)), h.gpne, h.map.extS k ?_, h.mapne, ExtS.blk h.got k (nb h.got (by decide) (by decide) (by decide) (by decide)), ExtS.blk h.ring k (nb h.ring (by decide) (by decide) (by decide) (by decide)), hE, h.low, h.np1⟩
  rintro ((e | e) | (e | e | e))
  · exact MapI.neBlk h.map h.srv.st.1 e.symm
  · exact h.mapne e.symm
  · exact MapI.neBlk h.map h.srv.log.log e.symm
  · exact own_mapIn h.srv.log.recs h.map e
  · exact own_mapIn h.srv.log.heads h.map e
/-- behind a tick -/
theorem BeatS.tick (h : BeatS w0 W gs gl gst gm gn gb gg ep Am nm cm Ao no co vm vo ns gp np cp sent P rv hv R H rs f) {gp' np' cp' sent' : Nat} {P' : List Value}
    (hs : SrvAt W' gs gl gst gn gp' np' cp' 0 ep (sent' : Int) Am nm cm Ao no co) (hp : W'.ownsRow w0.heap.size 3 1 (.slice (some ⟨gp', 0, none⟩) np' cp') np' P') (hg : gp' = gp ∨ W.heap.size ≤ gp') (hn : 1 ≤ np') (k : ExtS (TickS gs gp) W W') :
    BeatS w0 W' gs gl gst gm gn gb gg ep Am nm cm Ao no co vm vo ns gp' np' cp' sent' P' rv hv R H rs f := by
  have nb : ∀ (g : Nat) (t : TypeId) (cs : Array Value), Blk W g t cs → t ≠ 101 → t ≠ 3 → ¬ TickS gs gp g := fun g t cs hb h1 h2 => tick_not h.at_ h.past h.np1 hb h1 h2
  obtain ⟨cur, hc⟩ := past_blk h.past h.np1
  have hgl := h.got.lt
  refine ⟨h.srv.extS k (fun g t cur hb ht => nb g t cur hb (by rcases ht with rfl | rfl | rfl | rfl | rfl <;> decide) (by rcases ht with rfl | rfl | rfl | rfl | rfl <;> decide)) ?_ hs rfl rfl, hp, ?_, h.map.keepTick h.at_ h.past h.np1 k, h.mapne, ExtS.blk h.got k ?_, ExtS.blk h.ring k (nb _ _ _ h.ring (by decide) (by decide)), ExtS.below h.ext ?_ k, h.low, hn⟩
  · obtain ⟨es, c, hm, _⟩ := h.srv.st.2
    rintro (e | e)
    · exact blkNeMap h.at_ hm e.symm
    · exact blkNeMap hc hm e.symm
  · rcases hg with rfl | hg
    · exact h.gpne
    · omega
  · rintro (e | e)
    · exact blkNe h.got h.at_ (by decide) e
    · exact h.gpne e.symm
  · rintro j (rfl | rfl)
    · exact h.low.1
    · exact (h.past.lt j rfl).1
/-- where only the numbers of records changed -/
theorem BeatS.count (h : BeatS w0 W gs gl gst gm gn gb gg ep Am nm cm Ao no co vm vo ns gp np cp sent P rv hv R H rs f) {f' : Nat → Nat} (hg : Blk W' gg 3 (gotF f')) (k : ExtS (fun j => j = gg) W W') :
    BeatS w0 W' gs gl gst gm gn gb gg ep Am nm cm Ao no co vm vo ns gp np cp sent P rv hv R H rs f' := by
  have nb : ∀ (g : Nat) (t : TypeId) (cs : Array Value), Blk W g t cs → t ≠ 3 → ¬ g = gg := fun g t cs hb ht e => blkNe hb h.got ht e
  refine ⟨h.srv.extS k (fun g t cur hb ht => nb g t cur hb (by rcases ht with rfl | rfl | rfl | rfl | rfl <;> decide)) ?_ (ExtS.blk h.srv.srv k (nb _ _ _ h.srv.srv (by decide))) rfl rfl, own_extS2 h.past k ?_, h.gpne, h.map.extS k ?_, h.mapne, hg, ExtS.blk h.ring k (nb _ _ _ h.ring (by decide)), ExtS.below h.ext ?_ k, h.low, h.np1⟩
  · obtain ⟨es, c, hm, _⟩ := h.srv.st.2
    exact fun e => blkNeMap h.got hm e.symm
  · intro g hg2 e
    exact h.gpne ((Option.some.inj hg2).trans e)
  · exact fun e => MapI.neBlk h.map h.got e.symm
  · rintro j rfl
    exact h.low.2
end
/-- the last entry of the past -/
theorem past_last {W : World} {B gp np cp p : Nat} {P : List Value} (h : W.ownsRow B 3 1 (.slice (some ⟨gp, 0, none⟩) (np + 1) cp) (np + 1) (P ++ [.int .i64 (p : Int)])) : W.cell? ⟨gp, np, none⟩ = some (.int .i64 (p : Int)) := by
  have hl := h.1
  rw [List.length_append, List.length_singleton] at hl
  obtain ⟨g, cap, hv, _, _, _, hc⟩ := own_cells h (by omega)
  injection hv with hv _ _
  injection hv with hv
  injection hv with hv
  subst hv
  refine hc np _ ?_
  rw [List.getElem?_append_right (by omega)]
  have e : np - P.length = 0 := by omega
  rw [e]
  rfl
/-- how many records the nodes got, while the messages are counted: the first j nodes all c, the next one r -/
def GotR (ns : List Nat) (sent c j r : Nat) (f : Nat → Nat) : Prop := ∀ i n, ns[i]? = some n → (i < j → f n = sent + c) ∧ (i = j → f n = sent + r) ∧ (j < i → f n = sent)
theorem GotR.start {ns : List Nat} {sent c : Nat} {f : Nat → Nat} (h : ∀ n ∈ ns, f n = sent) : GotR ns sent c 0 0 f := fun i n hi => ⟨fun h1 => by omega, fun _ => h n (List.mem_of_getElem? hi), fun _ => h n (List.mem_of_getElem? hi)⟩
theorem NodesOK.inj {ns : List Nat} (h : NodesOK ns) {i j n : Nat} (hi : ns[i]? = some n) (hj : ns[j]? = some n) : i = j := by
  rcases Nat.lt_trichotomy i j with h1 | h1 | h1
  · have := h.lt (j - i - 1) i n n hi (by rw [show i + 1 + (j - i - 1) = j by omega]; exact hj)
    omega
  · exact h1
  · have := h.lt (i - j - 1) j n n hj (by rw [show j + 1 + (i - j - 1) = i by omega]; exact hi)
    omega
theorem GotR.rec_ {ns : List Nat} {sent c j r n : Nat} {f : Nat → Nat} (h : GotR ns sent c j r f) (hN : NodesOK ns) (hn : ns[j]? = some n) : GotR ns sent c j (r + 1) (fun i => if i = n then sent + r + 1 else f i) := fun i m hi => by
  have h1 := h i m hi
  have h2 : m = n → i = j := fun e => hN.inj hi (e ▸ hn)
  refine ⟨fun hlt => ?_, fun he => ?_, fun hlt => ?_⟩
  · show (if m = n then sent + r + 1 else f m) = _
    rw [if_neg (fun e => by have := h2 e; omega)]
    exact h1.1 hlt
  · subst he
    rw [hn] at hi
    cases hi
    show (if n = n then sent + r + 1 else f n) = _
    rw [if_pos rfl]
    omega
  · show (if m = n then sent + r + 1 else f m) = _
    rw [if_neg (fun e => by have := h2 e; omega)]
    exact h1.2.2 hlt
theorem GotR.beat {ns : List Nat} {sent c j : Nat} {f : Nat → Nat} (h : GotR ns sent c j c f) : GotR ns sent c (j + 1) 0 f := fun i m hi => by
  have h1 := h i m hi
  refine ⟨fun hlt => ?_, fun he => ?_, fun hlt => ?_⟩
  · rcases Nat.lt_or_ge i j with h2 | h2
    · exact h1.1 h2
    · exact h1.2.1 (by omega)
  · exact h1.2.2 (by omega)
  · exact h1.2.2 (by omega)
theorem GotR.done {ns : List Nat} {sent c : Nat} {f : Nat → Nat} {r : Nat} (h : GotR ns sent c ns.length r f) : ∀ n ∈ ns, f n = sent + c := fun n hn => by
  obtain ⟨i, hi⟩ := List.getElem?_of_mem hn
  exact (h i n hi).1 (List.getElem?_eq_some_iff.1 hi).1

end Go.Proofs.YtbgfmbmcabekeaaGreatDoor
