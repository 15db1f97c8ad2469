/-
  package origin: Tick at any log, with any ring.
-/
import Derived.Test.YtbgfmbmcabekeaaGreatDoorJ16
import Derived.Test.YtbgfmbmcabekeaaGreatDoorJ9
import Derived.Deep.Upon
import Derived.Maps.AppendAt
set_option linter.unusedSimpArgs false
set_option linter.unusedVariables false

namespace Go.Proofs.YtbgfmbmcabekeaaGreatDoor
open Go.RowKit Go.Shelf

abbrev XT := Nat × Nat × Nat × Nat
/-- the beat to a node -/
def msgBN (tn : Int) (np p : Nat) (ep : Int) : Array Value := #[.int .i64 2, .int .i64 100, .int .i64 tn, .int .i64 0, .int .i64 ep, .int .i64 0, .int .i64 0, .int .i64 (np : Int), .int .i64 0, .int .i64 (p : Int), .int .i64 0, .int .i64 0, .int .i64 0, .int .i64 0, .int .i64 0, .int .i64 0, .int .i64 0, .int .i64 0, .slice none 0 0, .int .i64 0, .int .i64 0, .int .i64 0, .int .i64 0, .int .i64 0, .int .i64 0, .int .i64 0, .int .i64 0, .int .i64 0, .slice none 0 0, .int .i64 0, .int .i64 0, .int .i64 0, .int .i64 0, .int .i64 0, .int .i64 0, .int .i64 0, .slice none 0 0, .int .i64 0, .bool false, .int .i64 0, .int .i64 0, .int .i64 0, .slice none 0 0, .slice none 0 0, .int .i64 0, .slice none 0 0, .slice none 0 0]
/-- a message of a tick: a node, and a record if it is no beat -/
def tmsg (np p : Nat) (ep : Int) (m : Nat × Option XT) : Array Value := match m.2 with
  | some x => msgN (m.1 : Int) x
  | none => msgBN (m.1 : Int) np p ep
def tcN (np p : Nat) (ep : Int) (L : List (Nat × Option XT)) : List Value := L.flatMap fun m => (tmsg np p ep m).toList
theorem tcN_append (np p : Nat) (ep : Int) (L M : List (Nat × Option XT)) : tcN np p ep (L ++ M) = tcN np p ep L ++ tcN np p ep M := by simp [tcN]
theorem tcN_recs (np p : Nat) (ep : Int) (n : Nat) : ∀ xs : List XT, tcN np p ep (xs.map fun x => (n, some x)) = mcN (n : Int) xs
  | [] => rfl
  | x :: l => by
    have ih := tcN_recs np p ep n l
    simp only [tcN, mcN, List.map_cons, List.flatMap_cons, tmsg] at ih ⊢
    rw [ih]
theorem tcN_beat (np p : Nat) (ep : Int) (n : Nat) : tcN np p ep [(n, none)] = (msgBN (n : Int) np p ep).toList := by simp [tcN, tmsg]
theorem tmsg_size (np p : Nat) (ep : Int) (m : Nat × Option XT) : (tmsg np p ep m).size = 47 := by
  obtain ⟨n, x⟩ := m
  cases x <;> rfl
theorem tcN_at (np p : Nat) (ep : Int) : ∀ (L : List (Nat × Option XT)) (j : Nat) (m : Nat × Option XT), L[j]? = some m → ∀ i, i < 47 → (tcN np p ep L)[j * 47 + i]? = (tmsg np p ep m)[i]?
  | [], j, m, h, i, hi => by simp at h
  | y :: l, 0, m, h, i, hi => by
    simp only [List.getElem?_cons_zero, Option.some.injEq] at h
    subst h
    simp only [tcN, List.flatMap_cons, Nat.zero_mul, Nat.zero_add]
    rw [List.getElem?_append_left (show i < (tmsg np p ep y).toList.length by rw [Array.length_toList, tmsg_size]; exact hi)]
    simp
  | y :: l, j + 1, m, h, i, hi => by
    have h1 := tcN_at np p ep l j m (by simpa using h) i hi
    simp only [tcN, List.flatMap_cons]
    have e0 : (tmsg np p ep y).toList.length = 47 := by rw [Array.length_toList, tmsg_size]
    rw [List.getElem?_append_right (by omega)]
    have e : (j + 1) * 47 + i - (tmsg np p ep y).toList.length = j * 47 + i := by omega
    rw [e]
    exact h1

/-- the messages of a tick: to each of the nodes c records, then the beat -/
structure TickL (ns : List Nat) (c first : Nat) (R : List (List ChgT × Nat × Nat)) (L : List (Nat × Option XT)) (W : World) : Prop where
  len : L.length = ns.length * (c + 1)
  recs : ∀ (j n r : Nat), ns[j]? = some n → r < c → ∃ x, L[j * (c + 1) + r]? = some (n, some x) ∧ RecMG first R r x W
  beat : ∀ (j n : Nat), ns[j]? = some n → L[j * (c + 1) + c]? = some (n, none)
theorem TickL.keep {ns : List Nat} {c first : Nat} {R : List (List ChgT × Nat × Nat)} {L : List (Nat × Option XT)} {W W' : World} (h : TickL ns c first R L W) (k : ∀ r x, RecMG first R r x W → RecMG first R r x W') : TickL ns c first R L W' :=
  ⟨h.len, fun j n r h1 h2 => by obtain ⟨x, h3, h4⟩ := h.recs j n r h1 h2; exact ⟨x, h3, k r x h4⟩, h.beat⟩
theorem TickL.nil (c first : Nat) (R : List (List ChgT × Nat × Nat)) (W : World) : TickL [] c first R [] W := ⟨by simp, fun j n r h => by simp at h, fun j n h => by simp at h⟩
theorem TickL.push {ns : List Nat} {c first : Nat} {R : List (List ChgT × Nat × Nat)} {L : List (Nat × Option XT)} {W : World} (h : TickL ns c first R L W) (n : Nat) (xs : List XT) (hx : xs.length = c) (hr : ∀ (i : Nat) (x : XT), xs[i]? = some x → RecMG first R i x W) :
    TickL (ns ++ [n]) c first R (L ++ xs.map (fun x => (n, some x)) ++ [(n, none)]) W := by
  have hl := h.len
  have hmul : ∀ j r, j < ns.length → r ≤ c → j * (c + 1) + r < L.length := fun j r hj hr2 => by
    have h1 : (j + 1) * (c + 1) ≤ ns.length * (c + 1) := Nat.mul_le_mul_right _ hj
    have h2 : (j + 1) * (c + 1) = j * (c + 1) + (c + 1) := Nat.succ_mul _ _
    omega
  have old : ∀ j r, j < ns.length → r ≤ c → (L ++ xs.map (fun x => (n, some x)) ++ [(n, none)])[j * (c + 1) + r]? = L[j * (c + 1) + r]? := fun j r hj hr2 => by
    rw [List.append_assoc, List.getElem?_append_left (hmul j r hj hr2)]
  have split : ∀ (j m : Nat), (ns ++ [n])[j]? = some m → (j < ns.length ∧ ns[j]? = some m) ∨ (j = ns.length ∧ m = n) := fun j m hm => by
    have hlt := (List.getElem?_eq_some_iff.1 hm).1
    rw [List.length_append, List.length_singleton] at hlt
    by_cases hj : j < ns.length
    · rw [List.getElem?_append_left hj] at hm
      exact .inl ⟨hj, hm⟩
    · have hj2 : j = ns.length := by omega
      subst hj2
      rw [List.getElem?_append_right (Nat.le_refl _)] at hm
      simp at hm
      exact .inr ⟨rfl, hm.symm⟩
  refine ⟨?_, fun j m r hm hrc => ?_, fun j m hm => ?_⟩
  · simp only [List.length_append, List.length_map, List.length_singleton]
    rw [hl, hx, Nat.succ_mul]
    omega
  · rcases split j m hm with ⟨hj, h1⟩ | ⟨rfl, rfl⟩
    · rw [old j r hj (by omega)]
      exact h.recs j m r h1 hrc
    · obtain ⟨x, hx1⟩ : ∃ x, xs[r]? = some x := ⟨_, List.getElem?_eq_getElem (by omega)⟩
      refine ⟨x, ?_, hr r x hx1⟩
      rw [← hl, List.append_assoc, List.getElem?_append_right (Nat.le_add_right _ _), Nat.add_sub_cancel_left, List.getElem?_append_left (by simp; omega), List.getElem?_map, hx1]
      rfl
  · rcases split j m hm with ⟨hj, h1⟩ | ⟨rfl, rfl⟩
    · rw [old j c hj (Nat.le_refl _)]
      exact h.beat j m h1
    · rw [← hl, List.append_assoc, List.getElem?_append_right (Nat.le_add_right _ _), Nat.add_sub_cancel_left, List.getElem?_append_right (by simp; omega)]
      simp [hx]

theorem getI_setI (v : Value) (n : Int) : ∀ (kv : List (Int × Value)) (k : Int), getI (setI kv n v) k = if n = k then some v else getI kv k
  | [], k => by simp [setI, getI]
  | p :: r, k => by
    have ih := getI_setI v n r k
    unfold setI
    by_cases h1 : p.1 = n
    · rw [if_pos h1]
      by_cases h2 : n = k
      · simp [getI, h2]
      · simp [getI, h2, h1]
    · rw [if_neg h1]
      by_cases h2 : p.1 = k
      · have h3 : ¬ n = k := fun e => h1 (h2.trans e.symm)
        simp [getI, h2, h3]
      · simp only [getI, if_neg h2]
        exact ih
theorem known_get : ∀ (ns : List Nat) (kv : List (Int × Value)) (k : Nat), getI (knownI kv ns) (k : Int) = if k ∈ ns then some (.bool true) else getI kv (k : Int)
  | [], kv, k => by simp [knownI]
  | n :: l, kv, k => by
    have ih := known_get l (setI kv (n : Int) (.bool true)) k
    have e : knownI kv (n :: l) = knownI (setI kv (n : Int) (.bool true)) l := rfl
    rw [e, ih, getI_setI]
    by_cases h1 : k ∈ l
    · simp [h1]
    · by_cases h2 : n = k
      · subst h2; simp
      · have h3 : ¬ (n : Int) = (k : Int) := by omega
        have h4 : ¬ k = n := fun e => h2 e.symm
        simp [h1, h3, h4]
theorem NodesOK.lt {ns : List Nat} (h : NodesOK ns) : ∀ (d j a b : Nat), ns[j]? = some a → ns[j + 1 + d]? = some b → a < b
  | 0, j, a, b, ha, hb => h.asc j a b ha hb
  | d + 1, j, a, b, ha, hb => by
    have hlt := (List.getElem?_eq_some_iff.1 hb).1
    obtain ⟨x, hx⟩ : ∃ x, ns[j + 1 + d]? = some x := ⟨_, List.getElem?_eq_getElem (by omega)⟩
    have h1 := NodesOK.lt h d j a x ha hx
    have h2 := h.asc (j + 1 + d) x b hx hb
    omega

theorem LogG.extS {B gl : Nat} {S : Nat → Prop} {W W' : World} {rv hv : Value} {R : List (List ChgT × Nat × Nat)} {H : List (ByteArray × ByteArray)} (h : LogG B W gl rv hv R H) (k : ExtS S W W') (hb : ∀ {g : Nat} {t : TypeId} {cs : Array Value}, Blk W g t cs → (t = 144 ∨ t = 75) → ¬ S g)
    (hr : ∀ g, rv.ownBlock = some g → ¬ S g) (hh : ∀ g, hv.ownBlock = some g → ¬ S g) : LogG B W' gl rv hv R H :=
  ⟨ExtS.blk h.log k (hb h.log (.inl rfl)), own_extS2 h.recs k hr, own_extS2 h.heads k hh, fun x hx => ⟨(h.chg x hx).1.extS k (by obtain ⟨cur, hc, _⟩ := (h.chg x hx).1; exact hb hc (.inr rfl)), (h.chg x hx).2⟩, h.len, h.sizes⟩
/-- what a tick changes -/
def TickS (gs gp : Nat) (k : Nat) : Prop := k = gs ∨ k = gp
section
variable {B gs gl gst gn gp np cp nm cm no co : Nat} {lag ep sent : Int} {Am Ao : Option Addr} {W W' : World} {rv hv : Value} {R : List (List ChgT × Nat × Nat)} {H : List (ByteArray × ByteArray)} {P : List Value} {rs : List RowT} {gm : Nat} {pos : Int}
theorem past_blk (hp : W.ownsRow B 3 1 (.slice (some ⟨gp, 0, none⟩) np cp) np P) (h0 : 1 ≤ np) : ∃ cur, Blk W gp 3 cur := by
  obtain ⟨g, cap, cur, h1, _, h2⟩ := own_blk hp h0
  injection h1 with h1 _ _
  injection h1 with h1
  injection h1 with h1
  subst h1
  exact ⟨cur, h2⟩
theorem tick_not (hs : SrvAt W gs gl gst gn gp np cp lag ep sent Am nm cm Ao no co) (hp : W.ownsRow B 3 1 (.slice (some ⟨gp, 0, none⟩) np cp) np P) (h0 : 1 ≤ np) {g : Nat} {t : TypeId} {cs : Array Value} (hb : Blk W g t cs) (h1 : t ≠ 101) (h2 : t ≠ 3) : ¬ TickS gs gp g := by
  obtain ⟨cur, hc⟩ := past_blk hp h0
  rintro (e | e)
  · exact blkNe hb hs h1 e
  · exact blkNe hb hc h2 e
theorem tick_notOwn (hs : SrvAt W gs gl gst gn gp np cp lag ep sent Am nm cm Ao no co) (hp : W.ownsRow B 3 1 (.slice (some ⟨gp, 0, none⟩) np cp) np P) (h0 : 1 ≤ np) {B' sz n : Nat} {e : TypeId} {v : Value} {xs : List Value} (ho : W.ownsRow B' e sz v n xs) (h1 : 101 ≠ e) (h2 : 3 ≠ e) : ∀ g, v.ownBlock = some g → ¬ TickS gs gp g := by
  obtain ⟨cur, hc⟩ := past_blk hp h0
  rintro g hg (rfl | rfl)
  · exact own_not ho hs h1 hg
  · exact own_not ho hc h2 hg
theorem LogG.keepTick (h : LogG B W gl rv hv R H) (hs : SrvAt W gs gl gst gn gp np cp lag ep sent Am nm cm Ao no co) (hp : W.ownsRow B 3 1 (.slice (some ⟨gp, 0, none⟩) np cp) np P) (h0 : 1 ≤ np) (k : ExtS (TickS gs gp) W W') : LogG B W' gl rv hv R H :=
  h.extS k (fun hb ht => tick_not hs hp h0 hb (by rcases ht with rfl | rfl <;> decide) (by rcases ht with rfl | rfl <;> decide)) (tick_notOwn hs hp h0 h.recs (by decide) (by decide)) (tick_notOwn hs hp h0 h.heads (by decide) (by decide))
theorem MapI.keepTick {kv : List (Int × Value)} (h : MapI W gn kv) (hs : SrvAt W gs gl gst gn gp np cp lag ep sent Am nm cm Ao no co) (hp : W.ownsRow B 3 1 (.slice (some ⟨gp, 0, none⟩) np cp) np P) (h0 : 1 ≤ np) (k : ExtS (TickS gs gp) W W') : MapI W' gn kv := by
  obtain ⟨cur, hc⟩ := past_blk hp h0
  refine h.extS k ?_
  rintro (e | e)
  · exact MapI.neBlk h hs e.symm
  · exact MapI.neBlk h hc e.symm
theorem StateR.keepTick (h : StateR W gst gm pos rs) (hs : SrvAt W gs gl gst gn gp np cp lag ep sent Am nm cm Ao no co) (hp : W.ownsRow B 3 1 (.slice (some ⟨gp, 0, none⟩) np cp) np P) (h0 : 1 ≤ np) (k : ExtS (TickS gs gp) W W') : StateR W' gst gm pos rs := by
  obtain ⟨cur, hc⟩ := past_blk hp h0
  refine ⟨ExtS.blk h.1 k (tick_not hs hp h0 h.1 (by decide) (by decide)), ?_⟩
  obtain ⟨es, c, hm, h2⟩ := h.2
  refine ⟨es, c, (k.block gm hm.lt ?_).trans hm, h2⟩
  rintro (e | e)
  · exact blkNeMap hs hm e.symm
  · exact blkNeMap hc hm e.symm
end
theorem own_mapIn {W : World} {B sz n g : Nat} {e : TypeId} {v : Value} {xs : List Value} {kv : List (Int × Value)} (h : W.ownsRow B e sz v n xs) (hm : MapI W g kv) : v.ownBlock ≠ some g := by
  obtain ⟨es, c, hm, _⟩ := hm
  rcases h.2 with ⟨rfl, _⟩ | ⟨g', cap, cur, rfl, _, hb', _⟩
  · simp [Value.ownBlock]
  · intro e2
    have e3 : g' = g := Option.some.inj e2
    subst e3
    unfold MapAt at hm
    rw [hm] at hb'
    cases hb'
theorem msgsAt_of {W : World} {base : Nat} {v : Value} {tn : Int} {xs : List XT} (h : W.ownsRow base 57 47 v xs.length (mcN tn xs)) (hn : xs.length = 0 → v = .slice none 0 0) : MsgsAt W base xs.length v (mcN tn xs) := by
  by_cases h0 : xs.length = 0
  · obtain rfl := List.eq_nil_of_length_eq_zero h0
    exact .inl ⟨rfl, hn rfl, rfl⟩
  · refine .inr ⟨by omega, h, fun u hu => ?_⟩
    obtain ⟨x, _, hx⟩ := List.mem_flatMap.1 hu
    have h9 : (msgN tn x).toList.all (·.oneCell') = true := by simp [msgN, Value.oneCell']
    exact List.all_eq_true.1 h9 u hx
theorem RecMG.grownT {U V : World} {B sz n first k : Nat} {e : TypeId} {v : Value} {xs : List Value} {R : List (List ChgT × Nat × Nat)} {x : XT} (h : RecMG first R k x U) (hg : U.grownBy V v.ownBlock) (ho : U.ownsRow B e sz v n xs) (ht : 75 ≠ e) : RecMG first R k x V := by
  obtain ⟨y, h1, h2, h3, h4⟩ := h.at_
  exact ⟨h.pos, y, h1, h2, h3.grownT hg ho ht, h4⟩
/-- how far the nodes have been served: the first q are below k, the others are not -/
def UpTo (ns : List Nat) (q k : Nat) : Prop := q ≤ ns.length ∧ ∀ (j n : Nat), ns[j]? = some n → (j < q ↔ n < k)
theorem UpTo.hit {ns : List Nat} {q k : Nat} (h : UpTo ns q k) (hn : NodesOK ns) (hk : k ∈ ns) : ns[q]? = some k ∧ UpTo ns (q + 1) (k + 1) := by
  obtain ⟨j, hj⟩ := List.getElem?_of_mem hk
  have h1 := h.2 j k hj
  have hjl := (List.getElem?_eq_some_iff.1 hj).1
  have hqj : q ≤ j := by omega
  have hq : q = j := by
    rcases Nat.lt_or_ge q j with hlt | hge
    · obtain ⟨a, ha⟩ : ∃ a, ns[q]? = some a := ⟨_, List.getElem?_eq_getElem (by omega)⟩
      have h2 := h.2 q a ha
      have h3 := hn.lt (j - q - 1) q a k ha (by rw [show q + 1 + (j - q - 1) = j by omega]; exact hj)
      omega
    · omega
  subst hq
  refine ⟨hj, by omega, fun i n hi => ?_⟩
  have h2 := h.2 i n hi
  rcases Nat.lt_trichotomy i q with h3 | h3 | h3
  · omega
  · subst h3; rw [hj] at hi; cases hi; omega
  · have h4 := hn.lt (i - q - 1) q k n hj (by rw [show q + 1 + (i - q - 1) = i by omega]; exact hi)
    omega
theorem UpTo.miss {ns : List Nat} {q k : Nat} (h : UpTo ns q k) (hk : ¬ k ∈ ns) : UpTo ns q (k + 1) := by
  refine ⟨h.1, fun j n hj => ?_⟩
  have h1 := h.2 j n hj
  have h2 : n ≠ k := fun e => hk (e ▸ List.mem_of_getElem? hj)
  omega
theorem UpTo.all {ns : List Nat} {q : Nat} (h : UpTo ns q 24) (hn : NodesOK ns) : q = ns.length := by
  have h1 := h.1
  rcases Nat.lt_or_ge q ns.length with hlt | hge
  · obtain ⟨a, ha⟩ : ∃ a, ns[q]? = some a := ⟨_, List.getElem?_eq_getElem hlt⟩
    have h2 := h.2 q a ha
    have h3 := hn.below a (List.mem_of_getElem? ha)
    omega
  · omega
theorem UpTo.zero (ns : List Nat) : UpTo ns 0 0 := ⟨Nat.zero_le _, fun j n h => by omega⟩
theorem take_hit {ns : List Nat} {q k : Nat} (h : ns[q]? = some k) : ns.take (q + 1) = ns.take q ++ [k] := by rw [List.take_add_one, h]; rfl

theorem app_ownAt {P : Program} {w : World} (base : Nat) (t ty e : TypeId) (i : TypeInfo) (z : Value) (size bytes : Nat) (ht : P.underlying t = some (.slice e)) (hi : P.info? e = some i) (hz : i.zero = some z)
    (hsize : i.size = size) (hby : i.bytes = bytes) (hzs : z.cells.size = size) (hsz : 0 < size)
    (v : Value) (n : Nat) (xs : List Value) (hown : w.ownsRow base e size v n xs)
    (a : Addr) (m c : Nat) (news : List Value) (hl : news.length = m * size) (hnews : ∀ j u, news[j]? = some u → w.cell? (a.add j) = some u) (h1 : ∀ u ∈ news, u.oneCell' = true)
    (h63 : n + m ≤ maxLen) (hbytes : (n + m) * bytes ≤ 140737488355328) (hbase : base ≤ w.heap.size) :
    AppOK P w t ty v (.slice (some a) m c) ∧ (appW P w t ty v (.slice (some a) m c)).ownsRow base e size (appV P w t ty v (.slice (some a) m c)) (n + m) (xs ++ news) ∧ w.grownBy (appW P w t ty v (.slice (some a) m c)) v.ownBlock ∧
      ((appV P w t ty v (.slice (some a) m c)).ownBlock = v.ownBlock ∨ (appV P w t ty v (.slice (some a) m c)).ownBlock = some w.heap.size) := by
  obtain ⟨v', w', hr, ho, hg, _, hb⟩ := run_append_own_at (P := P) (w := w) base t ty e i z size bytes ht hi hz hsize hby hzs hsz v n xs hown a m c news hl hnews h1 h63 hbytes hbase
  have hv : appV P w t ty v (.slice (some a) m c) = v' := by unfold appV; rw [hr]
  have hw : appW P w t ty v (.slice (some a) m c) = w' := by unfold appW; rw [hr]
  rw [hv, hw]
  exact ⟨⟨_, _, hr⟩, ho, hg, hb⟩

attribute [local go_sem ↓] bd_exec bd_sem bs_exec bs_sem app_exec app_sem Go.wp_at_zero Go.wp_at_succ
attribute [local go_sem high] app_exec2 bs_exec2 bd_exec2

set_option maxRecDepth 100000 in
set_option maxHeartbeats 8000000 in
theorem tickG (B gs gl gst gn gp np cp : Nat) (lag ep : Int) (sent p : Nat) (Am : Option Addr) (nm cm : Nat) (Ao : Option Addr) (no co : Nat) (rv hv : Value) (R : List (List ChgT × Nat × Nat)) (H : List (ByteArray × ByteArray)) (P : List Value) (ns : List Nat) (w : World)
    (hs : SrvAt w gs gl gst gn gp np cp lag ep (sent : Int) Am nm cm Ao no co) (hl : LogG B w gl rv hv R H) (hG : ∀ x ∈ R, GoodL x.1) (hp : p = R.length) (hp9 : p ≤ 900) (hm : MapI w gn (knownI [] ns)) (hN : NodesOK ns)
    (hpast : w.ownsRow B 3 1 (.slice (some ⟨gp, 0, none⟩) np cp) np P) (hnp : 1 ≤ np) (hnp2 : np ≤ 1000) (hsent : sent ≤ p) (hbig : ns.length * (p - sent + 1) ≤ 900) (hBw : B ≤ w.heap.size) :
    Calls Tryz.prog 13 #[.pointer (some ⟨gs, 0, none⟩)] w fun e w' => ∃ v L gp' cp', e = .returned v ∧ w'.ownsRow w.heap.size 57 47 v L.length (tcN np p ep L) ∧ TickL ns (p - sent) (sent + 1) R L w' ∧
      SrvAt w' gs gl gst gn gp' (np + 1) cp' lag ep (p : Int) Am nm cm Ao no co ∧ w'.ownsRow B 3 1 (.slice (some ⟨gp', 0, none⟩) (np + 1) cp') (np + 1) (P ++ [.int .i64 (p : Int)]) ∧ (gp' = gp ∨ w.heap.size ≤ gp') ∧ ExtS (TickS gs gp) w w' := by
  obtain ⟨ii, hii, hzi0, hzi1, hzi2⟩ := info_parts int_info
  have hgn : gs ≠ gn := MapI.neBlk hm hs
  have hgp : gs ≠ gp := own_blkNe hpast hs (by decide)
  have hgB : B ≤ gp := (hpast.lt gp rfl).1
  obtain ⟨d3, hrow, hgr, hbk⟩ := app_ownAt (P := Tryz.prog) (w := w.alloc (.cells #[.int .i64 (p : Int)] 3)) B 28 28 3 ii (.int .i64 0) 1 8 Tryz.underlying28 hii hzi0 hzi1 hzi2 rfl (by decide)
    (.slice (some ⟨gp, 0, none⟩) np cp) np P (own_below hpast (ext_new _ _)) ⟨w.heap.size, 0, none⟩ 1 1 [.int .i64 (p : Int)] rfl (cell_one_new _ _ _) (by simp [Value.oneCell']) (by unfold maxLen; omega) (by omega) (by simp; omega)
  obtain ⟨gp', cp', hv3⟩ := ownsRow_succ (k := np) hrow
  rw [hv3] at hrow hbk
  have HBK := Lib.hid (show gp' = gp ∨ w.heap.size ≤ gp' from hbk.imp (fun h => Option.some.inj h) (fun h => by have h2 : gp' = (w.alloc (.cells #[.int .i64 (p : Int)] 3)).heap.size := Option.some.inj h; simp at h2; omega))
  generalize hW1 : appW Tryz.prog (w.alloc (.cells #[.int .i64 (p : Int)] 3)) 28 28 (.slice (some ⟨gp, 0, none⟩) np cp) (.slice (some ⟨w.heap.size, 0, none⟩) 1 1) = W1 at hrow hgr
  have hx1 : ExtS (fun k => k = gp) w W1 := ⟨hgr.os, hgr.tape, hgr.output, Nat.le_trans (by simp) hgr.size, fun k hk hn => (hgr.block k (by simp; omega) (fun e => hn (Option.some.inj e))).trans (Below.heap_alloc w _ k hk)⟩
  have hx1' : ExtS (TickS gs gp) w W1 := hx1.mono fun k h => .inr h
  have hs1 := hs.extS hx1 hgp
  have HS1 := Lib.hid hs1
  have HX1 := Lib.hid hx1'
  have HROW := Lib.hid hrow
  have s0 : w.cell? ⟨gs, 0, none⟩ = some (.pointer (some ⟨gl, 0, none⟩)) := Blk.cell hs 0
  have s2 : w.cell? ⟨gs, 2, none⟩ = some (.slice (some ⟨gp, 0, none⟩) np cp) := Blk.cell hs 2
  have sl := Blk.lt hs
  have hlow : decide ((1000000 : Int) ≤ (np : Int) - 1) = false := by simp; omega
  have v2 : W1.cell? ⟨gs, 2, none⟩ = some (.slice (some ⟨gp, 0, none⟩) np cp) := Blk.cell hs1 2
  have f2 : W1.frozen? ⟨gs, 2, none⟩ = false := Blk.frozen hs1 2
  obtain ⟨V, hV⟩ : ∃ V, V = W1.setCell ⟨gs, 2, none⟩ (.slice (some ⟨gp', 0, none⟩) (np + 1) cp') := ⟨_, rfl⟩
  have hxv : ExtS (TickS gs gp) w V := by rw [hV]; exact hx1'.trans ((ExtS.set1 _ _ _ _).mono fun k h => .inl h)
  have HXV := Lib.hid hxv
  have HLV := Lib.hid (hl.keepTick hs hpast hnp hxv)
  have HMV := Lib.hid (hm.keepTick hs hpast hnp hxv)
  have HSV := Lib.hid (show SrvAt V gs gl gst gn gp' (np + 1) cp' lag ep (sent : Int) Am nm cm Ao no co by rw [hV]; exact Blk.set_ hs1 2 _)
  have HRV := Lib.hid (show V.ownsRow B 3 1 (.slice (some ⟨gp', 0, none⟩) (np + 1) cp') (np + 1) (P ++ [.int .i64 (p : Int)]) by rw [hV]; exact own_setboxI hrow hs1 (by decide) _)
  obtain ⟨Ar, cr, hrv⟩ := own_shape hl.recs
  have HPOS := Lib.hid (show Calls Tryz.prog 16 #[.pointer (some ⟨gs, 0, none⟩)] w fun e w' => e = .returned (.int .i64 (p : Int)) ∧ w = w' by
    have h9 := hl.log
    rw [hrv] at h9
    rw [hp]
    exact srvPos gs gl R.length cr Ar hv w s0 h9)
  have HN := Lib.hid hN
  have HG := Lib.hid hG
  have HV := Lib.hid hV
  have hszV : w.heap.size ≤ V.heap.size := hxv.size
  have hf : 1 ≤ sent + 1 := by omega
  obtain ⟨c, hc⟩ : ∃ c, c = p - sent := ⟨_, rfl⟩
  rw [← hc] at hbig ⊢
  have hcN : nRec (sent + 1) R.length R.length = c := by unfold nRec; omega
  have HCo := Lib.hid (fun (tn : Int) (W : World) (k : Below V.heap.size V W) => show Calls Tryz.prog 42 #[.pointer (some ⟨gs, 0, none⟩), .int .i64 tn, .int .i64 ((sent : Int) + 1), .int .i64 (p : Int)] W
      fun e w' => ∃ v xs, e = .returned v ∧ xs.length = c ∧ w'.ownsRow W.heap.size 57 47 v xs.length (mcN tn xs) ∧ (xs.length = 0 → v = .slice none 0 0) ∧ (∀ (i : Nat) (x : XT), xs[i]? = some x → RecMG (sent + 1) R i x w') ∧ Below W.heap.size W w' by
    have h9 := copiesH B gs gl (sent + 1) R.length rv hv R H hf (by omega) (by omega) HG.out tn W (Blk.cell (HSV.out.ext k) 0) (HLV.out.ext k)
    rw [hcN, ← hp] at h9
    exact h9)
  clear hbk hs hl hG hm hN hpast hrow hgr hx1 hx1' hs1 hxv hV hrv hgn hgp hgB hii hzi0 hzi1 hzi2 hcN hc hf hp
  go_enter Tryz.func13, Tryz.ntmps13
  go_wp2_with (first | (go_at_call 14; refine (srvTime gs np cp _ (by omega) w s2).mono ?_; rintro e w' ⟨rfl, hw'⟩; subst w') | (go_at_call 16; refine HPOS.out.mono ?_; rintro e w' ⟨rfl, hw'⟩; subst w'))
  rw [← HV.out]
  clear d3 hv3 hW1 v2 f2 s0 s2 sl HPOS HS1 HX1 HROW HV
  obtain ⟨im, him, hzm0, hzm1, hzm2⟩ := info_parts msg_info
  obtain ⟨z0, hz0⟩ : ∃ z0, im.zero = some z0 := ⟨_, hzm0⟩
  have HZ0 := Lib.hid (show z0.cells.size = 47 by have h := hzm0.symm.trans hz0; injection h with h; rw [← h]; rfl)
  clear hzm0
  go_loopw [4, 5, 25] (fun v _ i W => ∃ (k q : Nat) (L : List (Nat × Option XT)), k ≤ 24 ∧ i = .int .i64 k ∧ (∃ A c, v = .slice A L.length c) ∧ W.ownsRow V.heap.size 57 47 v L.length (tcN np p ep L) ∧ UpTo ns q k ∧ TickL (ns.take q) c (sent + 1) R L W ∧ Below V.heap.size V W) (fun _ _ i _ => 24 - (intOf i).toNat)
  case atStart => exact ⟨0, 0, [], Nat.zero_le _, rfl, ⟨_, _, rfl⟩, World.ownsRow_nil _ _ _ _, UpTo.zero ns, TickL.nil _ _ _ _, ext_refl V⟩
  case round =>
    obtain ⟨k, q, L, hk, rfl, ⟨A, cA, rfl⟩, hrow, hU, hT, hE⟩ := hrel
    have HR := Lib.hid hrow
    have HU := Lib.hid hU
    have HT := Lib.hid hT
    have HE := Lib.hid hE
    clear hrow hU hT hE
    have hSr := HSV.out.ext HE.out
    have s0 : wr.cell? ⟨gs, 0, none⟩ = some (.pointer (some ⟨gl, 0, none⟩)) := Blk.cell hSr 0
    have s7 : wr.cell? ⟨gs, 7, none⟩ = some (.map (some gn)) := Blk.cell hSr 7
    have s6 : wr.cell? ⟨gs, 8, none⟩ = some (.int .i64 (sent : Int)) := Blk.cell hSr 8
    have sl := Blk.lt hSr
    have hz : (zeroValue 4).run Tryz.prog wr = .ok (.bool false) wr := by kernel_rfl
    have hlk := lookup_I (P := Tryz.prog) (w := wr) Tryz.underlying99 Tryz.underlying3 (HMV.out.ext HE.out) (k : Int) hz
    rw [known_get] at hlk
    have e2 : IntKind.i64.wrap ((k : Int) + 1) = (k : Int) + 1 := by rw [IntWalk.i64_in _ (by omega)]
    have e3 : IntKind.i64.wrap ((sent : Int) + 1) = (sent : Int) + 1 := by rw [IntWalk.i64_in _ (by omega)]
    clear hSr
    by_cases hlt : k < 24
    · have d1 : decide ((k : Int) < 24) = true := by simp; omega
      by_cases hin : k ∈ ns
      · rw [if_pos hin, Option.getD_some] at hlk
        obtain ⟨hqk, hU2⟩ := HU.out.hit HN.out hin
        have HQ := Lib.hid (And.intro hqk hU2)
        have hLn : L.length + c + 1 ≤ 900 := by
          have h1 := HT.out.len
          have h2 := hU2.1
          rw [List.length_take, Nat.min_eq_left (by omega)] at h1
          have h3 : (q + 1) * (c + 1) ≤ ns.length * (c + 1) := Nat.mul_le_mul_right _ h2
          have h4 : (q + 1) * (c + 1) = q * (c + 1) + (c + 1) := Nat.succ_mul _ _
          omega
        clear hqk hU2
        go_wp2_with fail
        refine (HCo.out (k : Int) wr HE.out).mono ?_
        rintro e W2 ⟨v2, xs, rfl, hxl, hown2, hnil2, hxr, hb2⟩
        have hx := msgsAt_of hown2 hnil2
        obtain ⟨A2, c2, rfl⟩ := own_shape hown2
        rw [hxl] at hx
        have hzV : V.heap.size ≤ W2.heap.size := Nat.le_trans HE.out.size hb2.size
        have hro2 := own_below HR.out hb2
        obtain ⟨d4, hrow4, hgr4⟩ := app_msgs hro2 hx (by omega) hzV
        obtain ⟨A4, c4, hv4⟩ := own_shape hrow4
        rw [hv4] at hrow4
        rw [hxl]
        generalize hW4 : appW Tryz.prog W2 39 39 (.slice A L.length cA) (.slice A2 c c2) = W4 at hrow4 hgr4
        have hE2 : Below V.heap.size V W2 := ext_call HE.out hb2
        have hE4 : Below V.heap.size V W4 := hE2.grown hgr4 hzV (fun j e => (HR.out.lt j e).1)
        have HXR4 := Lib.hid (fun (i : Nat) (x : XT) (h : xs[i]? = some x) => (hxr i x h).grownT hgr4 hro2 (by decide))
        have HT4 := Lib.hid (HT.out.keep fun r x h => (h.ext hb2).grownT hgr4 hro2 (by decide))
        have HE4 := Lib.hid hE4
        have HR4 := Lib.hid hrow4
        have HXL := Lib.hid hxl
        have hzV4 : V.heap.size ≤ W4.heap.size := hE4.size
        have HS4 := Lib.hid (HSV.out.ext hE4)
        clear hx hxr hxl hown2 hnil2 hro2 hb2 hrow4 hgr4 hE2 hE4 hlk s0 s6 s7
        have s4 : W4.cell? ⟨gs, 4, none⟩ = some (.int .i64 ep) := Blk.cell HS4.out 4
        have s2 : W4.cell? ⟨gs, 2, none⟩ = some (.slice (some ⟨gp', 0, none⟩) (np + 1) cp') := Blk.cell HS4.out 2
        obtain ⟨oa, hoa⟩ : ∃ oa, oa = msgBN (k : Int) np p ep := ⟨_, rfl⟩
        have hos : oa.size = 47 := by rw [hoa]; rfl
        obtain ⟨d5, e5⟩ := bd_of W4 (P := Tryz.prog) (t := 57) (ps := #[(0, .int .i64 2), (1, .int .i64 100), (2, .int .i64 k), (9, .int .i64 (p : Int)), (7, .int .i64 np), (4, .int .i64 ep)]) (cs := oa) (by rw [hoa]; kernel_rfl)
        obtain ⟨d6, e6⟩ := bs_of W4 (msg_slice oa hos)
        have hbn : MsgsAt (W4.alloc (.cells oa 57)).drew W4.heap.size 1 (.slice (some ⟨W4.heap.size, 0, none⟩) 1 1) oa.toList := .inr ⟨by omega, ⟨by simp [hos], .inr ⟨W4.heap.size, 1, oa, rfl, Nat.le_refl _, World.alloc_heap_new W4 _, by omega, by unfold maxLen; omega, by simp [hos], List.take_of_length_le (by simp [hos])⟩⟩, by rw [hoa]; simp [msgBN, Value.oneCell']⟩
        have hro : (W4.alloc (.cells oa 57)).drew.ownsRow V.heap.size 57 47 (.slice A4 (L.length + c) c4) (L.length + c) (tcN np p ep L ++ mcN (k : Int) xs) := own_below HR4.out (ext_new W4 _).drew
        obtain ⟨d7, hrow7, hgr7⟩ := app_msgs hro hbn (by omega) (Nat.le_trans hzV4 (by simp))
        obtain ⟨g7, c7, hv7⟩ := ownsRow_succ hrow7
        rw [hv7] at hrow7
        generalize hW7 : appW Tryz.prog (W4.alloc (.cells oa 57)).drew 39 39 (.slice A4 (L.length + c) c4) (.slice (some ⟨W4.heap.size, 0, none⟩) 1 1) = W7 at hrow7 hgr7
        have d7' : AppOK Tryz.prog (W4.drew.alloc (.cells oa 57)) 39 39 (.slice A4 (L.length + c) c4) (.slice (some ⟨W4.heap.size, 0, none⟩) 1 1) := d7
        have hv7' : appV Tryz.prog (W4.drew.alloc (.cells oa 57)) 39 39 (.slice A4 (L.length + c) c4) (.slice (some ⟨W4.heap.size, 0, none⟩) 1 1) = .slice (some ⟨g7, 0, none⟩) (L.length + c + 1) c7 := hv7
        have hW7' : appW Tryz.prog (W4.drew.alloc (.cells oa 57)) 39 39 (.slice A4 (L.length + c) c4) (.slice (some ⟨W4.heap.size, 0, none⟩) 1 1) = W7 := hW7
        have hE7 : Below V.heap.size V W7 := ((HE4.out.alloc hzV4 (.cells oa 57)).drew).grown hgr7 (Nat.le_trans hzV4 (by simp)) (fun j e => (HR4.out.lt j e).1)
        have HXR7 := Lib.hid (fun (i : Nat) (x : XT) (h : xs[i]? = some x) => ((HXR4.out i x h).ext (ext_new W4 (.cells oa 57)).drew).grownT hgr7 hro (by decide))
        have HT7 := Lib.hid (HT4.out.keep fun r x h => (h.ext (ext_new W4 (.cells oa 57)).drew).grownT hgr7 hro (by decide))
        have HE7 := Lib.hid hE7
        have HR7 := Lib.hid hrow7
        have HOA := Lib.hid hoa
        unfold msgBN at hoa
        rw [hoa] at d7 hv7 hW7 d7' hv7' hW7' d6 e6 e5
        have HTm := Lib.hid (fun (W : World) (h : W.cell? ⟨gs, 2, none⟩ = some (.slice (some ⟨gp', 0, none⟩) (np + 1) cp')) => show Calls Tryz.prog 14 #[.pointer (some ⟨gs, 0, none⟩)] W fun e w' => e = .returned (.int .i64 (np : Int)) ∧ W = w' by
          have h9 := srvTime gs (np + 1) cp' _ (by omega) W h
          rwa [show (((np + 1 : Nat) : Int) - 1) = (np : Int) by omega] at h9)
        clear hoa hbn hro hrow7 hgr7 hE7
        go_upto_region 11 with (fail)
        go_region_with (go_at_call 14; refine (HTm.out _ ?_).mono ?_; (exact s2); rintro e w' ⟨rfl, hw'⟩; subst w')
        all_goals
          go_wp2
          go_roundw
          case rel =>
            refine ⟨k + 1, q + 1, L ++ xs.map (fun x => (k, some x)) ++ [(k, none)], by omega, by go_num, ⟨some ⟨g7, 0, none⟩, c7, ?_⟩, ?_, HQ.out.2, ?_, HE7.out⟩
            · simp only [List.length_append, List.length_map, List.length_singleton, HXL.out]
            · have h9 := HR7.out
              rw [tcN_append, tcN_append, tcN_recs, tcN_beat, ← HOA.out]
              simp only [List.length_append, List.length_map, List.length_singleton, HXL.out]
              exact h9
            · rw [take_hit HQ.out.1]
              exact HT7.out.push k xs HXL.out HXR7.out
          case measure => simp [intOf]; omega
      · have hU2 := Lib.hid (HU.out.miss hin)
        rw [if_neg hin] at hlk
        have hget : (getI [] (k : Int)).getD (.bool false) = .bool false := rfl
        rw [hget] at hlk
        go_wp2
        go_roundw
        case rel => exact ⟨k + 1, q, L, by omega, by go_num, ⟨_, _, rfl⟩, HR.out, hU2.out, HT.out, HE.out⟩
        case measure => simp [intOf]; omega
    · obtain rfl : k = 24 := by omega
      have d1 : decide ((24 : Int) < 24) = false := by simp
      have hq := HU.out.all HN.out
      subst hq
      have HT2 := Lib.hid (show TickL ns c (sent + 1) R L wr by have h9 := HT.out; rwa [List.take_length] at h9)
      have HSr := Lib.hid (HSV.out.ext HE.out)
      have s8 : wr.frozen? ⟨gs, 8, none⟩ = false := Blk.frozen HSr.out 8
      clear hlk
      go_wp2
      go_ret
      exact ⟨_, L, gp', cp', rfl, own_mono (own_setboxI HR.out HSr.out (by decide) _) hszV, HT2.out.keep (fun r x h => h.far (p := ⟨gs, 8, none⟩) (h.ne (t := 101) (show Blk wr gs 101 _ from HSr.out) (by decide)) _), Blk.set_ HSr.out 8 _, own_setboxI (own_below HRV.out HE.out) HSr.out (by decide) _, HBK.out,
        (HXV.out.trans (ExtS.of_ext HE.out)).trans ((ExtS.set1 _ _ _ _).mono (fun k h => .inl h))⟩

end Go.Proofs.YtbgfmbmcabekeaaGreatDoor
