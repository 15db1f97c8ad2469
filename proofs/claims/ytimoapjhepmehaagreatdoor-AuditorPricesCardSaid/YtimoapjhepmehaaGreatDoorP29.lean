/-
  A region that draws its order: the laws of Reg with the slot that is written told.
-/
import Derived.Test.YtimoapjhepmehaaGreatDoorP5
import Derived.BigQuiet
import Derived.Deep.QuietTactic
set_option linter.unusedSimpArgs false
set_option linter.unusedVariables false
namespace Go.Proofs.YtimoapjhepmehaaGreatDoor
open Go.RowKit Go.Shelf
section
variable {P:Program} {ops:Array Oper} {Q:Exit→Act→World→Prop} {md:Region.Mode} {F G:World→Prop} {st:List Nat}
theorem takeGd (i:Nat) (d:Option Tmp) {oi:Oper} {v:Value} {fuel:Nat} {listed:Array Bool} {a:Act} {w:World} (hi:ops[i]? = some oi) (hd:oi.dst=d) (hno:st.contains i=false)
    (hs:Region.noSelect ops=true) (hf:Region.free md ops listed i=true) (hr:(Region.ready md ops listed).contains i=true) (hw:waitB md ops st i=true) (hc:clr st listed=true)
    (hQ:∀ c a w,Q (.panic c) (a.put d v) w→Q (.panic c) a w) (hy:YieldsIf P ops G oi v a) (hF:F w) (hG:G w)
    (h:wpAnyL P md ops Q F G st fuel (listed.setIfInBounds i true) (a.put d v) w):wpAnyL P md ops Q F G st (fuel+1) listed a w:=by
  subst hd
  exact takeG i hi hno hs hf hr hw hc hQ hy hF hG h
theorem takeFd (i:Nat) (d:Option Tmp) {oi:Oper} {v:Value} {fuel:Nat} {listed:Array Bool} {a:Act} {w:World} (hi:ops[i]? = some oi) (hd:oi.dst=d) (hno:st.contains i=false)
    (hs:Region.noSelect ops=true) (hf:Region.free md ops listed i=true) (hr:(Region.ready md ops listed).contains i=true)
    (hQ:∀ c a w,Q (.panic c) (a.put d v) w→Q (.panic c) a w) (hy:YieldsIf P ops F oi v a) (hF:F w) (hG:clr st listed=true→G w)
    (h:wpAnyL P md ops Q F G st fuel (listed.setIfInBounds i true) (a.put d v) w):wpAnyL P md ops Q F G st (fuel+1) listed a w:=by
  subst hd
  exact takeF i hi hno hs hf hr hQ hy hF hG h
end
structure BlwW (X:World) where
  W:World
  h:Below X.heap.size X W
instance (X:World):Inhabited (BlwW X):=⟨⟨X,ext_refl X⟩⟩
theorem wp_region_quietB {P:Program} {id:Nat} {Q:Exit→Act→World→Prop} {a:Act} {w:World} {l:List Oper} (hm:P.follows .mixedOrders=true) (hB:Region.lexB .any l.toArray=true)
    (h:wpQuiet P l.toArray (fun w'=>∃ p:BlwW w,w'=p.W) (fun a'=>∀ w',(∃ p:BlwW w,w'=p.W)→Q .normal a' w') l a):(Code.region id l.toArray true).wp P Q a w:=
  wp_region_quiet (C:=fun w'=>∃ p:BlwW w,w'=p.W) hm hB ⟨⟨w.drew,(ext_refl w).drew⟩,rfl⟩ (by simpa using h)
theorem Calls.quietB {P:Program} {f:FuncId} {args:Array Value} {w:World} {p:BlwW w} {v:Value} (h:Calls P f args p.W fun e w'=>e=.returned v∧Below p.W.heap.size p.W w'):Calls P f args p.W fun e w''=>e=.returned v∧∃ q:BlwW w,w''=q.W:=
  h.mono fun _ w'' ⟨he,hb⟩=>⟨he,⟨w'',ext_call p.h hb⟩,rfl⟩
theorem BlwW.cell {X:World} {a:Addr} {v:Value} (h:X.cell? a=some v) (p:BlwW X):p.W.cell? a=some v:=cell_ext h p.h
end Go.Proofs.YtimoapjhepmehaaGreatDoor
