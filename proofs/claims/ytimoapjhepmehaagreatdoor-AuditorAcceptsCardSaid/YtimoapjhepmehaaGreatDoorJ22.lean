/- Part 22: contracts that the last part uses. -/
import Derived.Test.YtimoapjhepmehaaGreatDoorJ5
import Derived.BigQuiet
import Derived.Deep.QuietTactic
set_option linter.unusedSimpArgs false
set_option linter.unusedVariables false
namespace Go.Proofs.YtimoapjhepmehaaGreatDoor
open Go renaming World->I,Value->U
section
open Go.RowKit Go.Shelf
section
variable {P:Program} {ops:Array Oper} {Q:Exit->Act->I->Prop} {md:Region.Mode} {F G:I->Prop} {st:List Nat}
theorem WL(i:Nat)(d:Option Tmp){oi:Oper}{v:U}{fuel:Nat}{listed:Array Bool}{a:Act}{w:I}(hi:ops[i]? = some oi)(hd:oi.dst=d)(hno:st.contains i=false)
  (hs:Region.noSelect ops=true) (hf:Region.free md ops listed i=true) (hr:(Region.ready md ops listed).contains i=true) (hw:P3 md ops st i=true) (hc:clr st listed=true)
  (hQ:∀ c a w,Q (.panic c) (a.put d v) w->Q (.panic c) a w) (hy:YieldsIf P ops G oi v a) (hF:F w) (hG:G w)
  (h:Ce P md ops Q F G st fuel (listed.setIfInBounds i true) (a.put d v) w):Ce P md ops Q F G st (fuel+1) listed a w:=by
 subst hd;exact Mz i hi hno hs hf hr hw hc hQ hy hF hG h
theorem Fm(i:Nat)(d:Option Tmp){oi:Oper}{v:U}{fuel:Nat}{listed:Array Bool}{a:Act}{w:I}(hi:ops[i]? = some oi)(hd:oi.dst=d)(hno:st.contains i=false)
  (hs:Region.noSelect ops=true) (hf:Region.free md ops listed i=true) (hr:(Region.ready md ops listed).contains i=true)
  (hQ:∀ c a w,Q (.panic c) (a.put d v) w->Q (.panic c) a w) (hy:YieldsIf P ops F oi v a) (hF:F w) (hG:clr st listed=true->G w)
  (h:Ce P md ops Q F G st fuel (listed.setIfInBounds i true) (a.put d v) w):Ce P md ops Q F G st (fuel+1) listed a w:=by
 subst hd;exact Az i hi hno hs hf hr hQ hy hF hG h
end
structure DZ (X:I) where
 W:I
 h:Below X.heap.size X W
instance (X:I):Inhabited (DZ X):=⟨⟨X,AF X⟩⟩
theorem BW{P:Program}{id:Nat}{Q:Exit->Act->I->Prop}{a:Act}{w:I}{l:List Oper}(hm:P.follows .mixedOrders=true)(hB:Region.lexB .any l.toArray=true)
  (h:wpQuiet P l.toArray (fun w'=>∃ p:DZ w,w'=p.W) (fun a'=>∀ w',(∃ p:DZ w,w'=p.W)->Q .normal a' w') l a):(Code.region id l.toArray true).wp P Q a w:=
 wp_region_quiet (C:=fun w'=>∃ p:DZ w,w'=p.W) hm hB ⟨⟨w.drew,(AF w).drew⟩,rfl⟩ (by simpa using h)
theorem Calls.quietB{P:Program}{f:FuncId}{args:Array U}{w:I}{p:DZ w}{v:U}(h:Calls P f args p.W fun e w'=>e=.returned v/\Below p.W.heap.size p.W w'):Calls P f args p.W fun e w''=>e=.returned v/\∃ q:DZ w,w''=q.W:=
 h.mono fun _ w'' ⟨he,hb⟩=>⟨he,⟨w'',AA p.h hb⟩,rfl⟩
theorem DZ.cell{X:I}{a:Addr}{v:U}(h:X.cell? a=some v)(p:DZ X):p.W.cell? a=some v:=AG h p.h
end
section
open Go.RowKit Go.Shelf
section
variable {P:Program} {ops:Array Oper} {Q:Exit->Act->I->Prop} {md:Region.Mode} {G G':I->Prop} {st:List Nat} {fuel:Nat} {listed:Array Bool} {a:Act} {w:I}
def wpQ(P:Program)(ops:Array Oper)(Q:Exit->Act->I->Prop)(G:I->Prop)(st:List Nat)(fuel:Nat)(listed:Array Bool)(a:Act)(w:I):Prop:=Ce P .any ops Q (fun _=>True) G st fuel listed a w
theorem QG(hG:∀ w,G' w->G w):∀(fuel:Nat) (listed:Array Bool) (a:Act) (w:I),wpQ P ops Q G' st fuel listed a w->wpQ P ops Q G st fuel listed a w
 | 0,_,_,_,h=>h
 | fuel+1,_,_,_,h=>⟨h.1,fun i hi=>wpOp_mono (fun _ _ h'=>⟨⟨trivial,fun hc=>hG _ (h'.1.2 hc)⟩,QG hG fuel _ _ _ h'.2⟩) (h.2 i hi)⟩
def okN(ops:Array Oper)(st:List Nat)(listed:Array Bool)(i:Nat):Bool := !st.contains i && Region.noSelect ops && Region.free .any ops listed i && (Region.ready .any ops listed).contains i
theorem AM(i:Nat)(d:Option Tmp){oi:Oper}{v:U}(hi:ops[i]? = some oi)(hd:oi.dst=d)(hk:okN ops st listed i=true)(hQ:∀ c a w,Q (.panic c) (a.put d v) w->Q (.panic c) a w)(hG:clr st listed=true->G w)(hy:YieldsIf P ops (fun _=>True) oi v a)
  (h:wpQ P ops Q G st fuel (listed.setIfInBounds i true) (a.put d v) w):wpQ P ops Q G st (fuel+1) listed a w:=by
 simp only[okN,Bool.and_eq_true,Bool.not_eq_true']at hk;exact Fm i d hi hd hk.1.1.1 hk.1.1.2 hk.1.2 hk.2 hQ hy trivial hG h
theorem CI(i:Nat)(d:Option Tmp){oi:Oper}{v:U}(hi:ops[i]? = some oi)(hd:oi.dst=d)(hk:(okN ops st listed i && P3 .any ops st i && clr st listed)=true)(hQ:∀ c a w,Q (.panic c) (a.put d v) w->Q (.panic c) a w)(hG:G w)(hy:YieldsIf P ops G oi v a)
  (h:wpQ P ops Q G st fuel (listed.setIfInBounds i true) (a.put d v) w):wpQ P ops Q G st (fuel+1) listed a w:=by
 simp only[okN,Bool.and_eq_true,Bool.not_eq_true']at hk;exact WL i d hi hd hk.1.1.1.1.1 hk.1.1.1.1.2 hk.1.1.1.2 hk.1.1.2 hk.1.2 hk.2 hQ hy trivial hG h
theorem Ch(rs:List Nat)(hr:Region.ready .any ops listed=rs)(hne:rs≠[])
  (h:∀ i ∈ rs,wpOp P ops Q i (fun a' w'=>(clr st (listed.setIfInBounds i true)=true->G w')/\wpQ P ops Q G st fuel (listed.setIfInBounds i true) a' w') a w):wpQ P ops Q G st (fuel+1) listed a w:=
 B9 rs hr hne fun i hi=>wpOp_mono (fun _ _ h'=>⟨⟨trivial,h'.1⟩,h'.2⟩) (h i hi)
theorem EF(hr:Region.ready .any ops listed=[])(h:Q .normal a w):∀ fuel,wpQ P ops Q G st fuel listed a w:=GE hr h
theorem DM{id:Nat}(G:I->Prop)(st:List Nat)(hm:P.follows .mixedOrders=true)(h:wpQ P ops Q G st ops.size (Array.replicate ops.size false) a w.drew):(Code.region id ops true).wp P Q a w:=
 Dg (fun _=>True) G st hm h
end
section
variable {W:I} {g:Nat} {t:TypeId} {a b c d e f i j k l:U}
theorem Blk.all3(h:Blk W g t #[a,b,c]):W.cell? ⟨g,0,none⟩=some a/\W.cell? ⟨g,1,none⟩=some b/\W.cell? ⟨g,2,none⟩=some c:=⟨h.cell 0,h.cell 1,h.cell 2⟩
theorem Blk.all5(h:Blk W g t #[a,b,c,d,e]):W.cell? ⟨g,0,none⟩=some a/\W.cell? ⟨g,1,none⟩=some b/\W.cell? ⟨g,2,none⟩=some c/\W.cell? ⟨g,3,none⟩=some d/\W.cell? ⟨g,4,none⟩=some e:=⟨h.cell 0,h.cell 1,h.cell 2,h.cell 3,h.cell 4⟩
theorem Blk.all7(h:Blk W g t #[a,b,c,d,e,f,i]):W.cell? ⟨g,0,none⟩=some a/\W.cell? ⟨g,1,none⟩=some b/\W.cell? ⟨g,2,none⟩=some c/\W.cell? ⟨g,3,none⟩=some d/\W.cell? ⟨g,4,none⟩=some e/\W.cell? ⟨g,5,none⟩=some f/\W.cell? ⟨g,6,none⟩=some i:=⟨h.cell 0,h.cell 1,h.cell 2,h.cell 3,h.cell 4,h.cell 5,h.cell 6⟩
theorem Blk.all10(h:Blk W g t #[a,b,c,d,e,f,i,j,k,l]):W.cell? ⟨g,0,none⟩=some a/\W.cell? ⟨g,1,none⟩=some b/\W.cell? ⟨g,2,none⟩=some c/\W.cell? ⟨g,3,none⟩=some d/\W.cell? ⟨g,4,none⟩=some e/\W.cell? ⟨g,5,none⟩=some f/\W.cell? ⟨g,6,none⟩=some i/\W.cell? ⟨g,7,none⟩=some j/\W.cell? ⟨g,8,none⟩=some k/\W.cell? ⟨g,9,none⟩=some l:=⟨h.cell 0,h.cell 1,h.cell 2,h.cell 3,h.cell 4,h.cell 5,h.cell 6,h.cell 7,h.cell 8,h.cell 9⟩
end
end
end Go.Proofs.YtimoapjhepmehaaGreatDoor
