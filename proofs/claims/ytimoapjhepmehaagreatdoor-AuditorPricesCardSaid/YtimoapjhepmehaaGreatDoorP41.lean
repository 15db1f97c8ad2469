/-
  clones as own rows, kept where a block of another type is written; an answer's cells.
-/
import Derived.Test.YtimoapjhepmehaaGreatDoorP39
import Derived.Test.YtimoapjhepmehaaGreatDoorP40
import Derived.Test.YtimoapjhepmehaaGreatDoorP5
set_option linter.unusedSimpArgs false
set_option linter.unusedVariables false
namespace Go.Proofs.YtimoapjhepmehaaGreatDoor
open Go.RowKit Go.Shelf
theorem recsL_own {w V:World} {B f:Nat} {lv u:Value} {Ls:List (List ChgT)} (hO:RecsO w lv f Ls) (hE:Below w.heap.size w V) (h0:0<Ls.length) (hu:∀ b off c,lv=.slice (some ⟨b,off,none⟩) Ls.length c→V.ownsRow B 75 2 u Ls.length (cellsFrom w b off (Ls.length*2))):RecsL V u f Ls:=by
  obtain ⟨A,c,rfl,hc⟩:=hO
  obtain ⟨b,off,rfl,hcell⟩:=hc h0
  obtain ⟨g,cap,rfl,_,_,hcap,hx⟩:=own_cells (hu b off c rfl) h0
  refine ⟨_,cap,rfl,hcap,fun _=>⟨g,rfl,fun j l hj=>?_⟩⟩
  obtain ⟨h1,x,h2,h3⟩:=hcell j l hj
  have hjl:=(List.getElem?_eq_some_iff.1 hj).1
  refine ⟨hx (j*2) _ ?_,x,hx (j*2+1) _ ?_,h3.ext hE⟩
  · rw [cellsFrom_at (by omega),h1];rfl
  · rw [cellsFrom_at (by omega),← Nat.add_assoc,h2];rfl
theorem cloneRecsO (Ls:List (List ChgT)) (f:Nat) (v:Value) (hl:Ls.length≤1000) (w:World) (hv:RecsO w v f Ls):Calls Tryz.prog 55 #[v] w fun e w'=>∃ u xs,e=.returned u∧w'.ownsRow w.heap.size 75 2 u Ls.length xs∧(0<Ls.length→∀ b off c,v=.slice (some ⟨b,off,none⟩) Ls.length c→xs=cellsFrom w b off (Ls.length*2))∧Below w.heap.size w w':=by
  by_cases h0:0<Ls.length
  · obtain ⟨g,off,c,rfl,hf⟩:=hv.full h0
    refine (cloneRecs g off Ls.length c h0 (by omega) w hf).mono ?_
    rintro e w' ⟨u,rfl,⟨g2,k,rfl,_,_,_,h4,_⟩,hb⟩
    exact ⟨_,_,rfl,h4,fun _ b o c' h=>by injection h with h _ _;injection h with h;injection h with h1 h2;subst h1 h2;rfl,hb⟩
  · have hn:Ls=[]:=List.length_eq_zero_iff.1 (by omega)
    subst hn
    obtain ⟨A,c,rfl,_⟩:=hv
    refine (cloneRecs0 A c w).mono ?_
    rintro e w' ⟨u,rfl,h1,hb⟩
    exact ⟨u,[],rfl,h1,fun h=>absurd h (by simp),hb⟩
theorem cloneRPsO (p:RPT) (g c:Nat) (a b d:Value) (w:World) (hs:RPS (fun _=>True) w p a b d) (hg:∀ k,k<9→w.cell? ⟨g,k,none⟩=(p.nums a b d)[k]?):Calls Tryz.prog 54 #[.slice (some ⟨g,0,none⟩) 1 c] w fun e w'=>∃ u,e=.returned u∧w'.ownsRow w.heap.size 126 9 u 1 (p.nums a b d).toList∧Below w.heap.size w w':=by
  have hf:Full w g 0 (1*9):=fun i hi=>by
    obtain ⟨_,_,rfl,_⟩:=hs.rows
    obtain ⟨_,_,rfl,_⟩:=hs.paths
    obtain ⟨_,_,rfl,_⟩:=hs.roots
    rw [Nat.zero_add,hg i (by omega)]
    have hk:i<9:=by omega
    rcases i with _|_|_|_|_|_|_|_|_|i <;> first|exact ⟨_,rfl,rfl⟩|omega
  have hxs:cellsFrom w g 0 (1*9)=(p.nums a b d).toList:=by
    apply List.ext_getElem?
    intro i
    by_cases hi:i<9
    · rw [cellsFrom_at (by omega),Nat.zero_add,hg i hi]
      rcases i with _|_|_|_|_|_|_|_|_|i <;> first|rfl|omega
    · rw [List.getElem?_eq_none (by rw [cellsFrom_length];omega),List.getElem?_eq_none (by simp [RPT.nums];omega)]
  refine (cloneRPs g 0 1 c (by omega) (by omega) w hf).mono ?_
  rintro e w' ⟨u,rfl,⟨g2,k,rfl,_,_,_,h4,_⟩,hb⟩
  rw [hxs] at h4
  exact ⟨_,rfl,h4,hb⟩
theorem rps_own {V:World} {B:Nat} {u a b d:Value} {p:RPT} (h:V.ownsRow B 126 9 u 1 (p.nums a b d).toList) (hs:RPS (fun _=>True) V p a b d):RPsS (fun _=>True) V u [p]∧(∀ A n c,u=.slice A n c→n≤c):=by
  obtain ⟨g,cap,rfl,_,h2,h3,h4⟩:=own_cells h (by omega)
  refine ⟨⟨_,cap,rfl,fun _=>⟨g,rfl,h2,trivial,fun i q hi=>?_⟩⟩,fun A n c h=>by injection h with _ h5 h6;subst h5 h6;exact h3⟩
  rcases i with _|i
  · obtain rfl:p=q:=by simpa using hi
    refine ⟨a,b,d,hs,fun k hk=>?_⟩
    rw [Nat.zero_mul,Nat.zero_add]
    have h5:((p.nums a b d).toList)[k]? = (p.nums a b d)[k]? := by simp
    have h6:k<(p.nums a b d).toList.length:=by simp [RPT.nums];omega
    rw [← h5,List.getElem?_eq_getElem h6]
    exact h4 k _ (List.getElem?_eq_getElem h6)
  · simp at hi
def ansArr (t k:Int) (u:Value) (val:Int) (fd:Bool) (since until_ base:Int) (rv lv:Value):Array Value:=#[.int .i64 1,.int .i64 t,.int .i64 0,.int .i64 k,.int .i64 k,.int .i64 0,.int .i64 0,u,.int .i64 val,.bool fd,.int .i64 since,.int .i64 until_,.int .i64 base,rv,lv]
end Go.Proofs.YtimoapjhepmehaaGreatDoor
