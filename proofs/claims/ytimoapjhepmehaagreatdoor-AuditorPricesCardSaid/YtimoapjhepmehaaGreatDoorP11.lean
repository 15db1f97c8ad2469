/-
  Part 11 of 54: the contracts that the proof of the last part uses; each stands under its own head.
-/
import Derived.Test.YtimoapjhepmehaaGreatDoorP6
import Derived.BigQuiet
import Derived.Deep.QuietTactic
import Derived.Test.YtimoapjhepmehaaGreatDoorP5
import Derived.LoopN
import Derived.WalkMore
import Derived.Deep.RegionHeld3
import Derived.Test.YtimoapjhepmehaaGreatDoorP7
import Derived.StillTailTactics
import Derived.BigRegion
set_option linter.unusedSimpArgs false
set_option linter.unusedVariables false
namespace Go.Proofs.YtimoapjhepmehaaGreatDoor
section
open Go.RowKit
attribute [local go_sem ↓] Go.wp_at_zero Go.wp_at_succ
end
section
open Go.RowKit Go.Shelf
end
section
open Go.RowKit
attribute [local go_sem ↓] Go.wp_at_zero Go.wp_at_succ
end
section
open Go.RowKit
attribute [local go_sem ↓] Go.wp_at_zero Go.wp_at_succ
end
section
open Go.RowKit
attribute [local go_sem ↓] Go.wp_at_zero Go.wp_at_succ
theorem keepC1 {X W W':World} {p:Addr} {u:Value} (h:W.cell? p=some u∧Below X.heap.size X W) (hb:Below W.heap.size W W'):W'.cell? p=some u∧Below X.heap.size X W':=⟨cell_ext h.1 hb,ext_call h.2 hb⟩
theorem keepC1B {X W:World} {p:Addr} {u:Value} (h:W.cell? p=some u∧Below X.heap.size X W):Below X.heap.size X W:=h.2
theorem keepC4 {X W W':World} {p q r s:Addr} {u v x y:Value} (h:W.cell? p=some u∧W.cell? q=some v∧W.cell? r=some x∧W.cell? s=some y∧Below X.heap.size X W) (hb:Below W.heap.size W W') :
    W'.cell? p=some u∧W'.cell? q=some v∧W'.cell? r=some x∧W'.cell? s=some y∧Below X.heap.size X W':=⟨cell_ext h.1 hb,cell_ext h.2.1 hb,cell_ext h.2.2.1 hb,cell_ext h.2.2.2.1 hb,ext_call h.2.2.2.2 hb⟩
theorem keepC4B {X W:World} {p q r s:Addr} {u v x y:Value} (h:W.cell? p=some u∧W.cell? q=some v∧W.cell? r=some x∧W.cell? s=some y∧Below X.heap.size X W):Below X.heap.size X W:=h.2.2.2.2
theorem blk_set9 {W:World} {g:Nat} {ty:TypeId} {a0 a1 a2 a3 a4 a5 a6 a7 a8 u0 u1 u2 u3 u4 u5 u6 u7 u8:Value} (h:Blk W g ty #[a0,a1,a2,a3,a4,a5,a6,a7,a8]):Blk (((((((((W.setCell ⟨g,0,none⟩ u0).setCell ⟨g,1,none⟩ u1).setCell ⟨g,2,none⟩ u2).setCell ⟨g,3,none⟩ u3).setCell ⟨g,4,none⟩ u4).setCell ⟨g,5,none⟩ u5).setCell ⟨g,6,none⟩ u6).setCell ⟨g,7,none⟩ u7).setCell ⟨g,8,none⟩ u8) g ty #[u0,u1,u2,u3,u4,u5,u6,u7,u8]:=by
  have h9:=((((((((h.set_ 0 u0).set_ 1 u1).set_ 2 u2).set_ 3 u3).set_ 4 u4).set_ 5 u5).set_ 6 u6).set_ 7 u7).set_ 8 u8
  simpa using h9
theorem ext_set9 {w W:World} {g:Nat} {u0 u1 u2 u3 u4 u5 u6 u7 u8:Value} (h:Below w.heap.size w W) (hg:w.heap.size≤g):Below w.heap.size w (((((((((W.setCell ⟨g,0,none⟩ u0).setCell ⟨g,1,none⟩ u1).setCell ⟨g,2,none⟩ u2).setCell ⟨g,3,none⟩ u3).setCell ⟨g,4,none⟩ u4).setCell ⟨g,5,none⟩ u5).setCell ⟨g,6,none⟩ u6).setCell ⟨g,7,none⟩ u7).setCell ⟨g,8,none⟩ u8):=ext_set (ext_set (ext_set (ext_set (ext_set (ext_set (ext_set (ext_set (ext_set h hg _) hg _) hg _) hg _) hg _) hg _) hg _) hg _) hg _
theorem heap_set9 {W:World} {g k:Nat} {u0 u1 u2 u3 u4 u5 u6 u7 u8:Value} (h:k≠g):(((((((((W.setCell ⟨g,0,none⟩ u0).setCell ⟨g,1,none⟩ u1).setCell ⟨g,2,none⟩ u2).setCell ⟨g,3,none⟩ u3).setCell ⟨g,4,none⟩ u4).setCell ⟨g,5,none⟩ u5).setCell ⟨g,6,none⟩ u6).setCell ⟨g,7,none⟩ u7).setCell ⟨g,8,none⟩ u8).heap[k]? = W.heap[k]? := by
  rw [Below.heap_setCell _ _ _ _ h,Below.heap_setCell _ _ _ _ h,Below.heap_setCell _ _ _ _ h,Below.heap_setCell _ _ _ _ h,Below.heap_setCell _ _ _ _ h,Below.heap_setCell _ _ _ _ h,Below.heap_setCell _ _ _ _ h,Below.heap_setCell _ _ _ _ h,Below.heap_setCell _ _ _ _ h]
theorem strs_slice' {S:Nat→Prop} {w:World} {v:Value} {l:List ByteArray} (h:Strs S w v l):∃ A n c,v=.slice A n c:=by
  obtain ⟨A,c,rfl,_⟩:=h
  exact ⟨_,_,_,rfl⟩
end
section
open Go.RowKit
attribute [local go_sem ↓] Go.wp_at_zero Go.wp_at_succ
end
section
open Go.RowKit
attribute [local go_sem ↓] Go.wp_at_zero Go.wp_at_succ
end
section
open Go.RowKit
attribute [local go_sem ↓] Go.wp_at_zero Go.wp_at_succ
end
section
open Go.RowKit
attribute [local go_sem ↓] Go.wp_at_zero Go.wp_at_succ
end
section
open Go.RowKit Go.Shelf
@[local go_sem] theorem st_func {a:Addr} {m:Mode} {P:Program} {w:World} (fn:Fn) (first captured:Array Value):(store a (.func fn first captured) m).run P w=stored P w a (.func fn first captured) m:=run_store P w a _ m rfl
end
section
open Go.RowKit Go.Shelf
end
section
open Go.RowKit Go.Shelf
end
section
open Go.RowKit Go.Shelf
end
section
open Go.RowKit
def lenS:Value→Nat
  | .slice _ n _=>n
  | _=>0
theorem Strs.takeS {S:Nat→Prop} {w:World} {b off n c:Nat} {l:List ByteArray} (h:Strs S w (.slice (some ⟨b,off,none⟩) n c) l) (k:Nat) (hk:k≤n):Strs S w (.slice (some ⟨b,off,none⟩) k c) (l.take k):=by
  obtain ⟨A,c',hA,hc,h2⟩:=h
  injection hA with hA hn hc'
  subst hA hc' hn
  have hl:(l.take k).length=k:=by rw [List.length_take];omega
  refine ⟨_,_,by rw [hl],by omega,fun h0=>?_⟩
  obtain ⟨b',off',hb,hS,h3⟩:=h2 (by omega)
  refine ⟨b',off',hb,hS,fun j x hj=>h3 j x ?_⟩
  rw [List.getElem?_take] at hj
  split at hj
  · exact hj
  · cases hj
theorem Strs.dropS {S:Nat→Prop} {w:World} {b off n c:Nat} {l:List ByteArray} (h:Strs S w (.slice (some ⟨b,off,none⟩) n c) l) (k:Nat) (hk:k≤n):Strs S w (.slice (some ⟨b,off+k,none⟩) (n-k) (c-k)) (l.drop k):=by
  obtain ⟨A,c',hA,hc,h2⟩:=h
  injection hA with hA hn hc'
  subst hA hc' hn
  have hl:(l.drop k).length=l.length-k:=by rw [List.length_drop]
  refine ⟨_,_,by rw [hl],by omega,fun h0=>?_⟩
  obtain ⟨b',off',hb,hS,h3⟩:=h2 (by omega)
  injection hb with hb
  injection hb with hb1 hb2 _
  subst hb1 hb2
  refine ⟨b,off+k,rfl,hS,fun j x hj=>?_⟩
  rw [List.getElem?_drop] at hj
  rw [Nat.add_assoc]
  exact h3 _ _ hj
theorem Strs.own {S:Nat→Prop} {w:World} {v:Value} {l:List ByteArray} (h:Strs S w v l) (h0:0<l.length):∃ b off c,v=.slice (some ⟨b,off,none⟩) l.length c∧l.length≤c:=by
  obtain ⟨A,c,rfl,hc,h2⟩:=h
  obtain ⟨b,off,rfl,_⟩:=h2 h0
  exact ⟨b,off,c,rfl,hc⟩
theorem Strs.ownGrown {S:Nat→Prop} {w w':World} {v x:Value} {l:List ByteArray} {B:Nat} (h:Strs S w v l) (hg:w.grownBy w' x.ownBlock) (hS:∀ b,S b→b<B) (hx:∀ g,x.ownBlock=some g→B≤g):Strs S w' v l:=
  h.keep fun b hb hlt=>hg.block b hlt fun e=>by
    have h1:=hS b hb
    have h2:=hx b e.symm
    omega
def wayL:Nat→List ByteArray→Nat→List (ByteArray × Bool)
  | 0,_,_=>[]
  | f+1,l,i=>if l.length≤1 then [] else
    if i<leftF l.length then (rootF (l.drop (leftF l.length)),false)::wayL f (l.take (leftF l.length)) i
    else (rootF (l.take (leftF l.length)),true)::wayL f (l.drop (leftF l.length)) (i-leftF l.length)
def joinW (x:ByteArray × Bool) (s:ByteArray):ByteArray:=if x.2 then nodeF x.1 s else nodeF s x.1
theorem wayL_root:∀ (f:Nat) (l:List ByteArray) (i:Nat) (s:ByteArray),l.length≤f→l.length≤1000→l[i]? = some s→(wayL f l i).foldr joinW (leafF s)=rootF l
  | 0,l,i,s,hf,_,hs=>by
    have:=(List.getElem?_eq_some_iff.1 hs).1
    omega
  | f + 1, l, i, s, hf, h17, hs => by
    have hi:=(List.getElem?_eq_some_iff.1 hs).1
    unfold wayL
    by_cases h1:l.length≤1
    · rw [if_pos h1]
      have h0:i=0:=by omega
      subst h0
      obtain ⟨a,rfl⟩:=List.length_eq_one_iff.1 (show l.length=1 by omega)
      have hs2:a=s:=by simpa using hs
      rw [List.foldr_nil,← hs2]
      exact (rootF_1 a).symm
    · have hb:=leftF_bounds l.length (by omega) (by omega)
      rw [if_neg h1,rootF_split l (by omega) (by omega)]
      by_cases hk:i<leftF l.length
      · rw [if_pos hk,List.foldr_cons,wayL_root f (l.take (leftF l.length)) i s (by rw [List.length_take];omega) (by rw [List.length_take];omega) (by rw [List.getElem?_take,if_pos hk];exact hs)]
        rfl
      · rw [if_neg hk,List.foldr_cons,wayL_root f (l.drop (leftF l.length)) (i-leftF l.length) s (by rw [List.length_drop];omega) (by rw [List.length_drop];omega) (by rw [List.getElem?_drop,show leftF l.length+(i-leftF l.length)=i by omega];exact hs)]
        rfl
def extW:Nat→List ByteArray→Nat→List (ByteArray × Bool)
  | 0,_,_=>[]
  | f+1,l,m=>if l.length≤m then [] else
    if leftF l.length<m then (rootF (l.take (leftF l.length)),true)::extW f (l.drop (leftF l.length)) (m-leftF l.length)
    else (rootF (l.drop (leftF l.length)),false)::extW f (l.take (leftF l.length)) m
def extEnd:Nat→List ByteArray→Nat→List ByteArray
  | 0,l,_=>l
  | f+1,l,m=>if l.length≤m then l else
    if leftF l.length<m then extEnd f (l.drop (leftF l.length)) (m-leftF l.length)
    else extEnd f (l.take (leftF l.length)) m
def stpF (x:ByteArray × Bool) (s:ByteArray):ByteArray:=if x.2 then nodeF x.1 s else s
theorem ext_laws:∀ (f:Nat) (l:List ByteArray) (m:Nat),l.length≤f→l.length≤1000→1≤m→m≤l.length →
    (extW f l m).foldr joinW (rootF (extEnd f l m))=rootF l∧(extW f l m).foldr stpF (rootF (extEnd f l m))=rootF (l.take m)∧((extW f l m).all (fun x => !x.2)=true→extEnd f l m=l.take m)
  | 0,l,m,hf,_,h1,hm=>by omega
  | f + 1, l, m, hf, h17, h1, hm => by
    unfold extW extEnd
    by_cases hl:l.length≤m
    · rw [if_pos hl,if_pos hl,List.take_of_length_le hl]
      exact ⟨rfl,rfl,fun _=>rfl⟩
    · have hb:=leftF_bounds l.length (by omega) (by omega)
      rw [if_neg hl,if_neg hl,rootF_split l (by omega) (by omega)]
      by_cases hk:leftF l.length<m
      · rw [if_pos hk,if_pos hk,List.foldr_cons,List.foldr_cons]
        have ih:=ext_laws f (l.drop (leftF l.length)) (m-leftF l.length) (by rw [List.length_drop];omega) (by rw [List.length_drop];omega) (by omega) (by rw [List.length_drop];omega)
        rw [ih.1,ih.2.1]
        refine ⟨rfl,?_,fun h=>by simp at h⟩
        have hlm:(l.take m).length=m:=by rw [List.length_take];omega
        have hls:=leftF_same l.length (by omega) m (by omega) (by omega) hk hm
        rw [rootF_split (l.take m) (by omega) (by omega),hlm,hls,List.take_take,Nat.min_eq_left (by omega),List.drop_take]
        rfl
      · rw [if_neg hk,if_neg hk,List.foldr_cons,List.foldr_cons]
        have ih:=ext_laws f (l.take (leftF l.length)) m (by rw [List.length_take];omega) (by rw [List.length_take];omega) h1 (by rw [List.length_take];omega)
        rw [ih.1,ih.2.1]
        refine ⟨rfl,?_,fun h=>?_⟩
        · show rootF _=_
          rw [List.take_take,Nat.min_eq_left (by omega)]
        · have h2:=ih.2.2 (by simpa using h)
          rw [h2,List.take_take,Nat.min_eq_left (by omega)]
end
end Go.Proofs.YtimoapjhepmehaaGreatDoor
