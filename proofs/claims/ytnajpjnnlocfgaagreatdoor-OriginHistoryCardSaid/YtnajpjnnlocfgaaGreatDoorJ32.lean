/-
  the plain law of digest: the way from an entry to the root; the way of an extension.
-/
import Derived.Test.YtnajpjnnlocfgaaGreatDoorJ31
set_option linter.unusedSimpArgs false
set_option linter.unusedVariables false
namespace Go.Proofs.YtnajpjnnlocfgaaGreatDoor
open Go.RowKit
def lenS:Value→Nat
  | .slice _ n _=>n
  | _=>0
theorem Strs.takeS {S:Nat→Prop} {w:World} {b off n c:Nat} {l:List ByteArray} (h:Strs S w (.slice (some ⟨b,off,none⟩) n c) l) (k:Nat) (hk:k≤n):Strs S w (.slice (some ⟨b,off,none⟩) k c) (l.take k):=by
  obtain ⟨A,c',hA,hc,h2⟩:=h
  injection hA with hA hn hc'
  subst hA hc' hn
  have hl:(l.take k).length=k:=by rw [List.length_take];omega
  refine ⟨_,_,by rw [hl],by omega,fun h0=>?_⟩
  obtain ⟨b',off',hb,hS,h3⟩:=h2 (by omega)
  refine ⟨b',off',hb,hS,fun j x hj=>h3 j x ?_⟩
  rw [List.getElem?_take] at hj
  split at hj
  · exact hj
  · cases hj
theorem Strs.dropS {S:Nat→Prop} {w:World} {b off n c:Nat} {l:List ByteArray} (h:Strs S w (.slice (some ⟨b,off,none⟩) n c) l) (k:Nat) (hk:k≤n):Strs S w (.slice (some ⟨b,off+k,none⟩) (n-k) (c-k)) (l.drop k):=by
  obtain ⟨A,c',hA,hc,h2⟩:=h
  injection hA with hA hn hc'
  subst hA hc' hn
  have hl:(l.drop k).length=l.length-k:=by rw [List.length_drop]
  refine ⟨_,_,by rw [hl],by omega,fun h0=>?_⟩
  obtain ⟨b',off',hb,hS,h3⟩:=h2 (by omega)
  injection hb with hb
  injection hb with hb1 hb2 _
  subst hb1 hb2
  refine ⟨b,off+k,rfl,hS,fun j x hj=>?_⟩
  rw [List.getElem?_drop] at hj
  rw [Nat.add_assoc]
  exact h3 _ _ hj
theorem Strs.own {S:Nat→Prop} {w:World} {v:Value} {l:List ByteArray} (h:Strs S w v l) (h0:0<l.length):∃ b off c,v=.slice (some ⟨b,off,none⟩) l.length c∧l.length≤c:=by
  obtain ⟨A,c,rfl,hc,h2⟩:=h
  obtain ⟨b,off,rfl,_⟩:=h2 h0
  exact ⟨b,off,c,rfl,hc⟩
theorem Strs.ownGrown {S:Nat→Prop} {w w':World} {v x:Value} {l:List ByteArray} {B:Nat} (h:Strs S w v l) (hg:w.grownBy w' x.ownBlock) (hS:∀ b,S b→b<B) (hx:∀ g,x.ownBlock=some g→B≤g):Strs S w' v l:=
  h.keep fun b hb hlt=>hg.block b hlt fun e=>by
    have h1:=hS b hb
    have h2:=hx b e.symm
    omega
def wayL:Nat→List ByteArray→Nat→List (ByteArray × Bool)
  | 0,_,_=>[]
  | f+1,l,i=>if l.length≤1 then [] else
    if i<leftF l.length then (rootF (l.drop (leftF l.length)),false)::wayL f (l.take (leftF l.length)) i
    else (rootF (l.take (leftF l.length)),true)::wayL f (l.drop (leftF l.length)) (i-leftF l.length)
def joinW (x:ByteArray × Bool) (s:ByteArray):ByteArray:=if x.2 then nodeF x.1 s else nodeF s x.1
theorem wayL_root:∀ (f:Nat) (l:List ByteArray) (i:Nat) (s:ByteArray),l.length≤f→l.length≤1000→l[i]? = some s→(wayL f l i).foldr joinW (leafF s)=rootF l
  | 0,l,i,s,hf,_,hs=>by
    have:=(List.getElem?_eq_some_iff.1 hs).1
    omega
  | f + 1, l, i, s, hf, h17, hs => by
    have hi:=(List.getElem?_eq_some_iff.1 hs).1
    unfold wayL
    by_cases h1:l.length≤1
    · rw [if_pos h1]
      have h0:i=0:=by omega
      subst h0
      obtain ⟨a,rfl⟩:=List.length_eq_one_iff.1 (show l.length=1 by omega)
      have hs2:a=s:=by simpa using hs
      rw [List.foldr_nil,← hs2]
      exact (rootF_1 a).symm
    · have hb:=leftF_bounds l.length (by omega) (by omega)
      rw [if_neg h1,rootF_split l (by omega) (by omega)]
      by_cases hk:i<leftF l.length
      · rw [if_pos hk,List.foldr_cons,wayL_root f (l.take (leftF l.length)) i s (by rw [List.length_take];omega) (by rw [List.length_take];omega) (by rw [List.getElem?_take,if_pos hk];exact hs)]
        rfl
      · rw [if_neg hk,List.foldr_cons,wayL_root f (l.drop (leftF l.length)) (i-leftF l.length) s (by rw [List.length_drop];omega) (by rw [List.length_drop];omega) (by rw [List.getElem?_drop,show leftF l.length+(i-leftF l.length)=i by omega];exact hs)]
        rfl
def extW:Nat→List ByteArray→Nat→List (ByteArray × Bool)
  | 0,_,_=>[]
  | f+1,l,m=>if l.length≤m then [] else
    if leftF l.length<m then (rootF (l.take (leftF l.length)),true)::extW f (l.drop (leftF l.length)) (m-leftF l.length)
    else (rootF (l.drop (leftF l.length)),false)::extW f (l.take (leftF l.length)) m
def extEnd:Nat→List ByteArray→Nat→List ByteArray
  | 0,l,_=>l
  | f+1,l,m=>if l.length≤m then l else
    if leftF l.length<m then extEnd f (l.drop (leftF l.length)) (m-leftF l.length)
    else extEnd f (l.take (leftF l.length)) m
def stpF (x:ByteArray × Bool) (s:ByteArray):ByteArray:=if x.2 then nodeF x.1 s else s
theorem ext_laws:∀ (f:Nat) (l:List ByteArray) (m:Nat),l.length≤f→l.length≤1000→1≤m→m≤l.length →
    (extW f l m).foldr joinW (rootF (extEnd f l m))=rootF l∧(extW f l m).foldr stpF (rootF (extEnd f l m))=rootF (l.take m)∧((extW f l m).all (fun x => !x.2)=true→extEnd f l m=l.take m)
  | 0,l,m,hf,_,h1,hm=>by omega
  | f + 1, l, m, hf, h17, h1, hm => by
    unfold extW extEnd
    by_cases hl:l.length≤m
    · rw [if_pos hl,if_pos hl,List.take_of_length_le hl]
      exact ⟨rfl,rfl,fun _=>rfl⟩
    · have hb:=leftF_bounds l.length (by omega) (by omega)
      rw [if_neg hl,if_neg hl,rootF_split l (by omega) (by omega)]
      by_cases hk:leftF l.length<m
      · rw [if_pos hk,if_pos hk,List.foldr_cons,List.foldr_cons]
        have ih:=ext_laws f (l.drop (leftF l.length)) (m-leftF l.length) (by rw [List.length_drop];omega) (by rw [List.length_drop];omega) (by omega) (by rw [List.length_drop];omega)
        rw [ih.1,ih.2.1]
        refine ⟨rfl,?_,fun h=>by simp at h⟩
        have hlm:(l.take m).length=m:=by rw [List.length_take];omega
        have hls:=leftF_same l.length (by omega) m (by omega) (by omega) hk hm
        rw [rootF_split (l.take m) (by omega) (by omega),hlm,hls,List.take_take,Nat.min_eq_left (by omega),List.drop_take]
        rfl
      · rw [if_neg hk,if_neg hk,List.foldr_cons,List.foldr_cons]
        have ih:=ext_laws f (l.take (leftF l.length)) m (by rw [List.length_take];omega) (by rw [List.length_take];omega) h1 (by rw [List.length_take];omega)
        rw [ih.1,ih.2.1]
        refine ⟨rfl,?_,fun h=>?_⟩
        · show rootF _=_
          rw [List.take_take,Nat.min_eq_left (by omega)]
        · have h2:=ih.2.2 (by simpa using h)
          rw [h2,List.take_take,Nat.min_eq_left (by omega)]
end Go.Proofs.YtnajpjnnlocfgaaGreatDoor
