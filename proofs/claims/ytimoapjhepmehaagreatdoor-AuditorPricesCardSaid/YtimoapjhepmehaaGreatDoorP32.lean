/-
  plain law of range proofs: what Prove returns is complete, and its rows in the range are the state's.
-/
import Derived.Test.YtimoapjhepmehaaGreatDoorP17
import Derived.Test.YtimoapjhepmehaaGreatDoorP18
set_option linter.unusedSimpArgs false
set_option linter.unusedVariables false
namespace Go.Proofs.YtimoapjhepmehaaGreatDoor
open Go.RowKit Go.Shelf
structure CompP (p:RPT) (j:Nat):Prop where
  t:0≤p.t∧p.t≤3
  col:p.j=(j:Int)∧j<4
  lh:p.lo≤p.hi
  n:0≤p.n∧p.n≤2000
  f:0≤p.f∧p.f≤p.n
  len:(p.rows.length:Int)≤p.n-p.f
  zero:p.rows=[]→p.n=0
  ok:∀ r ∈ p.rows,r.ok∧r.t=p.t
  low:∀ (i:Nat) (r:RowT),p.rows[i]? = some r→0<i→p.lo≤r.col j
  high:∀ (i:Nat) (r:RowT),p.rows[i]? = some r→i+1<p.rows.length→r.col j≤p.hi
  asc:∀ (i:Nat) (a b:RowT),p.rows[i]? = some a→p.rows[i+1]? = some b→a.col j<b.col j∨(a.col j=b.col j∧a.k<b.k)
  first:p.f=0∨∃ r,p.rows[0]? = some r∧r.col j<p.lo
  last:p.f+p.rows.length=p.n∨∃ r,p.rows[p.rows.length-1]? = some r∧p.hi<r.col j
def inP (p:RPT) (j:Nat) (r:RowT):Bool:=decide (p.lo≤r.col j) && decide (r.col j≤p.hi)
def rowsP (p:RPT) (j:Nat):List RowT:=p.rows.filter (inP p j)
theorem ordR_lt {rs:List RowT} (ha:Apart rs) {t:Int} {j:Nat} {a b:Nat} {x y:RowT} (hx:(ordR rs t j)[a]? = some x) (hy:(ordR rs t j)[b]? = some y) (hab:a<b):x.col j<y.col j∨(x.col j=y.col j∧x.k<y.k):=by
  obtain ⟨h1,rfl⟩:=List.getElem?_eq_some_iff.1 hx
  obtain ⟨h2,rfl⟩:=List.getElem?_eq_some_iff.1 hy
  have hs:=List.pairwise_iff_getElem.1 (selF_sorted rs t j (-1000000000) 1000000000) a b h1 h2 hab
  rw [befR_iff] at hs
  have m1:=selF_mem.1 (List.getElem_mem h1)
  have m2:=selF_mem.1 (List.getElem_mem h2)
  rcases hs with h|⟨h,h3⟩
  · exact .inl h
  · refine .inr ⟨h,?_⟩
    rcases Int.lt_or_eq_of_le h3 with h4|h4
    · exact h4
    · exfalso
      have he:=ha.eq _ m1.1 _ m2.1 ((hitR_t m1.2).trans (hitR_t m2.2).symm) h4
      have hp:=(selF_perm rs t j (-1000000000) 1000000000).symm.pairwise (R:=fun a b:RowT=>¬ (a.t=b.t∧a.k=b.k)) (List.Pairwise.sublist List.filter_sublist ha) (fun {a b} h e=>h ⟨e.1.symm,e.2.symm⟩)
      have h5:=List.pairwise_iff_getElem.1 hp a b h1 h2 hab
      exact h5 ⟨congrArg RowT.t he,h4⟩
section
variable {L:List RowT} {j:Nat} {lo hi:Int}
theorem fst_low {i:Nat} {r:RowT} (hr:L[i]? = some r) (hi:i<L.findIdx (fun r=>decide (lo≤r.col j))):r.col j<lo:=by
  obtain ⟨h1,rfl⟩:=List.getElem?_eq_some_iff.1 hr
  have h2:=List.not_of_lt_findIdx (p:=fun r:RowT=>decide (lo≤r.col j)) hi
  simp at h2
  exact h2
theorem snd_high {i:Nat} {r:RowT} (hr:L[i]? = some r) (hi':i<L.findIdx (fun r=>decide (hi<r.col j))):r.col j≤hi:=by
  obtain ⟨h1,rfl⟩:=List.getElem?_eq_some_iff.1 hr
  have h2:=List.not_of_lt_findIdx (p:=fun r:RowT=>decide (hi<r.col j)) hi'
  simp at h2
  exact h2
theorem fst_at {r:RowT} (hr:L[L.findIdx (fun r=>decide (lo≤r.col j))]? = some r):lo≤r.col j:=by
  obtain ⟨h1,rfl⟩:=List.getElem?_eq_some_iff.1 hr
  have h2:=List.findIdx_getElem (p:=fun r:RowT=>decide (lo≤r.col j)) (xs:=L) (w:=h1)
  simpa using h2
theorem snd_at {r:RowT} (hr:L[L.findIdx (fun r=>decide (hi<r.col j))]? = some r):hi<r.col j:=by
  obtain ⟨h1,rfl⟩:=List.getElem?_eq_some_iff.1 hr
  have h2:=List.findIdx_getElem (p:=fun r:RowT=>decide (hi<r.col j)) (xs:=L) (w:=h1)
  simpa using h2
theorem fst_le_snd (hlh:lo≤hi):L.findIdx (fun r=>decide (lo≤r.col j))≤L.findIdx (fun r=>decide (hi<r.col j)):=by
  rcases Nat.lt_or_ge (L.findIdx (fun r=>decide (hi<r.col j))) L.length with h|h
  · rcases Nat.lt_or_ge (L.findIdx (fun r=>decide (hi<r.col j))) (L.findIdx (fun r=>decide (lo≤r.col j))) with h1|h1
    · have h2:=snd_at (L:=L) (hi:=hi) (j:=j) (List.getElem?_eq_getElem h)
      have h3:=fst_low (L:=L) (lo:=lo) (j:=j) (List.getElem?_eq_getElem h) h1
      omega
    · exact h1
  · exact Nat.le_trans List.findIdx_le_length h
end
theorem proveF_rowAt {rs:List RowT} {t:Int} {j:Nat} {lo hi:Int} {i:Nat} {r:RowT} (h:(proveF rs t j lo hi).rows[i]? = some r):(ordR rs t j)[fromN rs t j lo+i]? = some r∧fromN rs t j lo+i<toN rs t j hi:=by
  have h1:((ordR rs t j).drop (fromN rs t j lo)).take (toN rs t j hi-fromN rs t j lo)=(proveF rs t j lo hi).rows:=rfl
  rw [← h1,List.getElem?_take] at h
  split at h
  · rw [List.getElem?_drop] at h
    exact ⟨h,by omega⟩
  · cases h
theorem proveF_rowsLen (rs:List RowT) (t:Int) (j:Nat) (lo hi:Int):(proveF rs t j lo hi).rows.length=toN rs t j hi-fromN rs t j lo:=by
  show (((ordR rs t j).drop (fromN rs t j lo)).take (toN rs t j hi-fromN rs t j lo)).length=_
  rw [List.length_take,List.length_drop]
  have:toN rs t j hi≤(ordR rs t j).length:=Nat.min_le_right _ _
  omega
theorem proveF_comp {rs:List RowT} (ha:Apart rs) (hok:∀ r ∈ rs,r.ok) (hl:rs.length≤60) (t:Int) (ht:0≤t∧t≤3) (j:Nat) (hj:j<4) (lo hi:Int) (hlh:lo≤hi):CompP (proveF rs t j lo hi) j:=by
  have hL:(ordR rs t j).length≤60:=Nat.le_trans (selF_length _ _ _ _ _) hl
  have hF:fromN rs t j lo=(ordR rs t j).findIdx (fun r=>decide (lo≤r.col j))-1:=rfl
  have hT:toN rs t j hi=min ((ordR rs t j).findIdx (fun r=>decide (hi<r.col j))+1) (ordR rs t j).length:=rfl
  have hab:=fst_le_snd (L:=ordR rs t j) (j:=j) hlh
  have hal:(ordR rs t j).findIdx (fun r=>decide (lo≤r.col j))≤(ordR rs t j).length:=List.findIdx_le_length
  have hbl:(ordR rs t j).findIdx (fun r=>decide (hi<r.col j))≤(ordR rs t j).length:=List.findIdx_le_length
  have hlen:=proveF_rowsLen rs t j lo hi
  have hlt:=@ordR_lt rs ha t j
  have hmem:∀ (i:Nat) (r:RowT),(ordR rs t j)[i]? = some r→r.ok∧r.t=t:=fun i r h=>by
    have h1:=selF_mem.1 (List.mem_of_getElem? h)
    exact ⟨hok r h1.1,hitR_t h1.2⟩
  have fl:=@fst_low (ordR rs t j) j lo
  have sh:=@snd_high (ordR rs t j) j hi
  have fa:=@fst_at (ordR rs t j) j lo
  have sa:=@snd_at (ordR rs t j) j hi
  have hn:(proveF rs t j lo hi).n=((ordR rs t j).length:Int):=rfl
  have hf:(proveF rs t j lo hi).f=(fromN rs t j lo:Int):=rfl
  have hra:=@proveF_rowAt rs t j lo hi
  have hget:∀ i,i<(proveF rs t j lo hi).rows.length→∃ r,(proveF rs t j lo hi).rows[i]? = some r:=fun i h=>⟨_,List.getElem?_eq_getElem h⟩
  obtain ⟨a,hA⟩:∃ a,a=(ordR rs t j).findIdx (fun r=>decide (lo≤r.col j)):=⟨_,rfl⟩
  obtain ⟨b,hB⟩:∃ b,b=(ordR rs t j).findIdx (fun r=>decide (hi<r.col j)):=⟨_,rfl⟩
  rw [← hA] at hF hab hal fl fa
  rw [← hB] at hT hab hbl sh sa
  refine ⟨ht,⟨rfl,hj⟩,hlh,⟨by omega,by omega⟩,⟨by omega,by omega⟩,by omega,fun h=>?_,fun r hr=>?_,fun i r hr h0=>?_,fun i r hr h0=>?_,fun i x y hx hy=>?_,?_,?_⟩
  · rw [h] at hlen
    simp at hlen
    omega
  · obtain ⟨i,hi⟩:=List.mem_iff_getElem?.1 hr
    exact hmem _ r (hra hi).1
  · obtain ⟨h1,h2⟩:=hra hr
    show lo≤r.col j
    rcases Nat.lt_or_ge a (ordR rs t j).length with h3|h3
    · obtain ⟨x,hx⟩:∃ x,(ordR rs t j)[a]? = some x:=⟨_,List.getElem?_eq_getElem h3⟩
      have h4:=fa hx
      rcases Nat.eq_or_lt_of_le (show a≤fromN rs t j lo+i by omega) with h5|h5
      · rw [← h5,hx] at h1
        rw [← Option.some.inj h1]
        exact h4
      · have:=hlt hx h1 h5
        omega
    · omega
  · obtain ⟨h1,h2⟩:=hra hr
    exact sh h1 (by omega)
  · have h1:=(hra hx).1
    have h2:=(hra hy).1
    exact hlt h1 h2 (by omega)
  · rcases Nat.eq_zero_or_pos a with h|h
    · left
      omega
    · rcases Nat.eq_zero_or_pos (fromN rs t j lo) with h5|h5
      · exact .inl (by omega)
      right
      obtain ⟨r,hr⟩:=hget 0 (by omega)
      exact ⟨r,hr,fl (hra hr).1 (by omega)⟩
  · rcases Nat.lt_or_ge (b+1) (ordR rs t j).length with h|h
    · right
      obtain ⟨r,hr⟩:=hget ((proveF rs t j lo hi).rows.length-1) (by omega)
      have h1:=(hra hr).1
      rw [show fromN rs t j lo+((proveF rs t j lo hi).rows.length-1)=b by omega] at h1
      exact ⟨r,hr,sa h1⟩
    · left
      rw [hlen,hf,hn]
      omega
theorem filter_none {α:Type} (q:α→Bool) (L:List α) (h:∀ x ∈ L,q x=false):L.filter q=[]:=List.filter_eq_nil_iff.2 (fun x hx=>by rw [h x hx];decide)
theorem filter_split {α:Type} (q:α→Bool) (L:List α) (f m:Nat) (h1:∀ x ∈ L.take f,q x=false) (h2:∀ x ∈ L.drop (f+m),q x=false):((L.drop f).take m).filter q=L.filter q:=by
  have e:L=L.take f++((L.drop f).take m++L.drop (f+m)):=by
    rw [← List.drop_drop,List.take_append_drop,List.take_append_drop]
  conv=>rhs;rw [e]
  rw [List.filter_append,List.filter_append,filter_none q _ h1,filter_none q _ h2,List.nil_append,List.append_nil]
theorem rowsP_proveF {rs:List RowT} (ha:Apart rs) (t:Int) (j:Nat) (lo hi:Int) (hlh:lo≤hi) (h0 : -1000000000≤lo) (h9:hi≤1000000000):rowsP (proveF rs t j lo hi) j=selF rs t j lo hi:=by
  have hF:fromN rs t j lo=(ordR rs t j).findIdx (fun r=>decide (lo≤r.col j))-1:=rfl
  have hT:toN rs t j hi=min ((ordR rs t j).findIdx (fun r=>decide (hi<r.col j))+1) (ordR rs t j).length:=rfl
  have hab:=fst_le_snd (L:=ordR rs t j) (j:=j) hlh
  have hal:(ordR rs t j).findIdx (fun r=>decide (lo≤r.col j))≤(ordR rs t j).length:=List.findIdx_le_length
  have hbl:(ordR rs t j).findIdx (fun r=>decide (hi<r.col j))≤(ordR rs t j).length:=List.findIdx_le_length
  have hlt:=@ordR_lt rs ha t j
  have e1:rowsP (proveF rs t j lo hi) j=(ordR rs t j).filter (inP (proveF rs t j lo hi) j):=by
    refine filter_split _ _ _ _ (fun x hx=>?_) (fun x hx=>?_)
    · obtain ⟨i,hix⟩:=List.mem_iff_getElem?.1 hx
      rw [List.getElem?_take] at hix
      split at hix
      · have h1:=fst_low hix (by omega:i<(ordR rs t j).findIdx (fun r=>decide (lo≤r.col j)))
        show (decide (lo≤x.col j) && decide (x.col j≤hi))=false
        simp
        omega
      · cases hix
    · obtain ⟨i,hi'⟩:=List.mem_iff_getElem?.1 hx
      rw [List.getElem?_drop] at hi'
      have hil:=(List.getElem?_eq_some_iff.1 hi').1
      have hb:(ordR rs t j).findIdx (fun r=>decide (hi<r.col j))<(ordR rs t j).length:=by omega
      obtain ⟨y,hy⟩:∃ y,(ordR rs t j)[(ordR rs t j).findIdx (fun r=>decide (hi<r.col j))]? = some y:=⟨_,List.getElem?_eq_getElem hb⟩
      have h3:=snd_at hy
      have h4:=hlt hy hi' (by omega)
      show (decide (lo≤x.col j) && decide (x.col j≤hi))=false
      simp
      omega
  rw [e1]
  refine selF_eq ha ?_ (List.Pairwise.sublist List.filter_sublist (selF_sorted rs t j _ _))
  refine ((selF_perm rs t j (-1000000000) 1000000000).filter _).trans ?_
  rw [List.filter_filter]
  refine List.Perm.of_eq (List.filter_congr fun r hr=>?_)
  show (decide (lo≤r.col j) && decide (r.col j≤hi) && hitR r t j (-1000000000) 1000000000)=hitR r t j lo hi
  unfold hitR
  rw [Bool.eq_iff_iff]
  simp
  omega
theorem selF_row {rs:List RowT} (ha:Apart rs) (t k:Int):selF rs t 0 k k=(getR rs t k).toList:=by
  symm
  have hh:∀ r:RowT,hitR r t 0 k k=RowT.is t k r:=fun r=>by
    unfold hitR RowT.is RowT.col
    rw [Bool.eq_iff_iff]
    simp
    omega
  refine selF_eq ha ?_ ?_
  · refine List.Perm.of_eq ?_
    rw [List.filter_congr (fun r _=>hh r)]
    clear hh
    unfold getR
    induction rs with
    | nil=>rfl
    | cons x rs ih=>
      rw [Apart,List.pairwise_cons] at ha
      rw [List.filter_cons,List.find?_cons]
      cases hx:RowT.is t k x with
      | false=>exact ih ha.2
      | true=>
        simp only [if_true]
        rw [List.filter_eq_nil_iff.2]
        · rfl
        · intro y hy h
          simp only [RowT.is,Bool.and_eq_true,decide_eq_true_eq] at hx h
          exact ha.1 y hy ⟨hx.1.symm.trans h.1,hx.2.symm.trans h.2⟩
  · cases getR rs t k with
    | none=>exact List.Pairwise.nil
    | some r=>simp
theorem proveF_paths (rs:List RowT) (t:Int) (j:Nat) (lo hi:Int) (i:Nat) (r:RowT) (h:(proveF rs t j lo hi).rows[i]? = some r):(proveF rs t j lo hi).paths[i]? = some (pathF (ordS rs t j) (fromN rs t j lo+i))∧(ordS rs t j)[fromN rs t j lo+i]? = some (encRowF r):=by
  obtain ⟨h1,h2⟩:=proveF_rowAt h
  refine ⟨?_,?_⟩
  · show ((List.range (toN rs t j hi-fromN rs t j lo)).map (fun i=>pathF (ordS rs t j) (fromN rs t j lo+i)))[i]? = _
    rw [List.getElem?_map,List.getElem?_range (by omega)]
    rfl
  · unfold ordS
    rw [List.getElem?_map,show selF rs t j (-1000000000) 1000000000=ordR rs t j from rfl,h1]
    rfl
theorem proveF_pathsLen (rs:List RowT) (t:Int) (j:Nat) (lo hi:Int):(proveF rs t j lo hi).paths.length=(proveF rs t j lo hi).rows.length:=by
  rw [proveF_rowsLen]
  show ((List.range (toN rs t j hi-fromN rs t j lo)).map _).length=_
  simp
end Go.Proofs.YtimoapjhepmehaaGreatDoor
