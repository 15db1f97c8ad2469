/-
  The rows of a range, in order; slices.SortFunc at rows: sorted.
-/
import Derived.Test.YtnajpjnnlocfgaaGreatDoorJ9
set_option linter.unusedSimpArgs false
set_option linter.unusedVariables false
namespace Go.Proofs.YtnajpjnnlocfgaaGreatDoor
open Go.RowKit Go.Shelf Go.Lib Go.Sort
def befR (j:Nat) (a b:RowT):Bool := !(ltOf (cmpR j) b a)
theorem befR_iff (j:Nat) (a b:RowT):befR j a b=true↔a.col j<b.col j∨(a.col j=b.col j∧a.k≤b.k):=by
  unfold befR
  rw [cmpR_lt]
  simp
  omega
theorem befR_trans (j:Nat) (a b c:RowT):befR j a b=true→befR j b c=true→befR j a c=true:=by
  rw [befR_iff,befR_iff,befR_iff];omega
theorem befR_total (j:Nat) (a b:RowT):(befR j a b || befR j b a)=true:=by
  rw [Bool.or_eq_true,befR_iff,befR_iff];omega
def Apart (rs:List RowT):Prop:=rs.Pairwise (fun a b=>¬ (a.t=b.t∧a.k=b.k))
theorem Apart.eq:∀ {rs:List RowT},Apart rs→∀ a ∈ rs,∀ b ∈ rs,a.t=b.t→a.k=b.k→a=b
  | [],_,a,ha,_,_,_,_=>by cases ha
  | x :: rs, h, a, ha, b, hb, h1, h2 => by
    rw [Apart,List.pairwise_cons] at h
    rcases List.mem_cons.1 ha with ha1|ha1
    · rcases List.mem_cons.1 hb with hb1|hb1
      · exact ha1.trans hb1.symm
      · subst ha1
        exact absurd ⟨h1,h2⟩ (h.1 b hb1)
    · rcases List.mem_cons.1 hb with hb1|hb1
      · subst hb1
        exact absurd ⟨h1.symm,h2.symm⟩ (h.1 a ha1)
      · exact Apart.eq h.2 a ha1 b hb1 h1 h2
def selF (rs:List RowT) (t:Int) (j:Nat) (lo hi:Int):List RowT:=(rs.filter fun r=>hitR r t j lo hi).mergeSort (befR j)
theorem selF_perm (rs:List RowT) (t:Int) (j:Nat) (lo hi:Int):(selF rs t j lo hi).Perm (rs.filter fun r=>hitR r t j lo hi):=List.mergeSort_perm _ _
theorem selF_sorted (rs:List RowT) (t:Int) (j:Nat) (lo hi:Int):(selF rs t j lo hi).Pairwise (fun a b=>befR j a b=true):=List.pairwise_mergeSort (befR_trans j) (befR_total j) _
theorem selF_mem {rs:List RowT} {t:Int} {j:Nat} {lo hi:Int} {r:RowT}:r ∈ selF rs t j lo hi↔r ∈ rs∧hitR r t j lo hi=true:=by
  rw [(selF_perm rs t j lo hi).mem_iff,List.mem_filter]
theorem selF_length (rs:List RowT) (t:Int) (j:Nat) (lo hi:Int):(selF rs t j lo hi).length≤rs.length:=by
  rw [(selF_perm rs t j lo hi).length_eq]
  exact List.length_filter_le _ _
theorem hitR_t {r:RowT} {t:Int} {j:Nat} {lo hi:Int} (h:hitR r t j lo hi=true):r.t=t:=by
  unfold hitR at h
  simp at h
  exact h.1.1
theorem selF_eq {rs l:List RowT} {t:Int} {j:Nat} {lo hi:Int} (ha:Apart rs) (hp:l.Perm (rs.filter fun r=>hitR r t j lo hi)) (hs:l.Pairwise (fun a b=>befR j a b=true)):l=selF rs t j lo hi:=by
  refine List.Perm.eq_of_pairwise (fun a b h1 h2 h3 h4=>?_) hs (selF_sorted rs t j lo hi) (hp.trans (selF_perm rs t j lo hi).symm)
  have h5:=List.mem_filter.1 (hp.mem_iff.1 h1)
  have h6:=selF_mem.1 h2
  rw [befR_iff] at h3 h4
  refine ha.eq a h5.1 b h6.1 ((hitR_t h5.2).trans (hitR_t h6.2).symm) (by omega)
set_option maxRecDepth 100000 in
set_option maxHeartbeats 2000000 in
theorem sortRowsS (l:List RowT) (g c j bc:Nat) (hj:j<4) (w:World) (hbc:w.cell? ⟨bc,0,none⟩=some (.int .i64 (j:Int))) (hne:bc≠g) (hR:RowsC w g l) (hf:∀ i,w.frozen? ⟨g,i,none⟩=false) (hg:g<w.heap.size) (hl:l.length≤1000000) :
    Calls Tryz.prog 232 #[.slice (some ⟨g,0,none⟩) l.length c,.func (.func 233) #[] #[.pointer (some ⟨bc,0,none⟩)]] w fun e w'=>
      (∃ u,e=.returned u)∧∃ l',l'.Perm l∧l'.Pairwise (fun a b=>befR j a b=true)∧RowsC w' g l'∧w.heap.size≤w'.heap.size∧(∀ w0,Below w0.heap.size w0 w→w0.heap.size≤g→Below w0.heap.size w0 w'):=by
  have eg:∀ args w,(callFunc 233 args).run Tryz.prog w=.ok (.enter 233 args) w:=enters_of Tryz.func233 (by kernel_rfl) rfl
  have hcmp:CmpLays Tryz.prog 233 #[.pointer (some ⟨bc,0,none⟩)] encR 5 (cmpR j) g 0 l.toArray.size w:=fun m os dk _ x y=>by
    refine (cmpRow x y j hj bc (sortWorldK encR 5 w g 0 m dk os) ?_).mono fun e w' h=>h
    unfold sortWorldK
    have hb:Below (putRowK encR 5 (Sort.ahead w m) g 0 dk).heap.size (putRowK encR 5 (Sort.ahead w m) g 0 dk) (grow (putRowK encR 5 (Sort.ahead w m) g 0 dk) os):=GrowsFrom.below ⟨0,os,rfl⟩
    refine cell_ext ?_ hb
    rw [cell?_putRowK_other _ _ _ _ _ _ _ (by simpa using hne)]
    exact hbc
  have hcon:=AnyQ.slices_SortFunc Tryz.sortRows 5 Tryz.isAgg108 Tryz.sizeOf108 encR encR_length encR_one (cmpR j) (cmpR_swo j) 233 #[.pointer (some ⟨bc,0,none⟩)] g 0 c l.toArray w eg hcmp (rowsC_holds hR hf) hg (by simp;omega)
  change Calls Tryz.prog 232 _ _ _ at hcon
  refine hcon.mono ?_
  rintro e w' ⟨rfl,d',n,os,hp,hs,rfl⟩
  refine ⟨⟨_,rfl⟩,d'.toList,?_,?_,?_,by simp [sortWorldK,grow,putRowK,Sort.ahead],fun w0 h h0=>sort_below h h0⟩
  · have h1:=hp.2.2
    have hs1:=hp.1
    simp at hs1
    have h2:d'.toList.take l.length=d'.toList:=List.take_of_length_le (by simp [hs1])
    rw [← h2]
    simpa [hs1] using h1
  · have hs1:=hp.1
    simp at hs1
    rw [List.pairwise_iff_getElem]
    intro a b ha hb hab
    have h3:=hs a b (Nat.zero_le _) hab (by simpa [hs1] using hb)
    rw [getElem!_pos d' b (by simpa using hb),getElem!_pos d' a (by simpa using ha)] at h3
    simp [befR,h3]
  · refine holds_rowsC ?_
    unfold sortWorldK
    exact holdsK_grow _ _ _ _ _ _ _ (by simpa [putRowK,Sort.ahead] using hg) (holdsK_putRowK _ _ _ _ _ l.toArray _ (holdsK_ahead _ _ _ _ _ _ _ (rowsC_holds hR hf)) hp.1)
end Go.Proofs.YtnajpjnnlocfgaaGreatDoor
