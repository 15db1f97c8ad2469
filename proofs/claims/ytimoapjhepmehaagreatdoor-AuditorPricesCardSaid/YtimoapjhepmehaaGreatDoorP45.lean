/-
  the plain law of a query for a row: the rows behind records are the state's.
-/
import Derived.Test.YtimoapjhepmehaaGreatDoorP39
import Derived.Test.YtimoapjhepmehaaGreatDoorP18
set_option linter.unusedSimpArgs false
set_option linter.unusedVariables false
namespace Go.Proofs.YtimoapjhepmehaaGreatDoor
open Go.RowKit Go.Shelf
theorem hit_key {t k:Int} {r:RowT} (h1:r.t=t) (h2:r.k=k):hitR r t 0 k k=true:=by
  unfold hitR RowT.col
  simp [h1,h2]
theorem scan_key {t k:Int} {o:Option RowT} (h:∀ r,o=some r→r.t=t∧r.k=k):scanR t 0 k k o=o:=by
  cases o with
  | none=>rfl
  | some r=>
    have h1:=h r rfl
    simp [scanR,Option.filter,hit_key h1.1 h1.2]
theorem tch_of {t k:Int} {c:ChgT} (h1:c.t=t) (h2:c.k=k) (ht:c.turns=true):tchF t 0 k k c=true:=by
  unfold tchF
  rw [scan_key (fun r h=>by have:=befC_key h;exact ⟨this.1.trans h1,this.2.trans h2⟩),scan_key (fun r h=>by have:=aftC_key h;exact ⟨this.1.trans h1,this.2.trans h2⟩)]
  unfold befC aftC
  unfold ChgT.turns at ht
  cases h3:c.had <;> cases h4:c.has <;> simp_all
theorem patF_law {rs:List RowT} (ha:Apart rs) (t k:Int) (c:ChgT) (ht:c.turns=true):patF t 0 k k (getR rs t k).toList c=(getR (applyC rs c) t k).toList:=by
  rw [getR_applyC ha]
  unfold patF
  by_cases h:t=c.t∧k=c.k
  · rw [if_pos h,if_pos (tch_of h.1.symm h.2.symm ht),scan_key (fun r hr=>by have:=aftC_key hr;exact ⟨this.1.trans h.1.symm,this.2.trans h.2.symm⟩)]
  · rw [if_neg h,if_neg (fun h2=>h (by have:=tch_key h2;exact ⟨this.1.symm,this.2.symm⟩))]
theorem patsF_law (t k:Int):∀ (L:List ChgT) {rs:List RowT},Apart rs→(∀ c ∈ L,c.turns=true)→patsF t k (getR rs t k).toList L=(getR (applyF rs L) t k).toList
  | [],rs,ha,_=>rfl
  | c::L,rs,ha,ht=>by
    have h1:=patF_law ha t k c (ht c (by simp))
    have h2:=patsF_law t k L (rs:=applyC rs c) (ha.applyC c) (fun d hd=>ht d (by simp [hd]))
    show patsF t k (patF t 0 k k (getR rs t k).toList c) L=_
    rw [h1,h2]
    rfl
theorem replF_law (t k:Int):∀ (Ls:List (List ChgT)) {rs:List RowT},Apart rs→(∀ L ∈ Ls,∀ c ∈ L,c.turns=true)→replF t k (getR rs t k).toList Ls=(getR (Ls.foldl applyF rs) t k).toList
  | [],rs,ha,_=>rfl
  | L::Ls,rs,ha,ht=>by
    have h1:=patsF_law t k L ha (ht L (by simp))
    have h2:=replF_law t k Ls (rs:=applyF rs L) (ha.apply L) (fun M hM=>ht M (by simp [hM]))
    show replF t k (patsF t k (getR rs t k).toList L) Ls=_
    rw [h1,h2]
    rfl
theorem oneK_get (rs:List RowT) (t k:Int):OneK t k (getR rs t k).toList:=by
  cases h:getR rs t k with
  | none=>exact ⟨by simp,by simp⟩
  | some r=>
    have h1:=List.find?_some h
    simp only [RowT.is,Bool.and_eq_true,decide_eq_true_eq] at h1
    exact ⟨by simp,by simp [h1.1,h1.2]⟩
end Go.Proofs.YtimoapjhepmehaaGreatDoor
