/-
  digest: isDigest, all, take, join.
-/
import Derived.Test.YtnajpjnnlocfgaaGreatDoorJ2
set_option linter.unusedSimpArgs false
set_option linter.unusedVariables false
set_option maxHeartbeats 4000000
namespace Go.Proofs.YtnajpjnnlocfgaaGreatDoor
open Go.RowKit
theorem digest_isDigest (s:ByteArray) (w:World) :
    Calls Tryz.prog 54 #[.string s] w fun e w'=>e=.returned (.bool ((s.size:Int) == 32))∧w=w':=by
  go_enter Tryz.func54,Tryz.ntmps54
  go_wp2
  go_ret
  exact ⟨rfl,rfl⟩
theorem odd_any (s:ByteArray) (w:World) :
    Calls Tryz.prog 100 #[.string s] w fun e w'=>e=.returned (.bool (oddF s))∧w=w':=by
  go_enter Tryz.func100,Tryz.ntmps100
  go_wp2_with (go_at_call 54;refine (digest_isDigest _ _).mono ?_;rintro e w' ⟨rfl,rfl⟩)
  go_ret
  exact ⟨rfl,rfl⟩
theorem indexOdd_any (S:Nat→Prop) (v:Value) (l:List ByteArray) (w:World) (hv:Strs S w v l) (hn:l.length≤100000) :
    Calls Tryz.prog 144 #[v,.func (.func 100) #[] #[]] w fun e w'=>e=.returned (.int .i64 (idxOf oddF l))∧w=w':=by
  have HV:=Lib.hid hv
  obtain ⟨A,c,rfl,hc,_⟩:=hv
  go_enter Tryz.func144,Tryz.ntmps144
  go_wp2
  go_loop [8] (fun i=>∃ k:Nat,k≤l.length∧i=.int .i64 k∧Hid (∀ j (hj:j<l.length),j<k→oddF l[j]=false)) (fun i=>l.length-(intOf i).toNat)
  case atStart=>exact ⟨0,Nat.zero_le _,rfl,fun j _ h=>absurd h (by omega)⟩
  case round=>
    obtain ⟨k,hk,rfl,hno⟩:=hrel
    by_cases hlt:k<l.length
    · obtain ⟨b,off,c',hA,_,_,hcell⟩:=HV.out.at_ hlt
      injection hA with hA hn' hc'
      subst hA;subst hc'
      clear hn'
      obtain ⟨x,hx⟩:∃ x,x=l[k]:=⟨_,rfl⟩
      rw [show l.getD k ⟨#[]⟩=x by rw [hx];simp [hlt]] at hcell
      have HX:=Lib.hid hx
      clear hx
      cases ho:oddF x with
      | true=>
        have HO:=Lib.hid ho
        clear ho
        go_wp2_with (go_at_call 100;refine (odd_any _ _).mono ?_;rw [HO.out];rintro e w' ⟨rfl,rfl⟩)
        go_ret
        exact ⟨ret_int (idxOf_yes oddF l k hlt (by rw [← HX.out];exact HO.out) (fun j hj=>hno.out j (by omega) hj)).symm,rfl⟩
      | false=>
        have HO:=Lib.hid ho
        clear ho
        go_wp2_with (go_at_call 100;refine (odd_any _ _).mono ?_;rw [HO.out];rintro e w' ⟨rfl,rfl⟩)
        go_round
        case rel=>
          refine ⟨k+1,by omega,by go_num,fun j hj hjk=>?_⟩
          by_cases e:j=k
          · subst e;rw [← HX.out];exact HO.out
          · exact hno.out j hj (by omega)
        case measure=>simp [intOf];omega
    · go_wp2
      go_ret
      exact ⟨ret_int (idxOf_no oddF l (fun j hj=>hno.out j hj (by omega))).symm,rfl⟩
theorem containsOdd_any (S:Nat→Prop) (v:Value) (l:List ByteArray) (w:World) (hv:Strs S w v l) (hn:l.length≤100000) :
    Calls Tryz.prog 101 #[v,.func (.func 100) #[] #[]] w fun e w'=>e=.returned (.bool (l.any oddF))∧w=w':=by
  have HC:=Lib.hid (indexOdd_any S v l w hv hn)
  have HD:=Lib.hid (idxOf_nonneg oddF l)
  obtain ⟨A,c,rfl,hc,_⟩:=hv
  generalize idxOf oddF l=i at *
  go_enter Tryz.func101,Tryz.ntmps101
  go_wp2_with fail
  refine HC.out.mono ?_
  rintro e w' ⟨rfl,rfl⟩
  go_wp2
  go_ret
  exact ⟨by rw [← HD.out];rfl,rfl⟩
theorem all_any (S:Nat→Prop) (v:Value) (l:List ByteArray) (w:World) (hv:Strs S w v l) (hn:l.length≤100000) :
    Calls Tryz.prog 53 #[v] w fun e w'=>e=.returned (.bool (allF l))∧w=w':=by
  have HC:=Lib.hid (containsOdd_any S v l w hv hn)
  obtain ⟨A,c,rfl,hc,_⟩:=hv
  go_enter Tryz.func53,Tryz.ntmps53
  go_wp2_with fail
  refine HC.out.mono ?_
  rintro e w' ⟨rfl,rfl⟩
  go_wp2
  go_ret
  exact ⟨rfl,rfl⟩
def TakePost (S:Nat→Prop) (w:World) (l:List ByteArray) (e:Ending) (w':World):Prop:=
  ∃ v',e=.returned (.tuple #[.string (l.getLast?.getD ⟨#[]⟩),v',.bool (!l.isEmpty)])∧Strs S w' v' l.dropLast∧Below w.heap.size w w'
theorem take_any (S:Nat→Prop) (v:Value) (l:List ByteArray) (w:World) (hv:Strs S w v l) (hn:l.length≤100000) :
    Calls Tryz.prog 56 #[v] w (TakePost S w l):=by
  have HV:=Lib.hid hv
  by_cases h0:l.length=0
  · obtain rfl:l=[]:=List.eq_nil_of_length_eq_zero h0
    obtain ⟨A,c,rfl,hc,_⟩:=hv
    go_enter Tryz.func56,Tryz.ntmps56
    go_wp2
    go_ret3
    exact ⟨_,rfl,Strs.nil_ S w,Below.refl _ _⟩
  · obtain ⟨b,off,c,rfl,hc,hS,hcell⟩:=hv.at_ (k:=l.length-1) (by omega)
    obtain ⟨n,hn1⟩:∃ n,n=l.length-1:=⟨_,rfl⟩
    have hl:l.length=n+1:=by omega
    rw [← hn1] at hcell
    obtain ⟨x,hx⟩:∃ x,x=l.getD n ⟨#[]⟩:=⟨_,rfl⟩
    rw [← hx] at hcell
    have HX:=Lib.hid hx
    have HL:=Lib.hid hl
    have HN1:=Lib.hid hn1
    rw [hl]
    have hc':n+1≤c:=by omega
    have hn':n+1≤100000:=by omega
    clear hx hl hn1 h0 hc hv
    have t0:(((n:Int)+1) == 0)=false:=by simp;omega
    have q0:(0:Int)≤(n:Int):=by omega
    have q1:(n:Int)<(n:Int)+1:=by omega
    have q2:(n:Int)≤(c:Int):=by omega
    go_enter Tryz.func56,Tryz.ntmps56
    go_wp2
    go_quiet (fail)
    go_wp2
    go_ret3
    refine ⟨.slice (some ⟨b,off,none⟩) n c,?_,?_,below_drewN (Below.refl _ _) _⟩
    · have e1:l.getLast?.getD ⟨#[]⟩=x:=by
        rw [HX.out,List.getLast?_eq_getElem?,HL.out]
        simp
      have e2:l.isEmpty=false:=by
        cases l with
        | nil=>have:=HL.out;simp at this
        | cons a t=>rfl
      rw [e1,e2]
      rfl
    · obtain ⟨A,c2,hA,hc2,hcells⟩:=HV.out
      injection hA with hA _ hcc
      subst hA;subst hcc
      refine ⟨some ⟨b,off,none⟩,c,by rw [List.length_dropLast,HL.out];rfl,by rw [List.length_dropLast,HL.out];omega,fun _=>?_⟩
      obtain ⟨b',off',hb',hS',hcs⟩:=hcells (by rw [HL.out];omega)
      injection hb' with hb'
      injection hb' with h1 h2
      subst h1;subst h2
      refine ⟨b,off,rfl,hS',fun j y hy=>?_⟩
      rw [List.getElem?_dropLast] at hy
      split at hy
      · exact hcs j y hy
      · cases hy
def joinF (root:ByteArray) (first:Bool) (part:ByteArray):ByteArray:=if first then nodeF root part else nodeF part root
theorem joinF_size (root:ByteArray) (first:Bool) (part:ByteArray):(joinF root first part).size=32:=by unfold joinF;split <;> exact nodeF_size _ _
theorem join_any (root part:ByteArray) (first:Bool) (w:World) (hR:RoundOK w) (hr:root.size≤200000) (hp:part.size≤200000) :
    Calls Tryz.prog 59 #[.agg #[.string root,.bool first],.string part] w fun e w'=>e=.returned (.string (joinF root first part))∧Below w.heap.size w w':=by
  have hbl:Below w.heap.size w (w.alloc (.cells #[.string root,.bool first] 128)):=(Below.refl _ _).alloc (Nat.le_refl _) _
  cases first with
  | true=>
    have HN:=Lib.hid (node_any root part _ (hR.below hbl) hr hp)
    clear hR
    go_enter Tryz.func59,Tryz.ntmps59
    go_wp2_with fail
    refine HN.out.mono ?_
    rintro e w' ⟨rfl,hb'⟩
    go_wp2
    go_ret
    exact ⟨rfl,hbl.trans (hb'.mono hbl.size)⟩
  | false=>
    have HN:=Lib.hid (node_any part root _ (hR.below hbl) hp hr)
    clear hR
    go_enter Tryz.func59,Tryz.ntmps59
    go_wp2_with fail
    refine HN.out.mono ?_
    rintro e w' ⟨rfl,hb'⟩
    go_wp2
    go_ret
    exact ⟨rfl,hbl.trans (hb'.mono hbl.size)⟩
end Go.Proofs.YtnajpjnnlocfgaaGreatDoor
