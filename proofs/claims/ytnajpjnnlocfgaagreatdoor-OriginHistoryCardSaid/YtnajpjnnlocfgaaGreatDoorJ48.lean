/-
  package cachetierref02: Leaf, Node, Left, Root.
-/
import Derived.Test.YtnajpjnnlocfgaaGreatDoorJ47
import Derived.Test.YtnajpjnnlocfgaaGreatDoorJ32
import Derived.Test.YtnajpjnnlocfgaaGreatDoorJ3
set_option linter.unusedSimpArgs false
set_option linter.unusedVariables false
set_option maxHeartbeats 4000000
namespace Go.Proofs.YtnajpjnnlocfgaaGreatDoor
open Go.RowKit Go.Shelf
attribute [local go_sem ↓] Go.wp_at_zero Go.wp_at_succ
theorem refLeaf (s:ByteArray) (w:World) (hs:s.size≤10000):Calls Tryz.prog 91 #[.string s] w fun e w'=>e=.returned (.string (leafF s))∧Below w.heap.size w w':=by
  have HS:=Lib.hid (refSum (⟨#[0]⟩++s) w (by rw [ByteArray.size_append];show 1+s.size≤100000;omega))
  go_enter Tryz.func91,Tryz.ntmps91
  go_wp2_with fail
  refine HS.out.mono ?_
  rintro e W1 ⟨rfl,hb⟩
  go_wp2
  go_ret
  exact ⟨rfl,hb⟩
theorem refNode (a b:ByteArray) (w:World) (ha:a.size≤10000) (hb:b.size≤10000):Calls Tryz.prog 93 #[.string a,.string b] w fun e w'=>e=.returned (.string (nodeF a b))∧Below w.heap.size w w':=by
  have HS:=Lib.hid (refSum (⟨#[1]⟩++a++b) w (by rw [ByteArray.size_append,ByteArray.size_append];show 1+a.size+b.size≤100000;omega))
  go_enter Tryz.func93,Tryz.ntmps93
  go_wp2_with fail
  refine HS.out.mono ?_
  rintro e W1 ⟨rfl,hb⟩
  go_wp2
  go_ret
  refine ⟨?_,hb⟩
  unfold nodeF
  rw [← ByteArray.append_assoc]
  rfl
theorem left_pow:∀ n,n<18→∀ j,j<5→2≤n→2 ^ j<n→n≤2 ^ (j+1)→leftF n=2 ^ j:=by decide
theorem refLeft (n:Nat) (w:World) (h2:2≤n) (hn:n≤17):Calls Tryz.prog 92 #[.int .i64 (n:Int)] w fun e w'=>e=.returned (.int .i64 (leftF n:Int))∧w=w':=by
  go_enter Tryz.func92,Tryz.ntmps92
  go_wp2
  go_loop [3] (fun kv=>∃ j:Nat,j<5∧kv=.int .i64 ((2 ^ j:Nat):Int)∧2 ^ j<n) (fun kv=>n-(intOf kv).toNat)
  case atStart=>exact ⟨0,by omega,rfl,by omega⟩
  case round=>
    obtain ⟨j,hj,rfl,hlt⟩:=hrel
    obtain ⟨k,hk⟩:∃ k,k=2 ^ j:=⟨_,rfl⟩
    rw [← hk] at hlt ⊢
    have hk0:0<k:=by rw [hk];exact Nat.pow_pos (by omega)
    have hks:2 ^ (j+1)=2*k:=by rw [Nat.pow_succ,hk];omega
    have e1:IntKind.i64.wrap ((n:Int)-(k:Int))=((n-k:Nat):Int):=by rw [IntWalk.i64_in _ (by omega)];omega
    have e2:IntKind.i64.wrap (2*(k:Int))=((2*k:Nat):Int):=by rw [IntWalk.i64_in _ (by omega)];omega
    have HK:=Lib.hid hk
    have HKS:=Lib.hid hks
    clear hk hks
    by_cases hc:k<n-k
    · have hj5:j+1<5:=by
        rcases Nat.lt_or_ge (j+1) 5 with h|h
        · exact h
        · exfalso
          have h1:=HKS.out
          have h3:2 ^ 5≤2 ^ (j+1):=Nat.pow_le_pow_right (by omega) h
          omega
      go_wp2
      go_round
      case rel=>exact ⟨j+1,hj5,by rw [HKS.out];go_num,by rw [HKS.out];omega⟩
      case measure=>simp [intOf];omega
    · have d1:decide ((k:Int)<((n-k:Nat):Int))=false:=decide_eq_false (by omega)
      go_wp2
      go_ret
      have h9:=left_pow n (by omega) j hj h2 (by rw [← HK.out];exact hlt) (by rw [HKS.out];omega)
      rw [h9,← HK.out]
      exact ⟨rfl,rfl⟩
set_option maxRecDepth 100000 in
theorem refRoot (S:Nat→Prop):∀ (m:Nat) (l:List ByteArray) (v:Value) (w:World),l.length≤m→l.length≤17→(∀ x ∈ l,x.size≤1000)→Strs S w v l→Calls Tryz.prog 49 #[v] w fun e w'=>e=.returned (.string (rootF l))∧Below w.heap.size w w'
  | m,[],v,w,_,_,_,hv=>by
    obtain ⟨A,c,rfl,-⟩:=hv
    have HS:=Lib.hid (refSum ⟨#[]⟩ w (by decide))
    go_enter Tryz.func49,Tryz.ntmps49
    go_wp2_with fail
    refine HS.out.mono ?_
    rintro e W1 ⟨rfl,hb⟩
    go_wp2
    go_ret
    exact ⟨rfl,hb⟩
  | m,[x],v,w,_,_,hsz,hv=>by
    obtain ⟨b,off,c,rfl,-,-,hc⟩:=hv.at_ (k:=0) (by simp)
    have hc:w.cell? ⟨b,off,none⟩=some (.string x):=hc
    have HS:=Lib.hid (refLeaf x w (by have:=hsz x (by simp);omega))
    rw [rootF_1]
    show Calls Tryz.prog 49 #[.slice (some ⟨b,off,none⟩) 1 c] w _
    go_enter Tryz.func49,Tryz.ntmps49
    go_wp2_with fail
    refine HS.out.mono ?_
    rintro e W1 ⟨rfl,hb⟩
    go_wp2
    go_ret
    exact ⟨rfl,hb⟩
  | 0,x::y::l,v,w,h,_,_,_=>by simp at h
  | m + 1, x :: y :: l, v, w, hm, h17, hsz, hv => by
    obtain ⟨L,hL⟩:∃ L,L=x::y::l:=⟨_,rfl⟩
    have h2:2≤L.length:=by rw [hL];simp
    rw [← hL] at hm h17 hsz hv ⊢
    have HV:=Lib.hid hv
    obtain ⟨b,off,c,rfl,hc⟩:=hv.own (by omega)
    have hb:=leftF_bounds L.length (by omega) (by omega)
    obtain ⟨k,hk⟩:∃ k,k=leftF L.length:=⟨_,rfl⟩
    have HLF:=Lib.hid (fun W:World=>refLeft L.length W h2 h17)
    rw [rootF_split L h2 (by omega)]
    rw [← hk] at hb HLF ⊢
    have HA:=Lib.hid (fun (W:World) (h:Below w.heap.size w W)=>refRoot S m (L.take k) (.slice (some ⟨b,off,none⟩) k c) W (by rw [List.length_take];omega) (by rw [List.length_take];omega) (fun z hz=>hsz z (List.mem_of_mem_take hz)) ((HV.out.takeS k (by omega)).below h))
    have HB:=Lib.hid (fun (W:World) (h:Below w.heap.size w W)=>refRoot S m (L.drop k) (.slice (some ⟨b,off+k,none⟩) (L.length-k) (c-k)) W (by rw [List.length_drop];omega) (by rw [List.length_drop];omega) (fun z hz=>hsz z (List.mem_of_mem_drop hz)) ((HV.out.dropS k (by omega)).below h))
    obtain ⟨r1,hr1⟩:∃ r1,r1=rootF (L.take k):=⟨_,rfl⟩
    obtain ⟨r2,hr2⟩:∃ r2,r2=rootF (L.drop k):=⟨_,rfl⟩
    have hz1:r1.size=32:=by rw [hr1];exact rootF_size _
    have hz2:r2.size=32:=by rw [hr2];exact rootF_size _
    rw [← hr1,← hr2]
    rw [← hr1] at HA
    rw [← hr2] at HB
    have HN:=Lib.hid (fun W:World=>refNode r1 r2 W (by omega) (by omega))
    have d1:((L.length:Int) == 0)=false:=by rw [beq_eq_false_iff_ne];omega
    have d2:((L.length:Int) == 1)=false:=by rw [beq_eq_false_iff_ne];omega
    have p0:(0:Int)≤(k:Int):=by omega
    have p1:(k:Int)≤(L.length:Int):=by omega
    have p2:(k:Int)≤(c:Int):=by omega
    have p3:(L.length:Int)≤(c:Int):=by omega
    clear hk hL hr1 hr2 hsz
    go_enter Tryz.func49,Tryz.ntmps49
    go_wp2_with fail
    refine (HLF.out _).mono ?_
    rintro e w' ⟨rfl,hw'⟩
    subst w'
    go_upto_region 6 with (fail)
    have hE0:Below w.heap.size w w.drew:=(ext_refl w).drew
    go_region_held3 (fun w'=>Below w.heap.size w w')
      (first|with_reducible assumption|exact ext_call (by assumption) (by assumption))
      (first
        | (go_at_call 49;(with_reducible refine (HA.out _ (by assumption)).mono ?_);rintro e Z ⟨rfl,hb'⟩)
        | (go_at_call 49;(with_reducible refine (HB.out _ (by assumption)).mono ?_);rintro e Z ⟨rfl,hb'⟩)
        | (go_at_call 93;(with_reducible refine (HN.out _).mono ?_);rintro e Z ⟨rfl,hb'⟩))
    all_goals
      go_wp2
      go_ret
      exact ⟨rfl,by assumption⟩
end Go.Proofs.YtnajpjnnlocfgaaGreatDoor
