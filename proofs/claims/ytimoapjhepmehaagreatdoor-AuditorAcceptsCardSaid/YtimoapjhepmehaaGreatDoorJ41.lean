/- Part 41: contracts that the last part uses. -/
import Derived.Test.YtimoapjhepmehaaGreatDoorJ28
set_option linter.unusedSimpArgs false
set_option linter.unusedVariables false
set_option maxHeartbeats 4000000
namespace Go.Proofs.YtimoapjhepmehaaGreatDoor
open Go.RowKit Go.Shelf
theorem FA.at_cut{Ls:List (List AH)}(h:FA Ls){a b:Nat}{l:List AH}(hl:l ∈ (Ls.take b).drop a):B4 l/\BI l=true:=by
 have h1:=List.mem_of_mem_take (List.mem_of_mem_drop hl);obtain⟨i,hi⟩:=List.mem_iff_getElem?.1 h1;have h2:=h.step i l hi;exact⟨h2.1,h2.2.1⟩
theorem Ht{l:List AH}(h:BI l=true):∀ c ∈ l,c.turns=true:=fun c hc=>by
 unfold BI at h;rw[Bool.and_eq_true]at h;exact List.all_eq_true.1 h.2 c hc
theorem KF(Ls:List (List AH))(z:ByteArray)(a b:Nat):∀ i,a+i<=b->b<=Ls.length->Bx 0 z Ls (a+i)=Bx a (Bx 0 z Ls a) ((Ls.take b).drop a) i
 | 0,_,_=>rfl
 | i+1,h,hb=>by
  have ih:=KF Ls z a b i (by omega) hb;show CY (Bx 0 z Ls (a+i)) _=CY (Bx a (Bx 0 z Ls a) ((Ls.take b).drop a) i) _;rw[ih];congr 3
  ·rw[Nat.zero_add];rfl
  rw[List.getD_eq_getElem?_getD,List.getD_eq_getElem?_getD,List.getElem?_drop,List.getElem?_take,if_pos (by omega)];rfl
section
attribute [local go_sem ↓] Go.wp_at_zero Go.wp_at_succ
theorem Wu(c n:Int)(hn:0<n)(hn2:n<=1000000000)(hc : -9223372036854775808<=c)(hc2:c<=9223372036854775807):∃ k:Nat,(k:Int)<n/\∀ w:World,Calls Tryz.prog 8 #[.int .i64 c,.int .i64 n] w fun e w'=>e=.returned (.int .i64 (k:Int))/\w=w':=by
 by_cases h0:c<0
 ·have e1:IntKind.i64.wrap (c+1)=c+1:=IntWalk.i64_in _ (by omega);have e2:IntKind.i64.wrap (-(c+1)) = -(c+1):=IntWalk.i64_in _ (by omega);have hm:0<=(-(c+1)) % n/\(-(c+1)) % n<n:=⟨Int.emod_nonneg _ (by omega),Int.emod_lt_of_pos _ hn⟩;have hp0:(0:Int) <= -(c+1):=by omega
  obtain⟨k,hk⟩:=Int.eq_ofNat_of_zero_le hm.1;refine⟨k,by rw[<- hk];exact hm.2,fun w=>?_⟩;have HK:=Wz hk;clear hk;go_enter Tryz.func8,Tryz.ntmps8;go_wp2;go_ret;exact⟨by rw[<- HK.out];show Ending.returned (Value.int .i64 (-(c+1).tmod n))=_;rw[<- Int.neg_tmod,Int.tmod_eq_emod_of_nonneg hp0],rfl⟩
 have hm:0<=c % n/\c % n<n:=⟨Int.emod_nonneg _ (by omega),Int.emod_lt_of_pos _ hn⟩;obtain⟨k,hk⟩:=Int.eq_ofNat_of_zero_le hm.1;refine⟨k,by rw[<- hk];exact hm.2,fun w=>?_⟩;have HK:=Wz hk;clear hk;go_enter Tryz.func8,Tryz.ntmps8;go_wp2;go_ret;exact⟨by rw[<- HK.out];rfl,rfl⟩
theorem Fk.cut{w:World}{A:Option Addr}{c:Nat}{T:List (Nat->Int)}(h:Fk w (.slice A T.length c) T)(k:Nat)(hk:k<=T.length):Fk w (.slice A k c) (T.take k):=by
 obtain⟨A',c',e,h⟩:=h;injection e with e1 _ e3
 subst e1 e3;refine⟨A,c,by rw[List.length_take,Nat.min_eq_left hk],fun h0=>?_⟩;rw[List.length_take]at h0;obtain⟨b,off,hA,hc⟩:=h (by omega);refine⟨b,off,hA,fun j x hx i hi=>hc j x ?_ i hi⟩;rw[List.getElem?_take]at hx;split at hx
 ·exact hx
 cases hx
set_option maxRecDepth 100000 in
theorem R6(T:List (Nat->Int))(v:Value)(w:World)(hv:Fk w v T)(hcap:Ga v)(hT:Nf T)(hbig:T.length<=9223372036854775807):Calls Tryz.prog 7 #[v] w fun e w'=>
  ∃ u Ls,e=.returned u/\Bt w' u 1 Ls/\Ls.length<=16/\FA Ls/\(∀ l ∈ Ls,∀ c ∈ l,Dw c)/\Below w.heap.size w w':=by
 obtain⟨A,c,rfl,-⟩:=id hv;have hc:T.length<=c:=hcap _ _ _ rfl;obtain⟨k,hk⟩:∃ k,k=min T.length 16:=⟨_,rfl⟩;have hk1:k<=T.length:=by omega
 have HLG:=Wz (WK (T.take k) (by rw[List.length_take];omega) (.slice A k c) w (hv.cut k hk1) (fun x hx=>hT x (List.mem_of_mem_take hx)));subst hk;clear hv hcap hT;go_enter Tryz.func7,Tryz.ntmps7;go_wp2_with fail
 rw[show(min (T.length:Int) 16).toNat=min T.length 16 by omega];refine HLG.out.mono ?_;rintro e W1 ⟨u,R,rfl,h1,h2,h3,h4,hb1⟩;obtain⟨Au,cu,rfl,-⟩:=id h1;have HU:=Wz h1;have HE1:=Wz hb1;have HQ:=Wz (And.intro h2 (And.intro h3 h4));clear h1 h2 h3 h4 hb1;go_wp2;go_ret;refine⟨_,trs R,rfl,HU.out,?_,HQ.out.2.1,fun l hl c hc=>?_,HE1.out⟩
 ·have:=HQ.out.1;rw[List.length_take]at this;simp only[trs,List.length_map];omega
 obtain⟨x,hx,rfl⟩:=List.mem_map.1 hl;exact HQ.out.2.2 x hx c hc
end
end Go.Proofs.YtimoapjhepmehaaGreatDoor
