/-
  package cachetierlaw29: pick, records; answer and proof.Check at the records of a run.
-/
import Derived.Test.YtimoapjhepmehaaGreatDoorP49
import Derived.Test.YtimoapjhepmehaaGreatDoorP50
import Derived.Test.YtimoapjhepmehaaGreatDoorP21
set_option linter.unusedSimpArgs false
set_option linter.unusedVariables false
set_option maxHeartbeats 4000000
namespace Go.Proofs.YtimoapjhepmehaaGreatDoor
open Go.RowKit Go.Shelf
theorem RunG.at_cut {Ls:List (List ChgT)} (h:RunG Ls) {a b:Nat} {l:List ChgT} (hl:l ∈ (Ls.take b).drop a):ChgsOK l∧validF l=true:=by
  have h1:=List.mem_of_mem_take (List.mem_of_mem_drop hl)
  obtain ⟨i,hi⟩:=List.mem_iff_getElem?.1 h1
  have h2:=h.step i l hi
  exact ⟨h2.1,h2.2.1⟩
theorem validF_turns {l:List ChgT} (h:validF l=true):∀ c ∈ l,c.turns=true:=fun c hc=>by
  unfold validF at h
  rw [Bool.and_eq_true] at h
  exact List.all_eq_true.1 h.2 c hc
theorem stF_cut (Ls:List (List ChgT)) (a b:Nat) (h:a≤b):((Ls.take b).drop a).foldl applyF (stF (Ls.take a))=stF (Ls.take b):=by
  have h1:Ls.take b=Ls.take a++(Ls.take b).drop a:=by
    have h2:=List.take_append_drop a (Ls.take b)
    rw [List.take_take,Nat.min_eq_left h] at h2
    exact h2.symm
  unfold stF
  rw [h1,List.foldl_append,← h1]
theorem chainK_cut (Ls:List (List ChgT)) (z:ByteArray) (a b:Nat):∀ i,a+i≤b→b≤Ls.length→chainK 0 z Ls (a+i)=chainK a (chainK 0 z Ls a) ((Ls.take b).drop a) i
  | 0,_,_=>rfl
  | i+1,h,hb=>by
    have ih:=chainK_cut Ls z a b i (by omega) hb
    show chainF (chainK 0 z Ls (a+i)) _=chainF (chainK a (chainK 0 z Ls a) ((Ls.take b).drop a) i) _
    rw [ih]
    congr 3
    · rw [Nat.zero_add];rfl
    · rw [List.getD_eq_getElem?_getD,List.getD_eq_getElem?_getD,List.getElem?_drop,List.getElem?_take,if_pos (by omega)];rfl
structure CutOK (Ls:List (List ChgT)) (base un:Nat) (T:Nat) (k:Int):Prop where
  ch:∀ L ∈ (Ls.take un).drop base,L.length≤8∧∀ c ∈ L,c.ok∧c.turns=true
  fo:∀ l ∈ (Ls.take un).drop base,ChgsOK l∧validF l=true
  cp:CompP (proveF (stF (Ls.take base)) (T:Int) 0 k k) 0
  len:(rowsP (proveF (stF (Ls.take base)) (T:Int) 0 k k) 0).length≤100
  one:OneK (T:Int) k (rowsP (proveF (stF (Ls.take base)) (T:Int) 0 k k) 0)
  rows:replF (T:Int) k (rowsP (proveF (stF (Ls.take base)) (T:Int) 0 k k) 0) ((Ls.take un).drop base)=(getR (stF (Ls.take un)) (T:Int) k).toList
theorem cutOK (Ls:List (List ChgT)) (hG:RunG Ls) (hC:∀ l ∈ Ls,∀ c ∈ l,ChgG c) (base un:Nat) (hbu:base≤un) (T:Nat) (hT:T≤3) (k:Int) (hk:1≤k) (hk9:k≤1000000000):CutOK Ls base un T k:=by
  have hrw:=hG.rows hC base
  have hfo:∀ l ∈ (Ls.take un).drop base,ChgsOK l∧validF l=true:=fun l hl=>hG.at_cut hl
  have hrp:rowsP (proveF (stF (Ls.take base)) (T:Int) 0 k k) 0=(getR (stF (Ls.take base)) (T:Int) k).toList:=by
    rw [rowsP_proveF hrw.2.1 (T:Int) 0 k k (by omega) (by omega) hk9,selF_row hrw.2.1]
  refine ⟨fun L hL=>⟨(hfo L hL).1.few,fun c hc=>⟨(hfo L hL).1.ok c hc,validF_turns (hfo L hL).2 c hc⟩⟩,hfo,proveF_comp hrw.2.1 hrw.2.2.1 (by have:=hrw.2.2.2;omega) (T:Int) (by omega) 0 (by omega) k k (by omega),?_,?_,?_⟩
  · rw [hrp]
    have:=(oneK_get (stF (Ls.take base)) (T:Int) k).1
    omega
  · rw [hrp]
    exact oneK_get _ _ _
  · rw [hrp,replF_law (T:Int) k _ hrw.2.1 (fun L hL=>validF_turns (hfo L hL).2),stF_cut Ls base un hbu]
theorem sinceLe (Ls:List (List ChgT)) (T:Int) (k:Int) (base un:Nat) (hbu:base≤un):base≤sinceF T k base ((Ls.take un).drop base) (un-base)∧sinceF T k base ((Ls.take un).drop base) (un-base)≤un:=by
  have h:=sinceF_le T k base ((Ls.take un).drop base) (un-base)
  omega
section
attribute [local go_sem ↓] Go.wp_at_zero Go.wp_at_succ
variable (Ls:List (List ChgT)) (hL16:Ls.length≤16) (hG:RunG Ls) (hC:∀ l ∈ Ls,∀ c ∈ l,ChgG c) (base un:Nat) (hbu:base≤un) (hun:un≤Ls.length) (T:Nat) (hT:T≤3) (k:Int) (hq:QryT.Ok ⟨1,(T:Int),0,k,k,0,0⟩) (hk1:1≤k) (hk9:k≤1000000000)
include hL16 hG hC hbu hun hT hq hk1 hk9
theorem answerL (v:Value) (w:World) (hv:RecsL w v 1 Ls) (hR:RoundOK w) :
    Calls Tryz.prog 9 #[v,.int .i64 (base:Int),.int .i64 (un:Int),.agg #[.int .i64 1,.int .i64 (T:Int),.int .i64 0,.int .i64 k,.int .i64 k,.int .i64 0,.int .i64 0]] w fun e w'=>∃ u rv lv,e=.returned (.tuple #[.agg (ansArr (T:Int) k u 0 false (sinceF (T:Int) k base ((Ls.take un).drop base) (un-base):Int) (un:Int) (base:Int) rv lv),.bool true])∧AnsQ w' (getR (stF (Ls.take un)) (T:Int) k).toList (proveF (stF (Ls.take base)) (T:Int) 0 k k) base ((Ls.take un).drop base) u rv lv∧Below w.heap.size w w':=by
  have hc:=cutOK Ls hG hC base un hbu T hT k hk1 hk9
  have h:=answerQ Ls hL16 hG hC base un hbu hun (T:Int) k hq hk1 hc.ch hc.cp hc.len hc.one v w hv hR
  rw [hc.rows] at h
  exact h
theorem checkL (u rv lv:Value) (w:World) (ha:AnsQ w (getR (stF (Ls.take un)) (T:Int) k).toList (proveF (stF (Ls.take base)) (T:Int) 0 k k) base ((Ls.take un).drop base) u rv lv) (hR:RoundOK w) :
    Calls Tryz.prog 31 #[.agg #[.int .i64 (base:Int),.string (headF Ls base).1,.string (headF Ls base).2],.agg #[.int .i64 (un:Int),.string (headF Ls un).1,.string (headF Ls un).2],.agg (ansArr (T:Int) k u 0 false (sinceF (T:Int) k base ((Ls.take un).drop base) (un-base):Int) (un:Int) (base:Int) rv lv)] w fun e w'=>e=.returned (.bool true)∧Below w.heap.size w w':=by
  have hc:=cutOK Ls hG hC base un hbu T hT k hk1 hk9
  have hrw:=hG.rows hC base
  have hdl:((Ls.take un).drop base).length=un-base:=by rw [List.length_drop,List.length_take];omega
  rw [← hc.rows] at ha
  have hA:headF Ls base=(chainK 0 zeros32 Ls base,stRootF (stF (Ls.take base))):=rfl
  have hU:headF Ls un=(chainK 0 zeros32 Ls un,stRootF (stF (Ls.take un))):=rfl
  have sA:=headF_sizes Ls base
  have sU:=headF_sizes Ls un
  rw [hA] at sA
  rw [hU] at sU
  have h1:=chainK_cut Ls zeros32 base un (un-base) (by omega) hun
  rw [show base+(un-base)=un by omega] at h1
  rw [hA,hU]
  have hst:un-base=0→stRootF (stF (Ls.take base))=stRootF (stF (Ls.take un)):=fun h0=>by rw [show base=un by omega]
  dsimp only at sA sU ⊢
  generalize chainK 0 zeros32 Ls base=cA at *
  generalize chainK 0 zeros32 Ls un=cU at *
  generalize stRootF (stF (Ls.take un))=rU at *
  have h:=checkQ (stF (Ls.take base)) hrw.2.2.1 (by have:=hrw.2.2.2;omega) hrw.2.1 T hT k hq hk1 ((Ls.take un).drop base) base un (by omega) (by omega) hc.ch hc.fo hc.len hc.one cA (stRootF (stF (Ls.take base))) cU rU sA.1 rfl sU.1 sU.2 (by rw [hdl];exact h1) (by rw [hdl];exact hst) u rv lv w ha hR
  rw [hdl] at h
  exact h
end
section
attribute [local go_sem ↓] Go.wp_at_zero Go.wp_at_succ
theorem pick29 (c n:Int) (hn:0<n) (hn2:n≤1000000000) (hc : -9223372036854775808≤c) (hc2:c≤9223372036854775807):∃ k:Nat,(k:Int)<n∧∀ w:World,Calls Tryz.prog 8 #[.int .i64 c,.int .i64 n] w fun e w'=>e=.returned (.int .i64 (k:Int))∧w=w':=by
  by_cases h0:c<0
  · have e1:IntKind.i64.wrap (c+1)=c+1:=IntWalk.i64_in _ (by omega)
    have e2:IntKind.i64.wrap (-(c+1)) = -(c+1):=IntWalk.i64_in _ (by omega)
    have hm:0≤(-(c+1)) % n∧(-(c+1)) % n<n:=⟨Int.emod_nonneg _ (by omega),Int.emod_lt_of_pos _ hn⟩
    have hp0:(0:Int) ≤ -(c+1):=by omega
    obtain ⟨k,hk⟩:=Int.eq_ofNat_of_zero_le hm.1
    refine ⟨k,by rw [← hk];exact hm.2,fun w=>?_⟩
    have HK:=Lib.hid hk
    clear hk
    go_enter Tryz.func8,Tryz.ntmps8
    go_wp2
    go_ret
    exact ⟨by rw [← HK.out];show Ending.returned (Value.int .i64 (-(c+1).tmod n))=_;rw [← Int.neg_tmod,Int.tmod_eq_emod_of_nonneg hp0],rfl⟩
  · have hm:0≤c % n∧c % n<n:=⟨Int.emod_nonneg _ (by omega),Int.emod_lt_of_pos _ hn⟩
    obtain ⟨k,hk⟩:=Int.eq_ofNat_of_zero_le hm.1
    refine ⟨k,by rw [← hk];exact hm.2,fun w=>?_⟩
    have HK:=Lib.hid hk
    clear hk
    go_enter Tryz.func8,Tryz.ntmps8
    go_wp2
    go_ret
    exact ⟨by rw [← HK.out];rfl,rfl⟩
theorem SexAt.cut {w:World} {A:Option Addr} {c:Nat} {T:List (Nat→Int)} (h:SexAt w (.slice A T.length c) T) (k:Nat) (hk:k≤T.length):SexAt w (.slice A k c) (T.take k):=by
  obtain ⟨A',c',e,h⟩:=h
  injection e with e1 _ e3
  subst e1 e3
  refine ⟨A,c,by rw [List.length_take,Nat.min_eq_left hk],fun h0=>?_⟩
  rw [List.length_take] at h0
  obtain ⟨b,off,hA,hc⟩:=h (by omega)
  refine ⟨b,off,hA,fun j x hx i hi=>hc j x ?_ i hi⟩
  rw [List.getElem?_take] at hx
  split at hx
  · exact hx
  · cases hx
set_option maxRecDepth 100000 in
theorem records29 (T:List (Nat→Int)) (v:Value) (w:World) (hv:SexAt w v T) (hcap:CapV v) (hT:Sex64 T) (hbig:T.length≤9223372036854775807):Calls Tryz.prog 7 #[v] w fun e w'=>
    ∃ u Ls,e=.returned u∧RecsL w' u 1 Ls∧Ls.length≤16∧RunG Ls∧(∀ l ∈ Ls,∀ c ∈ l,ChgG c)∧Below w.heap.size w w':=by
  obtain ⟨A,c,rfl,-⟩:=id hv
  have hc:T.length≤c:=hcap _ _ _ rfl
  obtain ⟨k,hk⟩:∃ k,k=min T.length 16:=⟨_,rfl⟩
  have hk1:k≤T.length:=by omega
  have HLG:=Lib.hid (refLog (T.take k) (by rw [List.length_take];omega) (.slice A k c) w (hv.cut k hk1) (fun x hx=>hT x (List.mem_of_mem_take hx)))
  subst hk
  clear hv hcap hT
  go_enter Tryz.func7,Tryz.ntmps7
  go_wp2_with fail
  rw [show (min (T.length:Int) 16).toNat=min T.length 16 by omega]
  refine HLG.out.mono ?_
  rintro e W1 ⟨u,R,rfl,h1,h2,h3,h4,hb1⟩
  obtain ⟨Au,cu,rfl,-⟩:=id h1
  have HU:=Lib.hid h1
  have HE1:=Lib.hid hb1
  have HQ:=Lib.hid (And.intro h2 (And.intro h3 h4))
  clear h1 h2 h3 h4 hb1
  go_wp2
  go_ret
  refine ⟨_,trs R,rfl,HU.out,?_,HQ.out.2.1,fun l hl c hc=>?_,HE1.out⟩
  · have:=HQ.out.1
    rw [List.length_take] at this
    simp only [trs,List.length_map]
    omega
  · obtain ⟨x,hx,rfl⟩:=List.mem_map.1 hl
    exact HQ.out.2.2 x hx c hc
end
end Go.Proofs.YtimoapjhepmehaaGreatDoor
