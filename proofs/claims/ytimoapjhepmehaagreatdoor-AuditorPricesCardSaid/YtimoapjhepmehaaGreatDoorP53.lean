/-
  package cachetierlaw29: AuditorPrices at any rows of integers.
-/
import Derived.Test.YtimoapjhepmehaaGreatDoorP52
import Derived.Deep.RegionHeld3
set_option linter.unusedSimpArgs false
set_option linter.unusedVariables false
set_option maxHeartbeats 4000000
set_option maxRecDepth 100000
namespace Go.Proofs.YtimoapjhepmehaaGreatDoor
open Go.RowKit Go.Shelf
attribute [local go_sem ↓] Go.wp_at_zero Go.wp_at_succ
theorem twoKeep {X W:World} {g:Nat} {t:TypeId} {a b:Value} (h:Blk X g t #[a,b]) (k:Below X.heap.size X W):W.cell? ⟨g,0,none⟩=some a∧W.cell? ⟨g,1,none⟩=some b∧Below X.heap.size X W:=⟨(h.ext k).cell 0,(h.ext k).cell 1,k⟩
theorem RowT.col_wrap {x:RowT} (hx:x.ok) {c:Nat} (hc:1≤c∧c≤3) {q:Int} (h0:0≤q) (h1:q<1000000000):IntKind.i64.wrap (x.col c*q)=x.col c*q:=by
  have hb : -1000000000≤x.col c∧x.col c≤1000000000:=by
    obtain ⟨-,-,ha,hb,hc'⟩:=hx
    have h3:c=1∨c=2∨c=3:=by omega
    rcases h3 with rfl|rfl|rfl
    · exact ha
    · exact hb
    · exact hc'
  have h2:x.col c*q≤1000000000*1000000000:=by
    by_cases h:0≤x.col c
    · exact Int.mul_le_mul hb.2 (by omega) h0 (by omega)
    · have:x.col c*q≤0:=Int.mul_nonpos_of_nonpos_of_nonneg (by omega) h0
      omega
  have h3 : -(1000000000*1000000000)≤x.col c*q:=by
    have h4:(-x.col c)*q≤1000000000*1000000000:=by
      by_cases h:0 ≤ -x.col c
      · exact Int.mul_le_mul (by omega) (by omega) h0 (by omega)
      · have:(-x.col c)*q≤0:=Int.mul_nonpos_of_nonpos_of_nonneg (by omega) h0
        omega
    rw [Int.neg_mul] at h4
    omega
  exact IntWalk.i64_in _ (by omega)
theorem settleL (o:Option RowT) (ho:∀ x,o=some x→x.ok) (pp:RPT) (t k si:Int) (un base:Nat) (Lc:List (List ChgT)) (u rv lv:Value) (w:World) (ha:AnsQ w o.toList pp base Lc u rv lv) (ga c:Nat) (hc:1≤c∧c≤3) (q:Int) (h0:0≤q) (h1:q<1000000000) (pos:Int)
    (hA:∀ W:World,Below w.heap.size w W→Calls Tryz.prog 14 #[.pointer (some ⟨ga,0,none⟩),.agg (ansArr t k u 0 false si (un:Int) (base:Int) rv lv),.int .i64 pos] W fun e w'=>e=.returned (.bool true)∧Below W.heap.size W w') :
    Calls Tryz.prog 18 #[.pointer (some ⟨ga,0,none⟩),.agg (ansArr t k u 0 false si (un:Int) (base:Int) rv lv),.int .i64 pos,.int .i64 (c:Int),.int .i64 q] w fun e w'=>e=.returned (.tuple #[.int .i64 ((o.map fun x=>x.col c*q).getD 0),.bool o.isSome])∧Below w.heap.size w w':=by
  obtain ⟨Au,cu,Ar,cr,Al,cl,rfl,rfl,rfl⟩:=ha.shape
  cases o with
  | none=>exact settleI0 _ t k si un base Au Ar Al cu cr Lc.length cl pos _ q w
  | some x=>
    obtain ⟨gr,cr',e1,-,hcr⟩:=ha.rows.at_ (j:=0) (r:=x) rfl
    injection e1 with e1 _ e3
    subst e1 e3
    exact settleI1 ga t k si un base Ar Al cu cr Lc.length cl x gr pos q c hc (by omega) (RowT.col_wrap (ho x rfl) hc h0 h1) w (fun i hi=>by have:=hcr i hi;rwa [Nat.zero_mul,Nat.zero_add] at this) hA
theorem atL (Ls:List (List ChgT)) (hL16:Ls.length≤16) (hG:RunG Ls) (hC:∀ l ∈ Ls,∀ c ∈ l,ChgG c) (base un:Nat) (hbu:base≤un) (hun:un≤Ls.length) (T:Nat) (hT:T≤3) (k:Int) (hk1:1≤k) (hk9:k≤1000000) (ga gm:Nat) (n:Int) (rt:ByteArray) (kv:List (Int × Value)) (u rv lv:Value) (w:World)
    (hA:AudI w ga gm n rt kv) (h1:getI kv (base:Int)=some (headV base (headF Ls base))) (h2:getI kv (un:Int)=some (headV un (headF Ls un))) (ha:AnsQ w (getR (stF (Ls.take un)) (T:Int) k).toList (proveF (stF (Ls.take base)) (T:Int) 0 k k) base ((Ls.take un).drop base) u rv lv) (hR:RoundOK w) :
    Calls Tryz.prog 14 #[.pointer (some ⟨ga,0,none⟩),.agg (ansArr (T:Int) k u 0 false (sinceF (T:Int) k base ((Ls.take un).drop base) (un-base):Int) (un:Int) (base:Int) rv lv),.int .i64 (un:Int)] w fun e w'=>e=.returned (.bool true)∧Below w.heap.size w w':=by
  have hs:=sinceLe Ls (T:Int) k base un hbu
  have HCK:=fun (W:World) (h:Below w.heap.size w W)=>checkL Ls hL16 hG hC base un hbu hun T hT k (rowQ T hT k hk1 hk9) hk1 (by omega) u rv lv W (ha.ext h) (hR.below h)
  obtain ⟨Au,cu,Ar,cr,Al,cl,rfl,rfl,rfl⟩:=ha.shape
  unfold ansArr at HCK ⊢
  generalize headF Ls base=hb at *
  generalize headF Ls un=hu at *
  obtain ⟨ca,sa⟩:=hb
  obtain ⟨cb,sb⟩:=hu
  exact audAtI ga (T:Int) k _ un base Au Ar Al _ cu cr _ cl (un:Int) true (by omega) (Int.le_refl _) w (fun W h=>audCheckI ga gm n rt kv ca sa cb sb (T:Int) k _ un base Au Ar Al _ cu cr _ cl true W (hA.ext h) h1 h2 (fun V g=>HCK V (ext_call h g)))
theorem pack (Ls:List (List ChgT)) (hL16:Ls.length≤16) (hG:RunG Ls) (hC:∀ l ∈ Ls,∀ c ∈ l,ChgG c) (un:Nat) (hun:un≤Ls.length) (T:Nat) (hT:T≤3) (k:Int) (hk1:1≤k) (hk9:k≤1000000) (base:Nat) (hbu:base≤un):∃ (pp:RPT) (Lc:List (List ChgT)) (si:Int),
    (∀ (v:Value) (W:World),RecsL W v 1 Ls→RoundOK W→Calls Tryz.prog 9 #[v,.int .i64 (base:Int),.int .i64 (un:Int),.agg #[.int .i64 1,.int .i64 (T:Int),.int .i64 0,.int .i64 k,.int .i64 k,.int .i64 0,.int .i64 0]] W fun e w'=>∃ u rv lv,e=.returned (.tuple #[.agg (ansArr (T:Int) k u 0 false si (un:Int) (base:Int) rv lv),.bool true])∧AnsQ w' (getR (stF (Ls.take un)) (T:Int) k).toList pp base Lc u rv lv∧Below W.heap.size W w') ∧
    (∀ (ga gm:Nat) (n:Int) (rt:ByteArray) (kv:List (Int × Value)) (u rv lv:Value) (w:World),AudI w ga gm n rt kv→getI kv (base:Int)=some (headV base (headF Ls base))→getI kv (un:Int)=some (headV un (headF Ls un))→AnsQ w (getR (stF (Ls.take un)) (T:Int) k).toList pp base Lc u rv lv→RoundOK w →
      Calls Tryz.prog 14 #[.pointer (some ⟨ga,0,none⟩),.agg (ansArr (T:Int) k u 0 false si (un:Int) (base:Int) rv lv),.int .i64 (un:Int)] w fun e w'=>e=.returned (.bool true)∧Below w.heap.size w w'):=
  ⟨_,_,_,fun v W hv hR=>answerL Ls hL16 hG hC base un hbu hun T hT k (rowQ T hT k hk1 hk9) hk1 (by omega) v W hv hR,fun ga gm n rt kv u rv lv w hA h1 h2 ha hR=>atL Ls hL16 hG hC base un hbu hun T hT k hk1 hk9 ga gm n rt kv u rv lv w hA h1 h2 ha hR⟩
set_option maxHeartbeats 16000000 in
theorem pricesW (T:List (Nat→Int)) (v:Value) (r0 r1 p0 p1 p2 col qn:Int) (w:World) (hv:SexAt w v T) (hcap:CapV v) (hT:Sex64 T) (hbig:T.length≤9223372036854775807) (i0:in64 r0) (i1:in64 r1) (i2:in64 p0) (i3:in64 p1) (i4:in64 p2) (i5:in64 col) (i6:in64 qn) (hR:RoundOK w) :
    Calls Tryz.prog 5 #[v,.agg #[.int .i64 r0,.int .i64 r1],.agg #[.int .i64 p0,.int .i64 p1,.int .i64 p2],.int .i64 col,.int .i64 qn] w fun e w'=>e=.returned (.bool true)∧Below w.heap.size w w':=by
  obtain ⟨T0,hT0,hP0⟩:=pick29 r0 3 (by omega) (by omega) i0.1 i0.2
  obtain ⟨k0,hk0,hP1⟩:=pick29 r1 9 (by omega) (by omega) i1.1 i1.2
  obtain ⟨kc,hkc,hPC⟩:=pick29 col 3 (by omega) (by omega) i5.1 i5.2
  obtain ⟨qk,hqk,hPQ⟩:=pick29 qn 1000000000 (by omega) (by omega) i6.1 i6.2
  have HP0:=Lib.hid hP0
  have HP1:=Lib.hid hP1
  have HPC:=Lib.hid hPC
  have HPQ:=Lib.hid hPQ
  obtain ⟨k,hk⟩:∃ k:Int,k=1+(k0:Int):=⟨_,rfl⟩
  have hkb:1≤k∧k≤9:=by omega
  have hwk:IntKind.i64.wrap (1+(k0:Int))=k:=by rw [IntWalk.i64_in _ (by omega),hk]
  have HRC:=Lib.hid (fun (W:World) (h:Below w.heap.size w W)=>records29 T v W (hv.ext h) hcap hT hbig)
  have HR:=Lib.hid hR
  obtain ⟨Av,cv,rfl,-⟩:=id hv
  have HQP:=Lib.hid (show ∀ (c n:Int),0<n→n≤1000→in64 c→∃ k:Nat,(k:Int)<n∧∀ w:World,Calls Tryz.prog 8 #[.int .i64 c,.int .i64 n] w fun e w'=>e=.returned (.int .i64 (k:Int))∧w=w' from fun c n h1 h2 h3=>pick29 c n h1 (by omega) h3.1 h3.2)
  have HI:=Lib.hid (And.intro i2 (And.intro i3 i4))
  clear hv hcap hT hbig hR hP0 hP1 hPC hPQ i0 i1 i2 i3 i4 i5 i6
  obtain ⟨W0,hW0⟩:∃ W0,W0=(w.alloc (.cells #[.int .i64 r0,.int .i64 r1] 61)).alloc (.cells #[.int .i64 p0,.int .i64 p1,.int .i64 p2] 62):=⟨_,rfl⟩
  have HE0:=Lib.hid (show Below w.heap.size w W0 by rw [hW0];exact ext_alloc (ext_new _ _) _)
  have HA0:=Lib.hid (show Blk W0 w.heap.size 61 #[.int .i64 r0,.int .i64 r1] by rw [hW0];exact (Blk.new _ _ _).alloc _)
  have HB0:=Lib.hid (show Blk W0 (w.heap.size+1) 62 #[.int .i64 p0,.int .i64 p1,.int .i64 p2] by rw [hW0];exact Blk.new' _ _ _ (by simp))
  have HW0:=Lib.hid hW0
  clear hW0
  go_enter Tryz.func5,Tryz.ntmps5
  go_wp2_with fail
  rw [← HW0.out]
  refine (saneG _ (HR.out.below HE0.out)).mono ?_
  rintro e W1 ⟨rfl,hb1⟩
  have HE1:=Lib.hid (ext_call HE0.out hb1)
  have HA1:=Lib.hid (HA0.out.ext hb1)
  have HB1:=Lib.hid (HB0.out.ext hb1)
  clear hb1 HW0 HE0 HA0 HB0
  go_wp2_with fail
  refine (HRC.out _ HE1.out).mono ?_
  rintro e Y ⟨u,Ls,rfl,hls,hl16,hrun,hchg,hb2⟩
  obtain ⟨Al,cl,rfl,-⟩:=id hls
  have HLS:=Lib.hid hls
  have HRUN:=Lib.hid (And.intro hl16 (And.intro hrun hchg))
  have HEy:=Lib.hid (ext_call HE1.out hb2)
  have HAy:=Lib.hid (HA1.out.ext hb2)
  have HBy:=Lib.hid (HB1.out.ext hb2)
  clear hb2 hls hrun hchg HE1 HA1 HB1 HRC
  have HK:=Lib.hid (twoKeep HAy.out (ext_refl Y))
  obtain ⟨a0,a1,-⟩:=HK.out
  go_upto_region 3 with (fail)
  refine (fun (HS:Go.RowKit.Hid ?TT)=>?leaf) (Lib.hid ?rest)
  case leaf=>
    go_region_held3 (fun w'=>w'.cell? ⟨w.heap.size,0,none⟩=some (.int .i64 r0)∧w'.cell? ⟨w.heap.size,1,none⟩=some (.int .i64 r1)∧Below Y.heap.size Y w')
      (first|with_reducible assumption|exact twoKeep HAy.out (by repeat (first|with_reducible refine ext_alloc ?_ _|with_reducible refine Below.drew ?_|with_reducible assumption|with_reducible exact ext_refl _|refine ext_set ?_ (Nat.le_refl _) _)))
      (first
        | (go_at_call 8;(with_reducible refine (HP0.out _).mono ?_);rintro e w' ⟨rfl,hw'⟩;subst w')
        | (go_at_call 8;(with_reducible refine (HP1.out _).mono ?_);rintro e w' ⟨rfl,hw'⟩;subst w'))
    all_goals exact HS.out
  case rest=>
    rw [← hk]
    have HKK:=Lib.hid hk
    obtain ⟨V,hV⟩:∃ V,V=(Y.alloc (.cells #[.int .i64 1,.int .i64 (T0:Int),.int .i64 0,.int .i64 k,.int .i64 k,.int .i64 0,.int .i64 0] 33)).drew:=⟨_,rfl⟩
    have hEV:Below Y.heap.size Y V:=by rw [hV];exact (ext_new _ _).drew
    have HQ:=Lib.hid (show Blk V Y.heap.size 33 #[.int .i64 1,.int .i64 (T0:Int),.int .i64 0,.int .i64 k,.int .i64 k,.int .i64 0,.int .i64 0] by rw [hV];exact (Blk.new _ _ _).drew)
    rw [← hV]
    have HE2:=Lib.hid (ext_call HEy.out hEV)
    have HB2:=Lib.hid (HBy.out.ext hEV)
    have HL2:=Lib.hid (HLS.out.ext hEV)
    clear hk hV hEV a0 a1 HK HAy HBy HEy HLS hwk
    generalize Y.heap.size=gq at *
    obtain ⟨N,hN⟩:∃ N,N=Ls.length:=⟨_,rfl⟩
    have HNN:=Lib.hid hN
    have hN16:N≤16:=by omega
    rw [← hN] at HL2 ⊢
    clear hN hl16
    obtain ⟨p,hp,hPP⟩:=HQP.out p0 ((N:Int)+1) (by omega) (by omega) HI.out.1
    have hpN:p≤N:=by omega
    obtain ⟨one,ho,hPO⟩:=HQP.out p1 ((p:Int)+1) (by omega) (by omega) HI.out.2.1
    have hop:one≤p:=by omega
    obtain ⟨two,ht,hPT⟩:=HQP.out p2 ((p:Int)+1) (by omega) (by omega) HI.out.2.2
    have htp:two≤p:=by omega
    have HPP:=Lib.hid hPP
    have HPO:=Lib.hid hPO
    have HPT:=Lib.hid hPT
    have e1:IntKind.i64.wrap ((N:Int)+1)=(N:Int)+1:=IntWalk.i64_in _ (by omega)
    have e2:IntKind.i64.wrap ((p:Int)+1)=(p:Int)+1:=IntWalk.i64_in _ (by omega)
    have hB2:=HB2.out
    have c0:=hB2.cell 0
    have c1:=hB2.cell 1
    have c2:=hB2.cell 2
    have hQ2:=HQ.out
    have q0:=hQ2.cell 0;have q1:=hQ2.cell 1;have q2:=hQ2.cell 2;have q3:=hQ2.cell 3;have q4:=hQ2.cell 4;have q5:=hQ2.cell 5;have q6:=hQ2.cell 6
    have hkv:1≤k∧k≤9:=hkb
    clear hPP hPO hPT hp ho ht hB2 hQ2
    go_wp2_with (first
      | (go_at_call 8;(with_reducible refine (HPP.out _).mono ?_);rintro e w' ⟨rfl,hw'⟩;subst w')
      | (go_at_call 8;(with_reducible refine (HPO.out _).mono ?_);rintro e w' ⟨rfl,hw'⟩;subst w')
      | (go_at_call 8;(with_reducible refine (HPT.out _).mono ?_);rintro e w' ⟨rfl,hw'⟩;subst w'))
    obtain ⟨o,hoo⟩:∃ o,o=getR (stF (Ls.take p)) (T0:Int) k:=⟨_,rfl⟩
    have HOK:=Lib.hid (show ∀ x,o=some x→x.ok from fun x hx=>by
      have h1:=(HRUN.out.2.1.rows HRUN.out.2.2 p).2.2.1 x
      rw [hoo] at hx
      exact h1 (List.mem_of_find?_eq_some hx))
    obtain ⟨ppa,Lca,sa,hAA,hTA⟩:=pack Ls HRUN.out.1 HRUN.out.2.1 HRUN.out.2.2 p (by have:=HNN.out;omega) T0 (by omega) k hkv.1 (by omega) one hop
    obtain ⟨ppb,Lcb,sb,hAB,hTB⟩:=pack Ls HRUN.out.1 HRUN.out.2.1 HRUN.out.2.2 p (by have:=HNN.out;omega) T0 (by omega) k hkv.1 (by omega) two htp
    rw [← hoo] at hAA hTA hAB hTB
    have HAA:=Lib.hid hAA
    have HTA:=Lib.hid hTA
    have HAB:=Lib.hid hAB
    have HTB:=Lib.hid hTB
    have HGE:=Lib.hid (fun (W:World) (h:RecsL W (.slice Al N cl) 1 Ls)=>show Calls Tryz.prog 19 #[.slice Al N cl,.int .i64 (p:Int)] W fun e w'=>∃ gs gm,e=.returned (.tuple #[.pointer (some ⟨gs,0,none⟩),.int .i64 0])∧(∀ X:World,Below w'.heap.size w' X→Calls Tryz.prog 20 #[.pointer (some ⟨gs,0,none⟩),.int .i64 (T0:Int),.int .i64 k] X fun e w'=>e=.returned (.tuple #[.agg #[.int .i64 (o.getD zeroR).t,.int .i64 (o.getD zeroR).k,.int .i64 (o.getD zeroR).a,.int .i64 (o.getD zeroR).b,.int .i64 (o.getD zeroR).c],.bool o.isSome])∧Below X.heap.size X w')∧Below W.heap.size W w' from
      (atS Ls _ p (by have:=HNN.out;omega) (by have:=HNN.out;omega) HRUN.out.2.1 W h).mono (fun e w' ⟨gs,gm,q1,q2,_,_,q5⟩=>⟨gs,gm,q1,fun X hX=>by rw [hoo];exact getR_any gs gm (p:Int) _ (T0:Int) k X (q2.ext hX),q5⟩))
    clear hAA hTA hAB hTB hoo
    obtain ⟨nu,hnu⟩:∃ nu,nu=o.toList.length:=⟨_,rfl⟩
    have HNU:=Lib.hid hnu
    clear hnu
    refine (HAA.out _ V HL2.out (HR.out.below HE2.out)).mono ?_
    rintro e W3 ⟨ua,ra',la',rfl,han,hb3⟩
    obtain ⟨Aa,ca,Ra,ra,La,la,rfl,rfl,rfl⟩:=han.shape
    rw [← HNU.out] at han ⊢
    have HA3:=Lib.hid han
    have HE3:=Lib.hid (ext_call HE2.out hb3)
    have HQ3:=Lib.hid (HQ.out.ext hb3)
    have HL3:=Lib.hid (HL2.out.ext hb3)
    have hQ3:=HQ3.out
    clear q0 q1 q2 q3 q4 q5 q6 c0 c1 c2 hb3 han HQ HL2 HE2 HB2
    have q0:=hQ3.cell 0;have q1:=hQ3.cell 1;have q2:=hQ3.cell 2;have q3:=hQ3.cell 3;have q4:=hQ3.cell 4;have q5:=hQ3.cell 5;have q6:=hQ3.cell 6
    have ql:=hQ3.lt
    clear hQ3
    unfold ansArr
    go_wp2_with fail
    have HX1:=Lib.hid (ext_new W3 (.cells #[.int .i64 1,.int .i64 (T0:Int),.int .i64 0,.int .i64 k,.int .i64 k,.int .i64 0,.int .i64 0,.slice Aa nu ca,.int .i64 0,.bool false,.int .i64 sa,.int .i64 (p:Int),.int .i64 (one:Int),.slice Ra 1 ra,.slice La Lca.length la] 39))
    refine (HAB.out _ _ (HL3.out.ext HX1.out) (HR.out.below (ext_call HE3.out HX1.out))).mono ?_
    rintro e W4 ⟨ub,rb',lb',rfl,han,hb4⟩
    obtain ⟨Ab,cb,Rb,rb,Lb,lb,rfl,rfl,rfl⟩:=han.shape
    rw [← HNU.out] at han ⊢
    have HB4:=Lib.hid han
    have HA4:=Lib.hid ((HA3.out.ext HX1.out).ext hb4)
    have HBa4:=Lib.hid ((Blk.new W3 39 #[.int .i64 1,.int .i64 (T0:Int),.int .i64 0,.int .i64 k,.int .i64 k,.int .i64 0,.int .i64 0,.slice Aa nu ca,.int .i64 0,.bool false,.int .i64 sa,.int .i64 (p:Int),.int .i64 (one:Int),.slice Ra 1 ra,.slice La Lca.length la]).ext hb4)
    have HE4:=Lib.hid (ext_call (ext_call HE3.out HX1.out) hb4)
    have HQ4:=Lib.hid ((HQ3.out.ext HX1.out).ext hb4)
    have HL4:=Lib.hid ((HL3.out.ext HX1.out).ext hb4)
    generalize W3.heap.size=ba at *
    clear q0 q1 q2 q3 q4 q5 q6 ql hb4 han HX1 HA3 HQ3 HL3 HE3
    unfold ansArr
    go_wp2_with fail
    have HX2:=Lib.hid (ext_new W4 (.cells #[.int .i64 1,.int .i64 (T0:Int),.int .i64 0,.int .i64 k,.int .i64 k,.int .i64 0,.int .i64 0,.slice Ab nu cb,.int .i64 0,.bool false,.int .i64 sb,.int .i64 (p:Int),.int .i64 (two:Int),.slice Rb 1 rb,.slice Lb Lcb.length lb] 39))
    have HX3:=Lib.hid (ext_new (W4.alloc (.cells #[.int .i64 1,.int .i64 (T0:Int),.int .i64 0,.int .i64 k,.int .i64 k,.int .i64 0,.int .i64 0,.slice Ab nu cb,.int .i64 0,.bool false,.int .i64 sb,.int .i64 (p:Int),.int .i64 (two:Int),.slice Rb 1 rb,.slice Lb Lcb.length lb] 39)) (.cells #[.int .i64 (one:Int),.int .i64 (two:Int),.int .i64 (p:Int)] 3))
    have HXX:=Lib.hid (ext_call HX2.out HX3.out)
    have HI3:=Lib.hid (Blk.new' (W4.alloc (.cells #[.int .i64 1,.int .i64 (T0:Int),.int .i64 0,.int .i64 k,.int .i64 k,.int .i64 0,.int .i64 0,.slice Ab nu cb,.int .i64 0,.bool false,.int .i64 sb,.int .i64 (p:Int),.int .i64 (two:Int),.slice Rb 1 rb,.slice Lb Lcb.length lb] 39)) 3 #[.int .i64 (one:Int),.int .i64 (two:Int),.int .i64 (p:Int)] (b:=W4.heap.size+1) (by simp))
    have HIX:=Lib.hid (show ∀ (j q:Nat),([one,two,p]:List Nat)[j]? = some q→((W4.alloc (.cells #[.int .i64 1,.int .i64 (T0:Int),.int .i64 0,.int .i64 k,.int .i64 k,.int .i64 0,.int .i64 0,.slice Ab nu cb,.int .i64 0,.bool false,.int .i64 sb,.int .i64 (p:Int),.int .i64 (two:Int),.slice Rb 1 rb,.slice Lb Lcb.length lb] 39)).alloc (.cells #[.int .i64 (one:Int),.int .i64 (two:Int),.int .i64 (p:Int)] 3)).cell? ⟨W4.heap.size+1,j,none⟩=some (.int .i64 (q:Int)) from fun j q hj=>by
      rcases j with _|_|_|j
      · obtain rfl:one=q:=by simpa using hj
        exact HI3.out.cell 0
      · obtain rfl:two=q:=by simpa using hj
        exact HI3.out.cell 1
      · obtain rfl:p=q:=by simpa using hj
        exact HI3.out.cell 2
      · simp at hj)
    refine (informedG Ls (.slice Al N cl) 0 N HNN.out (by omega) hN16 HRUN.out.2.1 HRUN.out.2.2 [one,two,p] (by simp;omega) (by simp) (W4.heap.size+1) 3 _ (HL4.out.ext HXX.out) HIX.out (HR.out.below (ext_call HE4.out HXX.out))).mono ?_
    rintro e W5 ⟨ga,gm,kv,rfl,ha5,-,hp5,-,-,hb5⟩
    have HE5:=Lib.hid (ext_call (ext_call HE4.out HXX.out) hb5)
    have HAU:=Lib.hid ha5
    have HK1:=Lib.hid (hp5 one (by simp))
    have HK2:=Lib.hid (hp5 two (by simp))
    have HKP:=Lib.hid (hp5 p (by simp))
    have HA5:=Lib.hid ((HA4.out.ext HXX.out).ext hb5)
    have HB5:=Lib.hid ((HB4.out.ext HXX.out).ext hb5)
    have HBa5:=Lib.hid ((HBa4.out.ext HXX.out).ext hb5)
    have HBb5:=Lib.hid (((Blk.new W4 39 #[.int .i64 1,.int .i64 (T0:Int),.int .i64 0,.int .i64 k,.int .i64 k,.int .i64 0,.int .i64 0,.slice Ab nu cb,.int .i64 0,.bool false,.int .i64 sb,.int .i64 (p:Int),.int .i64 (two:Int),.slice Rb 1 rb,.slice Lb Lcb.length lb]).alloc (.cells #[.int .i64 (one:Int),.int .i64 (two:Int),.int .i64 (p:Int)] 3)).ext hb5)
    have HQ5:=Lib.hid ((HQ4.out.ext HXX.out).ext hb5)
    have HL5:=Lib.hid ((HL4.out.ext HXX.out).ext hb5)
    generalize W4.heap.size=bb at *
    generalize logRootF (headsF Ls N)=rt at *
    clear ha5 hp5 hb5 HX2 HX3 HXX HI3 HIX HA4 HB4 HBa4 HQ4 HL4 HE4 HAA HAB
    obtain ⟨c,hc⟩:∃ c:Nat,c=1+kc:=⟨_,rfl⟩
    have hcb:1≤c∧c≤3:=by omega
    have HCE:=Lib.hid (show (1+(kc:Int))=(c:Int) by omega)
    clear hc
    obtain ⟨a0,a1,a2,a3,a4,a5,a6,a7,a8,a9,a10,a11,a12,a13,a14⟩:=cells15 HBa5.out
    go_wp2_with (first
      | (go_at_call 8;(with_reducible refine (HPC.out _).mono ?_);rintro e w' ⟨rfl,hw'⟩;subst w')
      | (go_at_call 8;(with_reducible refine (HPQ.out _).mono ?_);rintro e w' ⟨rfl,hw'⟩;subst w'))
    rw [HCE.out]
    have HSA:=Lib.hid (settleL o HOK.out ppa (T0:Int) k sa p one Lca _ _ _ W5 HA5.out ga c hcb (qk:Int) (by omega) hqk (p:Int) (fun W h=>HTA.out ga gm (N:Int) rt kv _ _ _ W (HAU.out.ext h) HK1.out HKP.out (HA5.out.ext h) (HR.out.below (ext_call HE5.out h))))
    have HSB:=Lib.hid (fun (V:World) (g:Below W5.heap.size W5 V)=>settleL o HOK.out ppb (T0:Int) k sb p two Lcb _ _ _ V (HB5.out.ext g) ga c hcb (qk:Int) (by omega) hqk (p:Int) (fun W h=>HTB.out ga gm (N:Int) rt kv _ _ _ W (HAU.out.ext (ext_call g h)) HK2.out HKP.out (HB5.out.ext (ext_call g h)) (HR.out.below (ext_call HE5.out (ext_call g h)))))
    unfold ansArr at HSA HSB
    obtain ⟨m,hm⟩:∃ m:Int,m=(o.map fun x=>x.col c*(qk:Int)).getD 0:=⟨_,rfl⟩
    obtain ⟨bo,hbo⟩:∃ bo:Bool,bo=o.isSome:=⟨_,rfl⟩
    rw [← hm,← hbo] at HSA HSB
    rw [← hbo] at HGE
    have HM:=Lib.hid hm
    have HBO:=Lib.hid hbo
    clear hm hbo HTA HTB
    refine HSA.out.mono ?_
    rintro e W6 ⟨rfl,hb6⟩
    have HE6:=Lib.hid hb6
    clear hb6 a0 a1 a2 a3 a4 a5 a6 a7 a8 a9 a10 a11 a12 a13 a14 HSA
    obtain ⟨a0,a1,a2,a3,a4,a5,a6,a7,a8,a9,a10,a11,a12,a13,a14⟩:=cells15 (HBb5.out.ext HE6.out)
    go_wp2_with fail
    try rw [HCE.out]
    refine (HSB.out _ HE6.out).mono ?_
    rintro e W7 ⟨rfl,hb7⟩
    have HE7:=Lib.hid (ext_call HE6.out hb7)
    clear hb7 a0 a1 a2 a3 a4 a5 a6 a7 a8 a9 a10 a11 a12 a13 a14 HSB
    go_wp2_with fail
    refine (HGE.out _ (HL5.out.ext HE7.out)).mono ?_
    rintro e W8 ⟨gs,gm8,rfl,hget,hb8⟩
    have HGT:=Lib.hid hget
    have HE8:=Lib.hid (ext_call HE7.out hb8)
    have hQ8:=HQ5.out.ext HE8.out
    have q0:=hQ8.cell 0;have q1:=hQ8.cell 1;have q2:=hQ8.cell 2;have q3:=hQ8.cell 3;have q4:=hQ8.cell 4;have q5:=hQ8.cell 5;have q6:=hQ8.cell 6
    clear hget hb8 hQ8 HGE
    go_wp2_with fail
    refine (HGT.out _ (ext_refl _)).mono ?_
    rintro e W9 ⟨rfl,hb9⟩
    have HE9:=Lib.hid (ext_call HE8.out hb9)
    clear hb9 q0 q1 q2 q3 q4 q5 q6 HGT
    obtain ⟨ci,hci⟩:∃ ci:Int,ci=(c:Int):=⟨_,rfl⟩
    rw [← hci]
    clear HBa5 HBb5 HQ5 HL5 HA5 HB5 HAU HK1 HK2 HKP HRUN HNN HCE HPP HPO HPT HPC HPQ HP0 HP1 HQP HI HNU
    cases o with
    | none=>
      obtain rfl:bo=false:=HBO.out
      go_wp2
      go_ret
      exact ⟨rfl,ext_call HE5.out (ext_alloc HE9.out _)⟩
    | some x=>
      obtain rfl:bo=true:=HBO.out
      have hmx:m=x.col c*(qk:Int):=HM.out
      have hwx:=RowT.col_wrap (HOK.out x rfl) hcb (q:=(qk:Int)) (by omega) hqk
      clear HOK HM HBO
      obtain ⟨y0,y1,y2,y3,y4⟩:=x
      have hcc:c=1∨c=2∨c=3:=by omega
      rcases hcc with rfl|rfl|rfl
      · obtain rfl:ci=1:=hci
        dsimp only [RowT.col,Option.getD_some] at hmx hwx ⊢
        subst hmx
        go_wp2
        go_ret
        exact ⟨by simp;exact hwx.symm.trans (IntWalk.i64_left _),ext_call HE5.out (ext_alloc HE9.out _)⟩
      · obtain rfl:ci=2:=hci
        dsimp only [RowT.col,Option.getD_some] at hmx hwx ⊢
        subst hmx
        go_wp2
        go_ret
        exact ⟨by simp;exact hwx.symm.trans (IntWalk.i64_left _),ext_call HE5.out (ext_alloc HE9.out _)⟩
      · obtain rfl:ci=3:=hci
        dsimp only [RowT.col,Option.getD_some] at hmx hwx ⊢
        subst hmx
        go_wp2
        go_ret
        exact ⟨by simp;exact hwx.symm.trans (IntWalk.i64_left _),ext_call HE5.out (ext_alloc HE9.out _)⟩
end Go.Proofs.YtimoapjhepmehaaGreatDoor
