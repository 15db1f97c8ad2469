/-
  package cachetierlaw29: informed at any records.
-/
import Derived.Test.YtimoapjhepmehaaGreatDoorP23
import Derived.Test.YtimoapjhepmehaaGreatDoorP21
import Derived.Deep.Cut
set_option linter.unusedSimpArgs false
set_option linter.unusedVariables false
namespace Go.Proofs.YtimoapjhepmehaaGreatDoor
open Go.RowKit Go.Shelf
attribute [local go_sem ↓] Go.wp_at_zero Go.wp_at_succ
theorem getI_put (v:Value) (n:Int):∀ (kv:List (Int × Value)) (k:Int),getI (setI kv n v) k=if n=k then some v else getI kv k
  | [],k=>by simp [setI,getI]
  | p :: r, k => by
    have ih:=getI_put v n r k
    unfold setI
    by_cases h1:p.1=n
    · rw [if_pos h1]
      unfold getI
      by_cases h2:n=k
      · simp [h2]
      · have h3:¬ p.1=k:=by omega
        simp [h2,h3]
    · rw [if_neg h1]
      unfold getI
      by_cases h2:p.1=k
      · have h3:¬ n=k:=by omega
        simp [h2,h3]
      · simp only [h2,if_false]
        exact ih
theorem own_ext2N {W V:World} {B g sz n:Nat} {e:TypeId} {v:Value} {xs:List Value} (h:W.ownsRow B e sz v n xs) (k:Ext2 g g W V) (hn:∀ cs,¬ Blk W g e cs):V.ownsRow B e sz v n xs:=by
  refine h.kept (row:=some g) ⟨k.os,k.tape,k.output,k.size,fun i hi hn=>k.block i hi (fun e=>hn (by rw [e])) (fun e=>hn (by rw [e]))⟩ ?_
  rcases h.2 with ⟨rfl,_⟩|⟨g',cap,cur,rfl,_,hgg,_⟩
  · exact .inl rfl
  · refine .inr fun e1=>?_
    have e2:g'=g:=by simpa [Value.ownBlock] using e1
    subst e2
    exact hn _ hgg
theorem LogF.ext2 {B gl k g:Nat} {W V:World} {Ls:List (List ChgT)} (h:LogF B W gl Ls k) (e:Ext2 g g W V) (hn:∀ (t:TypeId) (cs:Array Value),Blk W g t cs→t≠112∧t≠75∧t≠52∧t≠72):LogF B V gl Ls k:=by
  obtain ⟨rv,hv,R,hL,h2⟩:=h
  have hne:∀ {b:Nat} {t:TypeId} {cs:Array Value},Blk W b t cs→(t=112∨t=72)→b≠g:=by
    rintro b t cs hb ht rfl
    obtain ⟨q1,q2,q3,q4⟩:=hn _ _ hb
    rcases ht with h|h
    · exact q1 h
    · exact q4 h
  refine ⟨rv,hv,R,⟨hL.log.ext2 e (hne hL.log (.inl rfl)) (hne hL.log (.inl rfl)),own_ext2N hL.recs e (fun cs hb=>(hn _ _ hb).2.1 rfl),own_ext2N hL.heads e (fun cs hb=>(hn _ _ hb).2.2.1 rfl),fun x hx=>?_,hL.len,hL.sizes⟩,h2⟩
  obtain ⟨⟨cur,hb,hc⟩,hl⟩:=hL.chg x hx
  exact ⟨⟨cur,hb.ext2 e (hne hb (.inr rfl)) (hne hb (.inr rfl)),hc⟩,hl⟩
theorem LogF.aud {B gl k g:Nat} {W V:World} {Ls:List (List ChgT)} {cs:Array Value} (h:LogF B W gl Ls k) (e:Ext2 g g W V) (hb:Blk W g 92 cs):LogF B V gl Ls k:=
  h.ext2 e (fun t cs' h'=>by
    unfold Blk at hb h'
    rw [hb] at h'
    injection h' with h'
    injection h' with _ h' _
    subst h'
    decide)
theorem LogF.map {B gl k g:Nat} {W V:World} {Ls:List (List ChgT)} {kv:List (Int × Value)} (h:LogF B W gl Ls k) (e:Ext2 g g W V) (hm:MapI W g kv):LogF B V gl Ls k:=
  h.ext2 e (fun t cs' h'=>by
    obtain ⟨es,c,hm,_⟩:=hm
    unfold MapAt at hm
    unfold Blk at h'
    rw [hm] at h'
    cases h')
def HeadsIn (Ls:List (List ChgT)) (kv:List (Int × Value)):Prop:=∀ p:Nat,getI kv (p:Int)=none∨getI kv (p:Int)=some (headV p (headF Ls p))
theorem HeadsIn.put {Ls:List (List ChgT)} {kv:List (Int × Value)} (h:HeadsIn Ls kv) (p:Nat):HeadsIn Ls (setI kv (p:Int) (headV p (headF Ls p))):=fun q=>by
  rw [getI_put]
  split
  · rename_i e
    have:p=q:=by omega
    subst this
    exact .inr rfl
  · exact h q
section
variable {B gl n:Nat} {Ls:List (List ChgT)} {w:World}
theorem headG (p:Nat) (hp:p≤n) (h:LogF B w gl Ls n):Calls Tryz.prog 22 #[.pointer (some ⟨gl,0,none⟩),.int .i64 (p:Int)] w fun e w'=>e=.returned (.tuple #[.agg #[.int .i64 (p:Int),.string (headF Ls p).1,.string (headF Ls p).2],.bool true])∧Below w.heap.size w w':=by
  obtain ⟨rv,hv,R,hL,-⟩:=h
  exact logHeadG p (headF Ls p) (headsF_at Ls n p hp) w hL
theorem proveG (p:Nat) (hp:p≤n) (hn:n≤16) (h:LogF B w gl Ls n) (hR:RoundOK w):Calls Tryz.prog 23 #[.pointer (some ⟨gl,0,none⟩),.int .i64 (p:Int)] w (PathG w (((wayL (n+1) (leavesH 0 (headsF Ls n)) p).map (·.1)).reverse)):=by
  obtain ⟨rv,hv,R,hL,-⟩:=h
  have h9:=logProveG (by rw [headsF_length];omega) p (headF Ls p) (headsF_at Ls n p hp) w hL hR
  rwa [headsF_length] at h9
theorem extG (m:Nat) (hm:m≤n) (hn:n≤16) (h:LogF B w gl Ls n) (hR:RoundOK w):Calls Tryz.prog 29 #[.pointer (some ⟨gl,0,none⟩),.int .i64 (m:Int)] w (PathG w (extP (leavesH 0 (headsF Ls n)) (m+1))):=by
  obtain ⟨rv,hv,R,hL,-⟩:=h
  exact logExtG (by rw [headsF_length];omega) m (headF Ls m) (headsF_at Ls n m hm) w hL hR
theorem rootG (hn:n≤16) (h:LogF B w gl Ls n) (hR:RoundOK w):Calls Tryz.prog 24 #[.pointer (some ⟨gl,0,none⟩)] w fun e w'=>e=.returned (.string (logRootF (headsF Ls n)))∧Below w.heap.size w w':=by
  obtain ⟨rv,hv,R,hL,-⟩:=h
  exact logRootX B gl rv hv R _ (by rw [headsF_length];omega) w hL hR
theorem verifyG (p:Nat) (hp:p≤n) (hn:n≤16) (S:Nat→Prop) (v:Value) (hv:Strs S w v (((wayL (n+1) (leavesH 0 (headsF Ls n)) p).map (·.1)).reverse)) (hSB:∀ b,S b→b<w.heap.size) (hR:RoundOK w) :
    Calls Tryz.prog 33 #[.string (logRootF (headsF Ls n)),.int .i64 (n:Int),.agg #[.int .i64 (p:Int),.string (headF Ls p).1,.string (headF Ls p).2],v] w fun e w'=>e=.returned (.bool true)∧Below w.heap.size w w':=
  logVerifyG (by rw [headsF_length];omega) (headsF_sizes Ls n) n p (headsF_length Ls n) (headF Ls p) (headsF_at Ls n p hp) S v w (by rw [headsF_length];exact hv) hSB hR
end
set_option maxRecDepth 100000 in
set_option maxHeartbeats 4000000 in
theorem informedG (Ls:List (List ChgT)) (v:Value) (m n:Nat) (hn:n=Ls.length) (hm:m≤n) (hL:n≤16) (hG:RunG Ls) (hC:∀ l ∈ Ls,∀ c ∈ l,ChgG c) (ps:List Nat) (hps:∀ p ∈ ps,p≤n) (h9:ps.length≤1000) (gi ci:Nat) (w:World) (hv:RecsL w v 1 Ls) (hi:∀ (j p:Nat),ps[j]? = some p→w.cell? ⟨gi,j,none⟩=some (.int .i64 (p:Int))) (hR:RoundOK w) :
    Calls Tryz.prog 11 #[v,.int .i64 (m:Int),.int .i64 (n:Int),.slice (some ⟨gi,0,none⟩) ps.length ci] w
      fun e w'=>∃ ga gm kv,e=.returned (.tuple #[.pointer (some ⟨ga,0,none⟩),.bool true])∧AudI w' ga gm (n:Int) (logRootF (headsF Ls n)) kv∧HeadsIn Ls kv∧(∀ p ∈ ps,getI kv (p:Int)=some (headV p (headF Ls p)))∧w.heap.size≤ga∧w.heap.size≤gm∧Below w.heap.size w w':=by
  have HI:=Lib.hid hi
  have HR:=Lib.hid hR
  have HPS:=Lib.hid hps
  have HG0:=Lib.hid (fun (W:World) (k:Below w.heap.size w W)=>grownF Ls v m (by omega) (by omega) hG hC W (hv.ext k) (hR.below k))
  have HG1:=Lib.hid (fun (W:World) (k:Below w.heap.size w W)=>grownF Ls v n (by omega) (by omega) hG hC W (hv.ext k) (hR.below k))
  obtain ⟨A,c,rfl,-⟩:=id hv
  clear hi hR hG hC hps hv hn
  go_enter Tryz.func11,Tryz.ntmps11
  go_wp2_with fail
  refine (audNewI w).mono ?_
  rintro e W1 ⟨rfl,ha1,hb1⟩
  have HE1:=Lib.hid hb1
  have HA1:=Lib.hid ha1
  clear ha1 hb1
  obtain ⟨ga,hga⟩:∃ ga,ga=w.heap.size+1:=⟨_,rfl⟩
  obtain ⟨gm,hgm⟩:∃ gm,gm=w.heap.size:=⟨_,rfl⟩
  have HGB:=Lib.hid (show w.heap.size≤ga∧w.heap.size≤gm by omega)
  rw [← hga,← hgm] at HA1
  rw [← hga]
  clear hga hgm
  go_wp2_with fail
  refine (HG0.out _ HE1.out).mono ?_
  rintro e W2 ⟨g0,rfl,hl0,hb2⟩
  have HE2:=Lib.hid (ext_call HE1.out hb2)
  have HA2:=Lib.hid (HA1.out.ext hb2)
  have HL2:=Lib.hid hl0
  clear hb2 hl0 HA1
  go_wp2_with fail
  refine (HG1.out _ HE2.out).mono ?_
  rintro e W3 ⟨gl,rfl,hl1,hb3⟩
  have HE3:=Lib.hid (ext_call HE2.out hb3)
  have HA3:=Lib.hid (HA2.out.ext hb3)
  have HL3:=Lib.hid (HL2.out.ext hb3)
  have HN3:=Lib.hid hl1
  clear hb3 hl1 HA2 HL2
  go_wp2_with fail
  refine (extG m hm hL HN3.out (HR.out.below HE3.out)).mono ?_
  rintro e W4 ⟨A4,c4,rfl,hp4,hb4⟩
  have HE4:=Lib.hid (ext_call HE3.out hb4)
  have HA4:=Lib.hid (HA3.out.ext hb4)
  have HL4:=Lib.hid (HL3.out.ext hb4)
  have HN4:=Lib.hid (HN3.out.ext hb4)
  obtain ⟨pe,hpe⟩:∃ pe,pe=extP (leavesH 0 (headsF Ls n)) (m+1):=⟨_,rfl⟩
  rw [← hpe] at hp4 ⊢
  have HP4:=Lib.hid (show Strs (fun b=>b≠ga) W4 (.slice A4 pe.length c4) pe from hp4.mono (fun j hj _=>by have:=HA3.out.1.lt;omega))
  have HPE:=Lib.hid hpe
  clear hb4 hp4 hpe HA3 HL3 HN3
  go_wp2_with fail
  refine (rootG (Nat.le_trans hm hL) HL4.out (HR.out.below HE4.out)).mono ?_
  rintro e W5 ⟨rfl,hb5⟩
  have HE5:=Lib.hid (ext_call HE4.out hb5)
  have HA5:=Lib.hid (HA4.out.ext hb5)
  have HN5:=Lib.hid (HN4.out.ext hb5)
  have HP5:=Lib.hid (HP4.out.below hb5)
  clear hb5 HA4 HL4 HN4 HP4
  go_wp2_with fail
  refine (learnI1 ga gm [] _ (logRootF (headsF Ls m)) (m:Int) none 0 W5 HA5.out (rootF_size _) (by omega) (by omega)).mono ?_
  rintro e W6 ⟨rfl,ha6,hx6⟩
  have HE6:=Lib.hid (Ext2.below HE5.out HGB.out.1 HGB.out.1 hx6)
  have HN6:=Lib.hid (HN5.out.aud hx6 HA5.out.1)
  have HP6:=Lib.hid (HP5.out.keep (fun j hj hlt=>hx6.block j hlt hj hj))
  have HA6:=Lib.hid ha6
  clear ha6 hx6 HA5 HN5 HP5
  go_wp2_with fail
  refine (rootG hL HN6.out (HR.out.below HE6.out)).mono ?_
  rintro e W7 ⟨rfl,hb7⟩
  have HE7:=Lib.hid (ext_call HE6.out hb7)
  have HA7:=Lib.hid (HA6.out.ext hb7)
  have HN7:=Lib.hid (HN6.out.ext hb7)
  have HP7:=Lib.hid (HP6.out.below hb7)
  clear hb7 HA6 HN6 HP6
  have HXA:=Lib.hid (show ExtAns (.slice A4 pe.length c4) (m:Int) (n:Int) (logRootF (headsF Ls m)) (logRootF (headsF Ls n)) true W7 from by
    have h8:=extAnsLog (headsF Ls n) m n (headsF_length Ls n) hm (by rw [headsF_length];omega) (fun b=>b<W7.heap.size) (.slice A4 pe.length c4) W7 (by rw [← HPE.out];exact HP7.out.mono (fun b _ hb=>hb)) (fun b hb=>hb) (HR.out.below HE7.out)
    rwa [headsF_take Ls n m hm] at h8)
  go_wp2_with fail
  refine (learnI2 ga gm [] (logRootF (headsF Ls m)) (logRootF (headsF Ls n)) (n:Int) (m:Int) (by omega) A4 pe.length c4 W7 HA7.out (rootF_size _) (by omega) (by omega) HXA.out).mono ?_
  rintro e W8 ⟨rfl,ha8,hx8⟩
  have HE8:=Lib.hid (Ext2.below HE7.out HGB.out.1 HGB.out.1 hx8)
  have HN8:=Lib.hid (HN7.out.aud hx8 HA7.out.1)
  have HA8:=Lib.hid ha8
  clear ha8 hx8 HA7 HN7 HP7 HXA HPE
  obtain ⟨B,hB⟩:∃ B,B=W2.heap.size:=⟨_,rfl⟩
  rw [← hB] at HN8
  clear hB HG0 HG1 HE1 HE2 HE3 HE4 HE5 HE6 HE7
  obtain ⟨rt,hrt⟩:∃ rt,rt=logRootF (headsF Ls n):=⟨_,rfl⟩
  have HRT:=Lib.hid hrt
  rw [← hrt] at HA8
  rw [← hrt]
  clear hrt
  go_wp2
  go_loopw [17,18,19,20,21,22] (fun ov iv _ _ _ _ W=>∃ (k:Nat) (kv:List (Int × Value)),k≤ps.length∧iv=.int .i64 (k:Int)∧ov=.bool true∧AudI W ga gm (n:Int) rt kv∧HeadsIn Ls kv∧(∀ (j p:Nat),j<k→ps[j]? = some p→getI kv (p:Int)=some (headV p (headF Ls p)))∧LogF B W gl Ls n∧Below w.heap.size w W) (fun _ iv _ _ _ _ _=>ps.length-(intOf iv).toNat)
  case atStart=>exact ⟨0,[],Nat.zero_le _,rfl,rfl,HA8.out,fun p=>.inl rfl,fun j p h=>absurd h (by omega),HN8.out,HE8.out⟩
  case round =>
    obtain ⟨k,kv,hk,rfl,rfl,hA,hH,hP,hN,hE⟩:=hrel
    have HA:=Lib.hid hA
    have HH:=Lib.hid hH
    have HP:=Lib.hid hP
    have HN:=Lib.hid hN
    have HE:=Lib.hid hE
    clear hA hH hP hN hE HA8 HN8 HE8
    by_cases hlt:k<ps.length
    · obtain ⟨p,hp⟩:∃ p,ps[k]? = some p:=⟨_,List.getElem?_eq_getElem hlt⟩
      have hpn:=HPS.out p (List.mem_of_getElem? hp)
      have c0:=cell_ext (HI.out k p hp) HE.out
      have HPK:=Lib.hid hp
      have x0:(0:Int)≤(k:Int):=by omega
      have x1:(k:Int)<(ps.length:Int):=by omega
      have d1:decide ((k:Int)<(ps.length:Int))=true:=decide_eq_true x1
      have e2:IntKind.i64.wrap ((k:Int)+1)=(k:Int)+1:=IntWalk.i64_in _ (by omega)
      clear hp
      go_wp2_with fail
      refine (headG p hpn HN.out).mono ?_
      rintro e W9 ⟨rfl,hb9⟩
      have HE9:=Lib.hid (ext_call HE.out hb9)
      have HA9:=Lib.hid (HA.out.ext hb9)
      have HN9:=Lib.hid (HN.out.ext hb9)
      obtain ⟨x1c,hx1c⟩:∃ y,y=headF Ls p:=⟨_,rfl⟩
      have HXC:=Lib.hid hx1c
      rw [← hx1c]
      obtain ⟨hc1,hs1⟩:=x1c
      dsimp only
      have c0:=cell_ext (HI.out k p HPK.out) HE9.out
      have gil:=lt_of_cell (p:=⟨gi,k,none⟩) c0
      clear hb9 hx1c
      go_wp2_with fail
      have HZ9:=Lib.hid (ext_new W9 (.cells #[.int .i64 (p:Int),.string hc1,.string hs1] 52))
      refine (proveG p hpn hL (HN9.out.ext HZ9.out) (HR.out.below (ext_call HE9.out HZ9.out))).mono ?_
      rintro e Wa ⟨Aa,ca,rfl,hpa,hba⟩
      have HEa:=Lib.hid (ext_call (ext_call HE9.out HZ9.out) hba)
      have HAa:=Lib.hid ((HA9.out.ext HZ9.out).ext hba)
      have HNa:=Lib.hid ((HN9.out.ext HZ9.out).ext hba)
      have hHd:=(Blk.new W9 52 #[.int .i64 (p:Int),.string hc1,.string hs1]).ext hba
      have h0:=hHd.cell 0;have h1:=hHd.cell 1;have h2:=hHd.cell 2
      have HVE:=Lib.hid (fun (W:World) (g:Below Wa.heap.size Wa W)=>verifyG (Ls:=Ls) p hpn hL (fun b=>b<W.heap.size) _ ((hpa.below g).mono (fun b _ hb=>hb)) (fun b hb=>hb) (HR.out.below (ext_call HEa.out g)))
      rw [← HRT.out,← HXC.out] at HVE
      generalize (((wayL (n+1) (leavesH 0 (headsF Ls n)) p).map (·.1)).reverse).length=pl at *
      clear c0 gil hba hpa hHd HZ9 HA9 HN9 HE9
      rcases HH.out p with hnone|hsome
      · have HNO:=Lib.hid hnone
        clear hnone
        go_wp2_with fail
        refine (showI1 ga gm n p kv rt hc1 hs1 (.slice Aa pl ca) Wa HAa.out HNO.out HVE.out).mono ?_
        rintro e Wb ⟨rfl,hab,hxb⟩
        have HAb:=Lib.hid hab
        have HEb:=Lib.hid (Ext2.below HEa.out HGB.out.2 HGB.out.2 hxb)
        have HNb:=Lib.hid (HNa.out.map hxb HAa.out.2)
        clear hab hxb h0 h1 h2
        go_wp2
        go_roundw
        case rel=>exact ⟨k+1,_,by omega,by go_num,rfl,HAb.out,by rw [HXC.out];exact HH.out.put p,fun j q hj hq=>by
          rw [getI_put]
          split
          · rename_i e
            have:p=q:=by omega
            subst this
            rw [← HXC.out]
          · rcases Nat.lt_or_ge j k with h|h
            · exact HP.out j q h hq
            · have hjk:j=k:=by omega
              subst hjk
              rw [HPK.out] at hq
              injection hq with hq
              omega,HNb.out,HEb.out⟩
        case measure=>simp [intOf];omega
      · have HSO:=Lib.hid hsome
        rw [← HXC.out] at HSO
        clear hsome
        go_wp2_with fail
        refine (showI2 ga gm n p kv rt hc1 hs1 (.slice Aa pl ca) Wa HAa.out HSO.out HVE.out).mono ?_
        rintro e Wb ⟨rfl,hab,hxb⟩
        have HAb:=Lib.hid hab
        have HEb:=Lib.hid (Ext2.below HEa.out HGB.out.2 HGB.out.2 hxb)
        have HNb:=Lib.hid (HNa.out.map hxb HAa.out.2)
        clear hab hxb h0 h1 h2
        go_wp2
        go_roundw
        case rel=>exact ⟨k+1,_,by omega,by go_num,rfl,HAb.out,by rw [HXC.out];exact HH.out.put p,fun j q hj hq=>by
          rw [getI_put]
          split
          · rename_i e
            have:p=q:=by omega
            subst this
            rw [← HXC.out]
          · rcases Nat.lt_or_ge j k with h|h
            · exact HP.out j q h hq
            · have hjk:j=k:=by omega
              subst hjk
              rw [HPK.out] at hq
              injection hq with hq
              omega,HNb.out,HEb.out⟩
        case measure=>simp [intOf];omega
    · have hkl:k=ps.length:=by omega
      have d1:decide ((k:Int)<(ps.length:Int))=false:=decide_eq_false (by omega)
      go_wp2
      go_ret2
      refine ⟨ga,gm,kv,rfl,(by rw [← HRT.out];exact HA.out),HH.out,fun p hp=>?_,HGB.out.1,HGB.out.2,HE.out⟩
      obtain ⟨j,hj,hjp⟩:=List.mem_iff_getElem?.1 hp |>.imp (fun j h=>And.intro ((List.getElem?_eq_some_iff.1 h).1) h)
      exact HP.out j p (by omega) hjp
end Go.Proofs.YtimoapjhepmehaaGreatDoor
