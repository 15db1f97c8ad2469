/-
  package cachetierlaw27: OriginHistory returns true.
-/
import Derived.Test.YtnajpjnnlocfgaaGreatDoorJ46
import Derived.Test.YtnajpjnnlocfgaaGreatDoorJ50
import Derived.Test.YtnajpjnnlocfgaaGreatDoorJ52
import Derived.Deep.Cut
import Derived.Deep.CutRange
import Derived.BigQuiet
import Derived.Deep.RegionHeld3
set_option linter.unusedSimpArgs false
set_option linter.unusedVariables false
set_option maxRecDepth 100000
namespace Go.Proofs.YtnajpjnnlocfgaaGreatDoor
open Go.RowKit Go.Shelf
attribute [local go_sem ↓] Go.wp_at_zero Go.wp_at_succ
theorem keep7E {a b c d e f g:Prop} (h:a∧b∧c∧d∧e∧f∧g):g:=h.2.2.2.2.2.2
theorem StOK.far {rs:List RowT} (h:StOK rs):(∀ r ∈ rs,r.ok)∧rs.length≤60∧Apart rs:=
  ⟨fun r hr=>(h.sm r hr).1,Nat.le_trans h.few (by omega),(List.pairwise_map.1 h.apart).imp fun hne ⟨e1,e2⟩=>hne (by rw [e1,e2])⟩
theorem statePos (ga gm:Nat) (pos:Int) (rs:List RowT) (w:World) (h:StateR w ga gm pos rs):Calls Tryz.prog 11 #[.pointer (some ⟨ga,0,none⟩)] w fun e w'=>e=.returned (.int .i64 pos)∧w=w':=by
  have c1:=h.1.cell 1
  clear h
  go_enter Tryz.func11,Tryz.ntmps11
  go_wp2
  go_ret
  exact ⟨rfl,rfl⟩
def RecsM (B:Nat) (W:World) (v:Value) (first:Nat) (R:List (List ChgT × Nat × Nat)) (xs:List (Nat × Nat × Nat × Nat)):Prop:=
  W.ownsRow B 43 2 v xs.length (rcN xs)∧∀ (i:Nat) (x:Nat × Nat × Nat × Nat),xs[i]? = some x→RecMG first R i x W
theorem RecsM.ext {B first:Nat} {w W:World} {v:Value} {R:List (List ChgT × Nat × Nat)} {xs:List (Nat × Nat × Nat × Nat)} (h:RecsM B w v first R xs) (k:Below w.heap.size w W):RecsM B W v first R xs:=
  ⟨own_ext h.1 k,fun i x hx=>(h.2 i x hx).ext k⟩
theorem RecsM.extS {S:Nat→Prop} {B first:Nat} {w W:World} {v:Value} {R:List (List ChgT × Nat × Nat)} {xs:List (Nat × Nat × Nat × Nat)} (h:RecsM B w v first R xs) (k:ExtS S w W) (h1:∀ g,v.ownBlock=some g→¬ S g) (h2:∀ g cs,Blk w g 62 cs→¬ S g):RecsM B W v first R xs:=
  ⟨own_extS2 h.1 k h1,fun i x hx=>by
    obtain ⟨cur,hb⟩:=(h.2 i x hx).blk
    exact (h.2 i x hx).extS k (h2 _ _ hb)⟩
theorem RecsM.at_ {B first k:Nat} {W:World} {v:Value} {R:List (List ChgT × Nat × Nat)} {xs:List (Nat × Nat × Nat × Nat)} (h:RecsM B W v first R xs) (hf:1≤first) (hl:xs.length=nRec first (first+xs.length-1) R.length) (hk:k<xs.length) (l:List ChgT) (hl2:(trs R)[first-1+k]? = some l) :
    ∃ g c u,v=.slice (some ⟨g,0,none⟩) xs.length c∧xs.length≤c∧W.cell? ⟨g,k*2,none⟩=some (.int .i64 ((first:Int)+(k:Int)))∧W.cell? ⟨g,k*2+1,none⟩=some u∧ChgsAt W u l:=by
  have h9:=recsL_of (last:=first+xs.length-1) h.1 hl hf h.2
  have hlen:(((R.drop (first-1)).take (nRec first (first+xs.length-1) R.length)).map (·.1)).length=xs.length:=by
    rw [List.length_map,List.length_take,List.length_drop,← hl]
    have:xs.length≤R.length-(first-1):=by rw [hl];unfold nRec;omega
    omega
  obtain ⟨A,c,hv,hc,hcell⟩:=h9
  rw [hlen] at hv hc hcell
  obtain ⟨g,hA,hc2⟩:=hcell (by omega)
  subst hA
  obtain ⟨z0,u,z1,hu⟩:=hc2 k l (by
    rw [List.getElem?_map,List.getElem?_take,if_pos (by rw [← hl];exact hk),List.getElem?_drop]
    unfold trs at hl2
    rwa [List.getElem?_map] at hl2)
  exact ⟨g,c,u,hv,hc,z0,z1,hu⟩
theorem blk_notMap {W:World} {g gm:Nat} {t:TypeId} {cs:Array Value} {rs:List RowT} (h:Blk W g t cs) (hm:MapR W gm rs):g≠gm:=by
  rintro rfl
  obtain ⟨es,c,hm,-⟩:=hm
  have h1:W.heap[g]? = some (.cells cs t):=h
  have h2:W.heap[g]? = some (.map es c):=hm
  rw [h1] at h2
  cases h2
theorem chainK_eq {R:List (List ChgT × Nat × Nat)} {H:List (ByteArray × ByteArray)} (hc:ChainOK R H) (F D:Nat) (x:ByteArray × ByteArray) (hx:H[F]? = some x) (hF:F+D≤R.length) (hl:H.length=R.length+1):∀ k,k≤D→∀ y,H[F+k]? = some y→chainK F x.1 (((R.drop F).take D).map (·.1)) k=y.1
  | 0,_,y,hy=>by
    rw [Nat.add_zero,hx] at hy
    rw [← Option.some.inj hy]
    rfl
  | k+1,hk,y,hy=>by
    obtain ⟨a,ha⟩:∃ a,H[F+k]? = some a:=⟨_,List.getElem?_eq_getElem (by omega)⟩
    obtain ⟨r,hr⟩:∃ r,R[F+k]? = some r:=⟨_,List.getElem?_eq_getElem (by omega)⟩
    have h1:=hc (F+k) r a y hr ha (by rw [Nat.add_assoc];exact hy)
    show chainF (chainK F x.1 _ k) _=_
    rw [chainK_eq hc F D x hx hF hl k (by omega) a ha,h1]
    congr 2
    rw [List.getD_eq_getElem?_getD,List.getElem?_map,List.getElem?_take,if_pos (by omega),List.getElem?_drop,hr]
    rfl
theorem leavesH_take:∀ (H:List (ByteArray × ByteArray)) (i k:Nat),leavesH i (H.take k)=(leavesH i H).take k
  | [],i,k=>by simp [leavesH]
  | x::H,i,0=>by simp [leavesH]
  | x::H,i,k+1=>by
    rw [List.take_succ_cons]
    show headEnc i x.1 x.2::leavesH (i+1) (H.take k)=(headEnc i x.1 x.2::leavesH (i+1) H).take (k+1)
    rw [List.take_succ_cons,leavesH_take H (i+1) k]
theorem extP_same {L:List ByteArray} {M:Nat} (h:L.length≤M):extP L M=[]:=by
  have h1:extW L.length L M=[]:=by
    cases hl:L.length with
    | zero=>rfl
    | succ f=>unfold extW;rw [if_pos h]
  unfold extP
  rw [h1]
  rfl
theorem LogG2.any {B C gl:Nat} {W:World} {rv hv:Value} {R:List (List ChgT × Nat × Nat)} {H:List (ByteArray × ByteArray)} (h:LogG2 B C W gl rv hv R H):LogG 0 W gl rv hv R H:=
  ⟨h.log,own_base h.recs (Nat.zero_le _),own_base h.heads (Nat.zero_le _),h.chg,h.len,h.sizes⟩
theorem follows27 {R:List (List ChgT × Nat × Nat)} {H:List (ByteArray × ByteArray)} (F D T n:Nat) (hT:T=F+D) (hTn:T≤n) (hn:n=R.length) (h60:H.length≤60) (hHl:H.length=n+1) (hch:ChainOK R H) (hsz:∀ h ∈ H,h.1.size=32∧h.2.size=32) (hgd:∀ x ∈ R,GoodL x.1)
    (ca sa cb sb:ByteArray) (hxa:H[F]? = some (ca,sa)) (hxb:H[T]? = some (cb,sb)) (u:Value) (W:World) (hu:RecsL W u (F+1) (((R.drop F).take D).map (·.1))) (hR:RoundOK W) :
    Calls Tryz.prog 23 #[.agg #[.int .i64 (F:Int),.string ca,.string sa],u,.agg #[.int .i64 (T:Int),.string cb,.string sb]] W fun e w'=>e=.returned (.bool true)∧Below W.heap.size W w':=by
  have hDl:(((R.drop F).take D).map (·.1)).length=D:=by rw [List.length_map,List.length_take,List.length_drop];omega
  have hsab:=hsz (ca,sa) (List.mem_of_getElem? hxa)
  have hsbb:=hsz (cb,sb) (List.mem_of_getElem? hxb)
  refine followsG (((R.drop F).take D).map (·.1)) u F T (by rw [hDl];exact hT) (by omega) ca sa cb sb hsab.1 hsab.2 hsbb.1 hsbb.2 ?_ ?_ ?_ W hu hR
  · rw [hDl]
    exact (chainK_eq hch F D (ca,sa) hxa (by omega) (by omega) D (Nat.le_refl _) (cb,sb) (by rw [← hT];exact hxb)).symm
  · intro h0
    rw [hDl] at h0
    rw [hT,h0,Nat.add_zero,hxa] at hxb
    injection hxb with h1
    injection h1 with _ h1
  · intro l hl
    obtain ⟨r,hr,rfl⟩:=List.mem_map.1 hl
    have:=hgd r (List.mem_of_mem_drop (List.mem_of_mem_take hr))
    exact ⟨this.ok,this.turns⟩
set_option maxHeartbeats 8000000 in
theorem history27 (X:List (List (Int × Int × Int))) (v:Value) (fi la:Int) (f0 : -9223372036854775808≤fi) (f1:fi≤9223372036854775807) (l0 : -9223372036854775808≤la) (l1:la≤9223372036854775807) (w:World) (hv:TabAt w v X) (hX:∀ T ∈ X,In64 T) (hR:RoundOK w) :
    Calls Tryz.prog 3 #[v,.int .i64 fi,.int .i64 la] w fun e w'=>e=.returned (.bool true)∧Below w.heap.size w w':=by
  have HR:=Lib.hid hR
  have HV:=Lib.hid hv
  have HX:=Lib.hid hX
  clear hv hX hR
  go_enter Tryz.func3,Tryz.ntmps3
  go_wp2_with fail
  refine (sane27 w HR.out).mono ?_
  rintro e W1 ⟨rfl,hb1⟩
  have HE1:=Lib.hid hb1
  have HR1:=Lib.hid (HR.out.below hb1)
  clear hb1
  go_wp2_with fail
  refine (builtH X v W1 (HV.out.ext HE1.out) HX.out HR1.out).mono ?_
  rintro e W2 ⟨gs,gl,gst,gm,gp,gn,rv,hv,R,H,rs,rfl,⟨hpre,hH0⟩,hs,hR12,-,hb2⟩
  obtain ⟨cs,hcs⟩:∃ cs,cs=srvCells gl gst gp gn:=⟨_,rfl⟩
  rw [← hcs] at hs
  have HS2:=Lib.hid hs
  have HPR:=Lib.hid hpre
  have HH0:=Lib.hid hH0
  have HE2:=Lib.hid hb2
  have hHl:H.length=R.length+1:=hs.log.len
  have HSZ:=Lib.hid hs.log.sizes
  have HHD:=Lib.hid hs.heads
  have HCHN:=Lib.hid hs.chain
  have HRUN:=Lib.hid hs.run
  have HGD:=Lib.hid hs.good
  clear hs hb2 hcs hpre hH0
  obtain ⟨F,hF,hPF⟩:=pick_nat fi ((R.length:Int)+1) (by omega) (by omega) f0 f1
  obtain ⟨D,hD,hPD⟩:=pick_nat la ((R.length:Int)+1-(F:Int)) (by omega) (by omega) l0 l1
  obtain ⟨T,hT⟩:∃ T,T=F+D:=⟨_,rfl⟩
  have HPF:=Lib.hid hPF
  have HPD:=Lib.hid hPD
  obtain ⟨n,hn⟩:∃ n,n=R.length:=⟨_,rfl⟩
  rw [← hn] at hF hD hR12 hHl HPF HPD
  rw [← hn]
  have e1:IntKind.i64.wrap ((n:Int)+1)=(n:Int)+1:=IntWalk.i64_in _ (by omega)
  have e2:IntKind.i64.wrap ((n:Int)+1-(F:Int))=(n:Int)+1-(F:Int):=IntWalk.i64_in _ (by omega)
  have e3:IntKind.i64.wrap ((F:Int)+(D:Int))=(T:Int):=by rw [IntWalk.i64_in _ (by omega)];omega
  have HNR:=Lib.hid hn
  have HTD:=Lib.hid hT
  have hFn:F≤n:=by omega
  have hTn:T≤n:=by omega
  have hFT:F≤T:=by omega
  clear hPF hPD hn hT hF hD
  have HPOS:=Lib.hid HS2.out.pos
  rw [← HNR.out] at HPOS
  go_wp2_with fail
  refine HPOS.out.mono ?_
  rintro e w' ⟨rfl,hw'⟩
  subst w'
  go_wp2_with fail
  refine (HPF.out W2).mono ?_
  rintro e w' ⟨rfl,hw'⟩
  subst w'
  go_wp2_with fail
  refine (HPD.out W2).mono ?_
  rintro e w' ⟨rfl,hw'⟩
  subst w'
  obtain ⟨⟨ca,sa⟩,hxa⟩:∃ x,H[F]? = some x:=⟨_,List.getElem?_eq_getElem (by omega)⟩
  obtain ⟨⟨cb,sb⟩,hxb⟩:∃ x,H[T]? = some x:=⟨_,List.getElem?_eq_getElem (by omega)⟩
  have HXA:=Lib.hid hxa
  have HXB:=Lib.hid hxb
  have hsa:sa=stRootF (stF ((trs R).take F)):=HHD.out F _ hxa
  have hsb:sb=stRootF (stF ((trs R).take T)):=HHD.out T _ hxb
  have HSA:=Lib.hid hsa
  have HSB:=Lib.hid hsb
  clear hxa hxb hsa hsb
  go_wp2_with fail
  refine (srvHeadG F (ca,sa) HXA.out W2 HS2.out.cell0 HS2.out.log).mono ?_
  rintro e W3 ⟨rfl,hb3⟩
  have HE3:=Lib.hid (ext_call HE2.out hb3)
  have HS3:=Lib.hid (HS2.out.ext hb3)
  clear hb3
  go_upto_region 8 with (fail)
  obtain ⟨W4,hW4⟩:∃ W4,W4=W3.alloc (.cells #[.int .i64 (F:Int),.string ca,.string sa] 30):=⟨_,rfl⟩
  obtain ⟨ba,hba⟩:∃ ba,ba=W3.heap.size:=⟨_,rfl⟩
  rw [← hW4,← hba]
  have HBA4:=Lib.hid (show Blk W4 ba 30 #[.int .i64 (F:Int),.string ca,.string sa] by rw [hW4,hba];exact Blk.new _ _ _)
  have hb4:Below W3.heap.size W3 W4:=by rw [hW4];exact ext_new _ _
  have HE4:=Lib.hid (ext_call HE3.out hb4)
  have HS4:=Lib.hid (HS3.out.ext hb4)
  clear hb4 hW4 hba HS3 HS2
  go_wp2_with fail
  refine (srvHeadG T (cb,sb) HXB.out W4 HS4.out.cell0 HS4.out.log).mono ?_
  rintro e W5 ⟨rfl,hb5⟩
  have HE5:=Lib.hid (ext_call HE4.out hb5)
  have HS5:=Lib.hid (HS4.out.ext hb5)
  have HBA5:=Lib.hid (HBA4.out.ext hb5)
  clear hb5
  go_upto_region 9 with (fail)
  obtain ⟨W6,hW6⟩:∃ W6,W6=W5.alloc (.cells #[.int .i64 (T:Int),.string cb,.string sb] 30):=⟨_,rfl⟩
  obtain ⟨bb,hbb⟩:∃ bb,bb=W5.heap.size:=⟨_,rfl⟩
  rw [← hW6,← hbb]
  have HBB6:=Lib.hid (show Blk W6 bb 30 #[.int .i64 (T:Int),.string cb,.string sb] by rw [hW6,hbb];exact Blk.new _ _ _)
  have hb6:Below W5.heap.size W5 W6:=by rw [hW6];exact ext_new _ _
  have HE6:=Lib.hid (ext_call HE5.out hb6)
  have HS6:=Lib.hid (HS5.out.ext hb6)
  have HBA6:=Lib.hid (HBA5.out.ext hb6)
  have hn800:R.length≤800:=by have:=HNR.out;omega
  clear hb6 hW6 hbb HS4 HS5 HBA4 HBA5
  go_wp2_with fail
  refine (stateS W1.heap.size gs gl rv hv R H hn800 HGD.out HRUN.out F (by have:=HNR.out;omega) W6 HS6.out.cell0 HS6.out.log).mono ?_
  rintro e W7 ⟨ga,ma,rfl,hsa7,hga7,hma7,hb7⟩
  have HA7:=Lib.hid hsa7
  have HG7:=Lib.hid (And.intro hga7 hma7)
  have HE7:=Lib.hid (ext_call HE6.out hb7)
  have HE67:=Lib.hid hb7
  have HS7:=Lib.hid (HS6.out.ext hb7)
  have HBA7:=Lib.hid (HBA6.out.ext hb7)
  have HBB7:=Lib.hid (HBB6.out.ext hb7)
  clear hb7 hsa7 hga7 hma7
  go_wp2_with fail
  refine (stateS W1.heap.size gs gl rv hv R H hn800 HGD.out HRUN.out T (by have:=HNR.out;omega) W7 HS7.out.cell0 HS7.out.log).mono ?_
  rintro e W8 ⟨ge,me,rfl,hse8,-,-,hb8⟩
  have HEN8:=Lib.hid hse8
  have HA8:=Lib.hid (HA7.out.ext hb8)
  have HE8:=Lib.hid (ext_call HE7.out hb8)
  have HE78:=Lib.hid hb8
  have HS8:=Lib.hid (HS7.out.ext hb8)
  have HBA8:=Lib.hid (HBA7.out.ext hb8)
  have HBB8:=Lib.hid (HBB7.out.ext hb8)
  have HR8:=Lib.hid (HR1.out.below HE8.out)
  clear hb8 hse8 HS7 HBA7 HBB7 HA7
  obtain ⟨rF,hrF⟩:∃ rF,rF=stF ((trs R).take F):=⟨_,rfl⟩
  obtain ⟨rT,hrT⟩:∃ rT,rT=stF ((trs R).take T):=⟨_,rfl⟩
  have HRFT:=Lib.hid (And.intro hrF hrT)
  have hokF:=(HPR.out F).far
  have hokT:=(HPR.out T).far
  rw [← hrF] at HA8 HSA hokF
  rw [← hrT] at HEN8 HSB hokT
  have HOKT:=Lib.hid hokT
  have HRA:=Lib.hid (fun (W:World) (k:Below W8.heap.size W8 W)=>show Calls Tryz.prog 10 #[.pointer (some ⟨ga,0,none⟩)] W fun e w'=>e=.returned (.string sa)∧Below W.heap.size W w' by
    rw [HSA.out]
    exact stateRootS rF hokF.1 hokF.2.1 hokF.2.2 ga ma F W (HA8.out.ext k) (HR8.out.below k))
  have HRE:=Lib.hid (fun (W:World) (k:Below W8.heap.size W8 W)=>show Calls Tryz.prog 10 #[.pointer (some ⟨ge,0,none⟩)] W fun e w'=>e=.returned (.string sb)∧Below W.heap.size W w' by
    rw [HSB.out]
    exact stateRootS rT hokT.1 hokT.2.1 hokT.2.2 ge me T W (HEN8.out.ext k) (HR8.out.below k))
  have HPA:=Lib.hid (fun (W:World) (k:Below W8.heap.size W8 W)=>statePos ga ma F rF W (HA8.out.ext k))
  clear hrF hrT hokF hokT
  go_upto_region 11 with (fail)
  have ca2:=HBA8.out.cell 2
  have cb2:=HBB8.out.cell 2
  have HK:=Lib.hid (And.intro ca2 cb2)
  go_region_held3 (fun w'=>w'.cell? ⟨ba,2,none⟩=some (.string sa)∧w'.cell? ⟨bb,2,none⟩=some (.string sb)∧Below W8.heap.size W8 w')
    (first|with_reducible assumption|exact keep2B HK.out (ext_refl W8).drew|exact keep2B HK.out (ext_call (keep2E (by assumption)) (by assumption)))
    (first
      | (go_at_call 10;(with_reducible refine (HRA.out _ (keep2E (by assumption))).mono ?_);rintro e Z ⟨rfl,hb'⟩)
      | (go_at_call 10;(with_reducible refine (HRE.out _ (keep2E (by assumption))).mono ?_);rintro e Z ⟨rfl,hb'⟩)
      | (go_at_call 11;(with_reducible refine (HPA.out _ (keep2E (by assumption))).mono ?_);rintro e Z ⟨rfl,hZ⟩;subst hZ))
  clear ca2 cb2
  have hE9:Below W8.heap.size W8 Z:=keep2E (by assumption)
  have HE9:=Lib.hid (ext_call HE8.out hE9)
  have HS9:=Lib.hid (HS8.out.ext hE9)
  have HA9:=Lib.hid (HA8.out.ext hE9)
  have hz89:W6.heap.size≤Z.heap.size:=by have h1:=HA8.out.1.lt;have h2:=hE9.size;have h3:=HG7.out.1;omega
  have HE69:=Lib.hid (show Below W6.heap.size W6 Z from ext_call (ext_call HE67.out HE78.out) hE9)
  have HLT:=Lib.hid (And.intro HA9.out.1.lt HA9.out.2.lt)
  clear hb' hE9 HK HRA HRE HPA HBA8 HBB8 HEN8 HA8 HS8
  generalize Z=W9 at *
  have HREC:=Lib.hid (show Calls Tryz.prog 12 #[.pointer (some ⟨gs,0,none⟩),.int .i64 ((F:Int)+1),.int .i64 (T:Int)] W9 _ by
    have h9:=recordsS W1.heap.size gs gl (F+1) T rv hv R H (by omega) (by omega) (by omega) HGD.out W9 HS9.out.cell0 HS9.out.log
    have e:(((F+1:Nat)):Int)=(F:Int)+1:=by omega
    rw [e] at h9
    exact h9)
  have e4:IntKind.i64.wrap ((F:Int)+1)=(F:Int)+1:=IntWalk.i64_in _ (by omega)
  go_wp2_with fail
  refine HREC.out.mono ?_
  rintro e W10 ⟨lv,xs,rfl,hxl,hown,-,hrm,hb10⟩
  have hxD:xs.length=D:=by rw [hxl];unfold nRec;have:=HNR.out;have:=HTD.out;omega
  have HXL:=Lib.hid (And.intro hxl hxD)
  have HRM:=Lib.hid (show RecsM W9.heap.size W10 lv (F+1) R xs from ⟨hown,hrm⟩)
  have HA10:=Lib.hid (HA9.out.ext hb10)
  have HE10:=Lib.hid (ext_call HE69.out hb10)
  have hz9:=hb10.size
  obtain ⟨Al,cl,hlv⟩:=own_shape hown
  rw [hxD] at hlv
  subst hlv
  clear hown hrm hb10 hxl hxD HREC HS9 HE9 HA9 HE69 HE8 HE7 HE67 HE78
  go_wp2
  go_loopw [19] (fun iv W=>∃ k:Nat,k≤D∧iv=.int .i64 (k:Int)∧StateR W ga ma ((F+k:Nat):Int) (stF ((trs R).take (F+k)))∧ExtS (StS ga ma) W10 W) (fun iv _=>D-(intOf iv).toNat)
  case atStart=>exact ⟨0,Nat.zero_le _,rfl,by rw [Nat.add_zero,← HRFT.out.1];exact HA10.out,.of_ext (ext_refl _)⟩
  case round =>
    obtain ⟨k,hk,rfl,hS,hX⟩:=hrel
    have HXS:=Lib.hid hX
    have hRM:=HRM.out.extS hX (fun g hg=>by
      have h1:=(HRM.out.1.lt g hg).1
      have h2:=HLT.out
      rintro (rfl|rfl) <;> omega) (fun g cs hb=>by
      rintro (rfl|rfl)
      · exact blkNe hb HA10.out.1 (by decide) rfl
      · exact blk_notMap hb HA10.out.2 rfl)
    by_cases hlt:k<D
    · obtain ⟨l,hl⟩:∃ l,(trs R)[F+k]? = some l:=⟨_,List.getElem?_eq_getElem (by rw [trs_length];have:=HNR.out;have:=HTD.out;omega)⟩
      have HSU:=Lib.hid (stF_succ hl)
      have hst:=HRUN.out.step (F+k) l hl
      obtain ⟨gr,cr,u,hsl,hcr,z0,z1,hu⟩:=hRM.at_ (k:=k) (by omega) (by rw [HXL.out.2];unfold nRec;have:=HNR.out;have:=HTD.out;omega) (by rw [HXL.out.2];exact hlt) l (by rw [Nat.add_sub_cancel];exact hl)
      rw [HXL.out.2] at hsl hcr
      injection hsl with hA _ hc
      subst hA hc
      obtain ⟨m,hm⟩:∃ m,m=F+k:=⟨_,rfl⟩
      have HM:=Lib.hid hm
      rw [← hm] at hS hst HSU
      rw [show (((F+1:Nat):Int)+(k:Int))=(m:Int)+1 by omega] at z0
      have HAP:=Lib.hid (applyR (stF ((trs R).take m)) l u ga ma (m:Int) (by have:=HTD.out;omega) wr hS hu hst.1 hst.2.2.2 hst.2.2.1)
      have HVF:=Lib.hid hst.2.1
      obtain ⟨Au,cu,rfl,-⟩:=hu
      have q0:(0:Int)≤(k:Int):=by omega
      have q1:(k:Int)<(D:Int):=by omega
      have d1:decide ((k:Int)<(D:Int))=true:=decide_eq_true (by omega)
      have e5:IntKind.i64.wrap ((k:Int)+1)=(k:Int)+1:=IntWalk.i64_in _ (by have:=HTD.out;omega)
      clear hm hl hst hS hRM hX
      go_wp2_with fail
      refine HAP.out.mono ?_
      rintro e W12 (⟨hno,_⟩|⟨-,rfl,hS12,hx12⟩)
      · exact absurd hno (by rw [HVF.out];decide)
      · have HS12:=Lib.hid hS12
        have HX12:=Lib.hid (HXS.out.trans (ExtS.of_ext2 hx12 (.inl rfl) (.inr rfl)))
        clear hS12 hx12 z0 z1
        go_wp2
        go_roundw
        case rel=>
          refine ⟨k+1,by omega,by go_num,?_,HX12.out⟩
          have h9:=HS12.out
          rw [← HSU.out,HM.out] at h9
          exact h9
        case measure=>simp [intOf];omega
    · have hkD : k = D := by omega
      have hS2:StateR wr ga ma (T:Int) rT:=by
        rw [hkD,← HTD.out,← HRFT.out.2] at hS
        exact hS
      have HST:=Lib.hid hS2
      have HRL:=Lib.hid hRM
      have HEW:=Lib.hid (show Below W6.heap.size W6 wr from ExtS.below HE10.out (by rintro j (rfl|rfl);exact HG7.out.1;exact HG7.out.2) hX)
      have d1:decide ((k:Int)<(D:Int))=false:=decide_eq_false (by omega)
      have HLs:=Lib.hid (show RecsL wr (.slice Al D cl) (F+1) (((R.drop F).take D).map (·.1)) by
        have h9:=recsL_of (last:=T) hRM.1 HXL.out.1 (by omega) hRM.2
        rw [← HXL.out.1,HXL.out.2,Nat.add_sub_cancel] at h9
        exact h9)
      have HSV:=Lib.hid (HS6.out.ext HEW.out)
      have HEV:=Lib.hid (ext_call HE6.out HEW.out)
      clear hS hS2 hX hRM HXS HA10 HRM HE10 HRL
      have h17:H.length≤60:=by omega
      obtain ⟨pl,hpl⟩:∃ pl,pl=(((wayL H.length (leavesH 0 H) T).map (·.1)).reverse):=⟨_,rfl⟩
      have HPV:=Lib.hid (srvProveG h17 T (cb,sb) HXB.out wr HSV.out.cell0 HSV.out.log (HR1.out.below HEV.out))
      rw [← hpl] at HPV
      have HPL:=Lib.hid hpl
      clear hpl
      go_wp2_with fail
      refine HPV.out.mono ?_
      rintro e W13 ⟨A1,c1,rfl,hp13,hb13⟩
      have HP13:=Lib.hid (hp13.mono (S':=fun b=>b<W13.heap.size) (fun b _ h=>h))
      have HE13:=Lib.hid (ext_call HEW.out hb13)
      have HS13:=Lib.hid (HS6.out.ext HE13.out)
      have HEV13:=Lib.hid (ext_call HE6.out HE13.out)
      have HST13:=Lib.hid (HST.out.ext hb13)
      have HL13:=Lib.hid (HLs.out.ext hb13)
      clear hp13 hb13 HPV HSV HEV HST HLs HEW
      obtain ⟨xl,hxl⟩:∃ xl,xl=extP (leavesH 0 H) (F+1):=⟨_,rfl⟩
      have HXV:=Lib.hid (srvExtG h17 F (ca,sa) HXA.out W13 HS13.out.cell0 HS13.out.log (HR1.out.below HEV13.out))
      rw [← hxl] at HXV
      have HXE:=Lib.hid hxl
      clear hxl
      go_wp2_with fail
      refine HXV.out.mono ?_
      rintro e W14 ⟨A2,c2,rfl,hx14,hb14⟩
      have HX14:=Lib.hid (hx14.mono (S':=fun b=>b<W14.heap.size) (fun b _ h=>h))
      have HP14:=Lib.hid (HP13.out.below hb14)
      have HE14:=Lib.hid (ext_call HE13.out hb14)
      have HS14:=Lib.hid (HS6.out.ext HE14.out)
      have HEV14:=Lib.hid (ext_call HE6.out HE14.out)
      have HST14:=Lib.hid (HST13.out.ext hb14)
      have HL14:=Lib.hid (HL13.out.ext hb14)
      have hz13:=hb14.size
      clear hx14 hb14 HXV HS13 HEV13 HST13 HL13 HE13 HP13
      go_wp2_with fail
      refine (refNew4 W14).mono ?_
      rintro e W15 ⟨rfl,hw15⟩
      have HE15:=Lib.hid (show Below W14.heap.size W14 W15 by rw [← hw15];exact ext_new _ _)
      have HRE:=Lib.hid (show Calls Tryz.prog 17 #[.pointer (some ⟨W14.heap.size,0,none⟩)] W15 fun e w'=>e=.returned (.string (stRootF []))∧Below W15.heap.size W15 w' by
        rw [← root_empty]
        exact ref10RootE W14.heap.size W15 (by rw [← hw15];exact (Blk.new W14 _ _).cell 0))
      obtain ⟨r0,hr0⟩:∃ r0,r0=stRootF []:=⟨_,rfl⟩
      have hr32:r0.size=32:=by rw [hr0];exact stRootF_size []
      rw [← hr0] at HRE HH0
      clear hw15 hr0
      go_wp2_with fail
      refine HRE.out.mono ?_
      rintro e W16 ⟨rfl,hb16⟩
      have HE16:=Lib.hid (ext_call HE15.out hb16)
      clear hb16
      go_wp2_with fail
      refine (logNewB r0 hr32 W16).mono ?_
      rintro e W17 ⟨g2,gh2,rfl,hl17,hh17,hg2,hgh2,hb17⟩
      have HE17:=Lib.hid (ext_call HE16.out hb17)
      have hz16:=HE16.out.size
      have HPT:=Lib.hid (And.intro hl17 hh17)
      have HGB:=Lib.hid (show W14.heap.size≤g2∧W14.heap.size≤gh2 by omega)
      clear hl17 hh17 hg2 hgh2 hb17 HE15 HE16 HRE
      have hz17:=HE17.out.size
      have HREC:=Lib.hid (show Calls Tryz.prog 12 #[.pointer (some ⟨gs,0,none⟩),.int .i64 1,.int .i64 (F:Int)] W17 _ from
        recordsS W1.heap.size gs gl 1 F rv hv R H (by omega) (by omega) (by have:=HNR.out;omega) HGD.out W17 (HS14.out.ext HE17.out).cell0 (HS14.out.ext HE17.out).log)
      go_wp2_with fail
      refine HREC.out.mono ?_
      rintro e W18 ⟨av,ys,rfl,hyl,hown,-,hrm,hb18⟩
      have hyF:ys.length=F:=by rw [hyl];unfold nRec;have:=HNR.out;omega
      have HYL:=Lib.hid (And.intro hyl hyF)
      have HRM:=Lib.hid (show RecsM W17.heap.size W18 av 1 R ys from ⟨hown,hrm⟩)
      have HE18:=Lib.hid (ext_call HE17.out hb18)
      have hz18:=hb18.size
      have hRlt:=hown.lt
      obtain ⟨Aa,cl2,hav⟩:=own_shape hown
      rw [hyF] at hav
      subst hav
      have HRLT:=Lib.hid (show ∀ g,(Value.slice Aa F cl2).ownBlock=some g→W17.heap.size≤g∧g<W18.heap.size from fun g hg=>hRlt g hg)
      have HLG:=Lib.hid (show LogG2 W18.heap.size W14.heap.size W18 g2 (.slice none 0 0) (.slice (some ⟨gh2,0,none⟩) 1 1) [] (H.take 1) by
        have hl:=HPT.out.1.ext hb18
        have hh:=HPT.out.2.ext hb18
        have ht:H.take 1=[(zeros32,r0)]:=by
          obtain ⟨h0,hr⟩:=List.getElem?_eq_some_iff.1 HH0.out
          rw [List.take_one,List.head?_eq_getElem?,HH0.out]
          rfl
        rw [ht]
        exact ⟨hl,World.ownsRow_nil _ _ _ _,⟨rfl,.inr ⟨gh2,1,_,rfl,HGB.out.2,hh,Nat.le_refl _,by unfold maxLen;omega,rfl,rfl⟩⟩,by simp,rfl,by intro h hh;simp at hh;subst hh;exact ⟨zeros32_size,hr32⟩⟩)
      clear hown hrm hb18 hyl hyF HREC HPT hRlt
      go_wp2
      clear d1 hlt hkD hk
      go_loopw [27,28,29] (fun iv _ _ W=>∃ (k:Nat) (rv2 hv2:Value) (R2:List (List ChgT × Nat × Nat)),k≤F∧iv=.int .i64 (k:Int)∧LogG2 W18.heap.size W14.heap.size W g2 rv2 hv2 R2 (H.take (k+1))∧R2.length=k∧RecsM W17.heap.size W (.slice Aa F cl2) 1 R ys∧Below W14.heap.size W14 W∧W18.heap.size≤W.heap.size) (fun iv _ _ _=>F-(intOf iv).toNat)
      case atStart=>exact ⟨0,_,_,[],Nat.zero_le _,rfl,HLG.out,rfl,HRM.out,HE18.out,Nat.le_refl _⟩
      case round =>
        obtain ⟨k,rv2,hv2,R2,hk,rfl,hL,hR2,hM,hE,hz⟩:=hrel
        have HL:=Lib.hid hL
        have HR2:=Lib.hid hR2
        have HM:=Lib.hid hM
        have HE:=Lib.hid hE
        clear hL hR2 hM hE HLG HRM HE18
        by_cases hlt:k<F
        · obtain ⟨⟨ck,sk⟩,hxk⟩:∃ x,H[k+1]? = some x:=⟨_,List.getElem?_eq_getElem (by omega)⟩
          obtain ⟨⟨cj,sj⟩,hxj⟩:∃ x,H[k]? = some x:=⟨_,List.getElem?_eq_getElem (by omega)⟩
          obtain ⟨⟨l,gz,dz⟩,hlr⟩:∃ r,R[k]? = some r:=⟨_,List.getElem?_eq_getElem (by have:=HNR.out;omega)⟩
          have hsk:=HSZ.out (ck,sk) (List.mem_of_getElem? hxk)
          have hgd:=HGD.out (l,gz,dz) (List.mem_of_getElem? hlr)
          have HCK:=Lib.hid (show ck=chainF cj (encG (encRec ((k:Int)+1) l)) from HCHN.out k (l,gz,dz) (cj,sj) (ck,sk) hlr hxj hxk)
          have HTK:=Lib.hid (show H.take (k+1+1)=H.take (k+1)++[(ck,sk)] by rw [List.take_add_one,hxk];rfl)
          have HHK:=Lib.hid (show Calls Tryz.prog 8 #[.pointer (some ⟨gs,0,none⟩),.int .i64 ((k:Int)+1)] wr fun e w'=>e=.returned (.tuple #[.agg #[.int .i64 ((k:Int)+1),.string ck,.string sk],.bool true])∧Below wr.heap.size wr w' by
            have h9:=srvHeadG (k+1) (ck,sk) hxk wr (HS14.out.ext HE.out).cell0 (HS14.out.ext HE.out).log
            have e:(((k+1:Nat)):Int)=(k:Int)+1:=by omega
            rw [e] at h9
            exact h9)
          have hlj:(H.take (k+1))[R2.length]? = some (cj,sj):=by rw [HR2.out,List.getElem?_take,if_pos (by omega)];exact hxj
          have HLJ:=Lib.hid hlj
          have HLR:=Lib.hid (show (trs R)[1-1+k]? = some l by rw [Nat.sub_self,Nat.zero_add];unfold trs;rw [List.getElem?_map,hlr];rfl)
          have e5:IntKind.i64.wrap ((k:Int)+1)=(k:Int)+1:=IntWalk.i64_in _ (by omega)
          have q0:(0:Int)≤(k:Int):=by omega
          have q1:(k:Int)<(F:Int):=by omega
          have d1:decide ((k:Int)<(F:Int))=true:=decide_eq_true (by omega)
          clear hxk hxj hlr hlj
          go_wp2_with fail
          refine HHK.out.mono ?_
          rintro e W19 ⟨rfl,hb19⟩
          go_upto_region 27 with (fail)
          obtain ⟨W20,hW20⟩:∃ W20,W20=W19.alloc (.cells #[.int .i64 ((k:Int)+1),.string ck,.string sk] 30):=⟨_,rfl⟩
          obtain ⟨bh,hbh⟩:∃ bh,bh=W19.heap.size:=⟨_,rfl⟩
          rw [← hW20,← hbh]
          have hB20:Blk W20 bh 30 #[.int .i64 ((k:Int)+1),.string ck,.string sk]:=by rw [hW20,hbh];exact Blk.new _ _ _
          have hE20:Below wr.heap.size wr W20:=ext_call hb19 (by rw [hW20];exact ext_new _ _)
          have hbhz:wr.heap.size≤bh:=by rw [hbh];exact hb19.size
          have hz20:=hE20.size
          have HL20:=Lib.hid (HL.out.ext hE20)
          have HM20:=Lib.hid (HM.out.ext hE20)
          have HEE:=Lib.hid (ext_call HE.out hE20)
          obtain ⟨gr,cr,u,hsl,hcr,z0,z1,hu⟩:=HM20.out.at_ (k:=k) (by omega) (by rw [HYL.out.2];unfold nRec;have:=HNR.out;omega) (by rw [HYL.out.2];exact hlt) l HLR.out
          rw [HYL.out.2] at hsl hcr
          have hgr:(Value.slice Aa F cl2).ownBlock=some gr:=by rw [hsl];rfl
          have hgrl:=HRLT.out gr hgr
          have HN1:=Lib.hid (show ¬ ApX g2 rv2 hv2 gr by
            rintro (h|h|h)
            · exact own_not HM20.out.1 HL20.out.log (by decide) (by rw [hgr,h])
            · have:=(HL20.out.recs.lt gr h).1;omega
            · rcases own_ne HM20.out.1 HL20.out.heads (by decide) with h1|h1
              · rw [hgr] at h1;cases h1
              · exact h1 (by rw [hgr,h]))
          have HN2:=Lib.hid (show ¬ ApX g2 rv2 hv2 bh by
            have h0:=HL.out.log.lt
            rintro (h|h|h)
            · omega
            · have:=(HL.out.recs.lt bh h).2;omega
            · have:=(HL.out.heads.lt bh h).2;omega)
          have HXF:=Lib.hid (show ∀ Z,ExtS (ApX g2 rv2 hv2) W20 Z→RecsM W17.heap.size Z (.slice Aa F cl2) 1 R ys∧Below W14.heap.size W14 Z from fun Z hx=>⟨HM20.out.extS hx (fun g hg=>by rw [hgr] at hg;rw [← Option.some.inj hg];exact HN1.out) (fun g cs hb=>by
              rintro (h|h|h)
              · exact blkNe hb HL20.out.log (by decide) h
              · exact own_not HL20.out.recs hb (by decide) h
              · exact own_not HL20.out.heads hb (by decide) h),ExtS.below HEE.out (by
              rintro j (h|h|h)
              · rw [h];exact HGB.out.1
              · have:=(HL20.out.recs.lt j h).1;omega
              · exact (HL20.out.heads.lt j h).1) hx⟩)
          rw [show (((1:Nat):Int)+(k:Int))=(k:Int)+1 by omega] at z0
          have zb:=hB20.cell 2
          have HAP:=Lib.hid (show Calls Tryz.prog 19 #[.pointer (some ⟨g2,0,none⟩),.agg #[.int .i64 ((k:Int)+1),u],.string sk] W20.drew _ by
            have h9:=logAppendY W18.heap.size W14.heap.size g2 rv2 hv2 R2 (H.take (k+1)) l u sk hsk.2 (by have:=HR2.out;omega) W20.drew (by show W18.heap.size≤W20.heap.size;omega) (by show W14.heap.size≤W20.heap.size;omega) (HL20.out.ext (ext_refl W20).drew) (cj,sj) HLJ.out (hu.ext (ext_refl W20).drew) hgd.ok hgd.turns (((HR1.out.below HEV14.out).below HEE.out).below (ext_refl W20).drew)
            rw [HR2.out] at h9
            exact h9)
          injection hsl with hA _ hc
          subst hA hc
          obtain ⟨Au,cu,hul,-⟩:=id hu
          subst hul
          clear hW20 hbh hb19 hE20 hu hgd hsk
          have HZZ:=Lib.hid (And.intro z0 (And.intro z1 zb))
          have HKK:=Lib.hid (show ∀ Z,ExtS (ApX g2 rv2 hv2) W20.drew Z→Z.cell? ⟨gr,k*2,none⟩=some (.int .i64 ((k:Int)+1))∧Z.cell? ⟨gr,k*2+1,none⟩=some (.slice Au l.length cu)∧Z.cell? ⟨bh,2,none⟩=some (.string sk) from fun Z hx=>⟨ExtS.cell (w:=W20.drew) z0 hx HN1.out,ExtS.cell (w:=W20.drew) z1 hx HN1.out,ExtS.cell (w:=W20.drew) zb hx HN2.out⟩)
          go_region_held3 (fun w'=>w'.cell? ⟨gr,k*2,none⟩=some (.int .i64 ((k:Int)+1))∧w'.cell? ⟨gr,k*2+1,none⟩=some (.slice Au l.length cu)∧w'.cell? ⟨bh,2,none⟩=some (.string sk))
            (first|with_reducible assumption|exact HZZ.out|exact HKK.out _ (by assumption))
            (first|(go_at_call 19;(with_reducible refine HAP.out.mono ?_);rintro e Z ⟨rfl,rv3,hv3,g3,d3,hL3,hx3⟩))
          have hX3:=HXF.out Z (ExtS.trans (.of_ext (ext_refl W20).drew) hx3)
          have HX3:=Lib.hid hX3
          have HL3:=Lib.hid hL3
          have hz3:=hx3.size
          have hz3':W20.heap.size≤Z.heap.size:=hz3
          clear hX3 hL3 hx3 z0 z1 zb
          go_wp2
          go_roundw
          case rel=>exact ⟨k+1,rv3,hv3,R2++[(l,g3,d3)],by omega,by go_num,by rw [HTK.out,HCK.out];exact HL3.out,by rw [List.length_append,HR2.out];rfl,HX3.out.1,HX3.out.2,by omega⟩
          case measure=>simp [intOf];omega
        · have hkF:k=F:=by omega
          have d1:decide ((k:Int)<(F:Int))=false:=decide_eq_false (by omega)
          have HLA:=Lib.hid (show LogG 0 wr g2 rv2 hv2 R2 (H.take (F+1)) by rw [← hkF];exact HL.out.any)
          have hRw:=(HR1.out.below HEV14.out).below HE.out
          have HPR1:=Lib.hid (logRootX 0 g2 rv2 hv2 R2 (H.take (F+1)) (by rw [List.length_take];omega) wr HLA.out hRw)
          obtain ⟨rp,hrp⟩:∃ rp,rp=logRootF (H.take (F+1)):=⟨_,rfl⟩
          obtain ⟨rh,hrh⟩:∃ rh,rh=logRootF H:=⟨_,rfl⟩
          rw [← hrp] at HPR1
          have HVE:=Lib.hid (show ∀ W:World,Below W14.heap.size W14 W→Calls Tryz.prog 20 #[.string rp,.int .i64 ((F:Int)+1),.string rh,.int .i64 ((n:Int)+1),.slice A2 xl.length c2] W fun e w'=>e=.returned (.bool true)∧Below W.heap.size W w' from fun W k=>by
            have hst:=HX14.out.below k
            have hSB:∀ b,b<W14.heap.size→b<W.heap.size:=fun b hb=>Nat.lt_of_lt_of_le hb k.size
            have hRW:=(HR1.out.below HEV14.out).below k
            by_cases hFn2:F=n
            · have hx0:xl=[]:=by
                rw [HXE.out]
                exact extP_same (by rw [leavesH_length];omega)
              have hrr:rp=rh:=by rw [hrp,hrh,List.take_of_length_le (by omega)]
              have h9:=verExt_same (fun b=>b<W14.heap.size) (.slice A2 xl.length c2) rh (n+1) (by omega) W (by rw [hx0] at hst ⊢;exact hst) (by rw [hrh];exact rootF_size _)
              have e:(((n+1:Nat)):Int)=(n:Int)+1:=by omega
              rw [e] at h9
              rw [hrr,hFn2]
              exact h9
            · have h9:=verExt_less (fun b=>b<W14.heap.size) (.slice A2 xl.length c2) (leavesH 0 H) (F+1) W (by rw [leavesH_length];omega) (by omega) (by rw [leavesH_length];omega) (by rw [← HXE.out];exact hst) hSB hRW
              rw [← leavesH_take,leavesH_length,hHl] at h9
              have e:(((n+1:Nat)):Int)=(n:Int)+1:=by omega
              have e':(((F+1:Nat)):Int)=(F:Int)+1:=by omega
              rw [e,e',show rootF (leavesH 0 (H.take (F+1)))=rp from hrp.symm,show rootF (leavesH 0 H)=rh from hrh.symm] at h9
              exact h9)
          have HRH:=Lib.hid hrh
          clear hrp hrh hRw
          go_wp2_with fail
          refine HPR1.out.mono ?_
          rintro e W21 ⟨rfl,hb21⟩
          have HE21:=Lib.hid (ext_call HE.out hb21)
          clear hb21 HPR1 HLA HL HM HR2 hz
          have HSR:=Lib.hid (fun (W:World) (k:Below W14.heap.size W14 W)=>show Calls Tryz.prog 22 #[.pointer (some ⟨gs,0,none⟩)] W fun e w'=>e=.returned (.string rh)∧Below W.heap.size W w' by
            rw [HRH.out]
            exact srvRootX W1.heap.size gs gl rv hv R H (by omega) W (HS14.out.ext k).cell0 (HS14.out.ext k).log ((HR1.out.below HEV14.out).below k))
          go_wp2_with fail
          refine (HSR.out _ HE21.out).mono ?_
          rintro e W22 ⟨rfl,hb22⟩
          have HE22:=Lib.hid (ext_call HE21.out hb22)
          clear hb22
          go_wp2_with fail
          refine (HVE.out _ HE22.out).mono ?_
          rintro e W23 ⟨rfl,hb23⟩
          have HE23:=Lib.hid (ext_call HE22.out hb23)
          clear hb23
          have HNO:=Lib.hid (show Calls Tryz.prog 9 #[.pointer (some ⟨gs,0,none⟩),.int .i64 ((n:Int)+1)] W23 fun e w'=>e=.returned (.tuple #[.pointer none,.bool false])∧Below W23.heap.size W23 w' by
            have h9:=stateNo W1.heap.size gs gl rv hv R H hn800 HGD.out (n+1) (by have:=HNR.out;omega) (by omega) W23 (HS14.out.ext HE23.out).cell0 (HS14.out.ext HE23.out).log
            have e:(((n+1:Nat)):Int)=(n:Int)+1:=by omega
            rw [e] at h9
            exact h9)
          go_wp2_with fail
          refine HNO.out.mono ?_
          rintro e W24 ⟨rfl,hb24⟩
          have HE24:=Lib.hid (ext_call HE23.out hb24)
          clear hb24 HE21 HE22 HE23 HE HNO HVE
          have hE24:=ext_call HE14.out HE24.out
          have HE1_24:=Lib.hid (ext_call HE1.out (ext_call HE6.out hE24))
          have hR24:=HR1.out.below (ext_call HE6.out hE24)
          have hA:=HBA6.out.ext hE24
          have hB:=HBB6.out.ext hE24
          have HFO:=Lib.hid (fun (W:World) (k:Below W24.heap.size W24 W)=>follows27 F D T n HTD.out hTn HNR.out h17 hHl HCHN.out HSZ.out HGD.out ca sa cb sb HXA.out HXB.out (.slice Al D cl) W ((HL14.out.ext HE24.out).ext k) (hR24.below k))
          have hokT:=HOKT.out
          have HRE:=Lib.hid (fun (W:World) (k:Below W24.heap.size W24 W)=>show Calls Tryz.prog 10 #[.pointer (some ⟨ga,0,none⟩)] W fun e w'=>e=.returned (.string sb)∧Below W.heap.size W w' by
            rw [HSB.out]
            exact stateRootS rT hokT.1 hokT.2.1 hokT.2.2 ga ma T W ((HST14.out.ext HE24.out).ext k) (hR24.below k))
          have HSR2:=Lib.hid (fun (W:World) (k:Below W24.heap.size W24 W)=>HSR.out W (ext_call HE24.out k))
          have HVF:=Lib.hid (fun (W:World) (k:Below W24.heap.size W24 W)=>show Calls Tryz.prog 24 #[.string rh,.int .i64 (n:Int),.agg #[.int .i64 (T:Int),.string cb,.string sb],.slice A1 pl.length c1] W fun e w'=>e=.returned (.bool true)∧Below W.heap.size W w' by
            rw [HRH.out]
            have h9:=HP14.out.below (ext_call HE24.out k)
            rw [HPL.out] at h9
            have h8:=logVerifyG h17 HSZ.out n T hHl (cb,sb) HXB.out (fun b=>b<W13.heap.size) _ W h9 (fun b hb=>Nat.lt_of_lt_of_le hb (Nat.le_trans hz13 (ext_call HE24.out k).size)) (hR24.below k)
            rw [← HPL.out] at h8
            exact h8)
          have a0:=hA.cell 0;have a1:=hA.cell 1;have a2:=hA.cell 2
          have b0:=hB.cell 0;have b1:=hB.cell 1;have b2:=hB.cell 2
          have HKB:=Lib.hid (fun (Z:World) (k:Below W24.heap.size W24 Z)=>show Z.cell? ⟨ba,0,none⟩=some (.int .i64 (F:Int))∧Z.cell? ⟨ba,1,none⟩=some (.string ca)∧Z.cell? ⟨ba,2,none⟩=some (.string sa)∧Z.cell? ⟨bb,0,none⟩=some (.int .i64 (T:Int))∧Z.cell? ⟨bb,1,none⟩=some (.string cb)∧Z.cell? ⟨bb,2,none⟩=some (.string sb)∧Below W24.heap.size W24 Z from
            ⟨cell_ext (hA.cell 0) k,cell_ext (hA.cell 1) k,cell_ext (hA.cell 2) k,cell_ext (hB.cell 0) k,cell_ext (hB.cell 1) k,cell_ext (hB.cell 2) k,k⟩)
          have e7:IntKind.i64.wrap ((T:Int)-(F:Int))=(D:Int):=by rw [IntWalk.i64_in _ (by omega)];have:=HTD.out;omega
          clear hA hB hokT hR24 hE24
          go_upto_region 30 with (fail)
          go_region_held3 (fun w'=>w'.cell? ⟨ba,0,none⟩=some (.int .i64 (F:Int))∧w'.cell? ⟨ba,1,none⟩=some (.string ca)∧w'.cell? ⟨ba,2,none⟩=some (.string sa)∧w'.cell? ⟨bb,0,none⟩=some (.int .i64 (T:Int))∧w'.cell? ⟨bb,1,none⟩=some (.string cb)∧w'.cell? ⟨bb,2,none⟩=some (.string sb)∧Below W24.heap.size W24 w')
            (first|with_reducible assumption|exact HKB.out _ (ext_refl W24).drew|exact HKB.out _ (ext_call (keep7E (by assumption)) (by assumption)))
            (first
              | (go_at_call 23;(with_reducible refine (HFO.out _ (keep7E (by assumption))).mono ?_);rintro e Z ⟨rfl,hb'⟩)
              | (go_at_call 10;(with_reducible refine (HRE.out _ (keep7E (by assumption))).mono ?_);rintro e Z ⟨rfl,hb'⟩)
              | (go_at_call 22;(with_reducible refine (HSR2.out _ (keep7E (by assumption))).mono ?_);rintro e Z ⟨rfl,hb'⟩)
              | (go_at_call 24;(with_reducible refine (HVF.out _ (keep7E (by assumption))).mono ?_);rintro e Z ⟨rfl,hb'⟩))
          have hE25:Below W24.heap.size W24 Z:=keep7E (by assumption)
          go_wp2
          go_ret
          exact ⟨rfl,ext_call HE1_24.out hE25⟩
end Go.Proofs.YtnajpjnnlocfgaaGreatDoor
