/-
  package statetree: complete and Rows at any complete proof.
-/
import Derived.Test.YtimoapjhepmehaaGreatDoorP32
import Derived.Test.YtimoapjhepmehaaGreatDoorP17
import Derived.Test.YtimoapjhepmehaaGreatDoorP14
import Derived.Test.YtimoapjhepmehaaGreatDoorP29
import Derived.StillTailTactics
import Derived.Deep.Cut
import Derived.Deep.CutRange
set_option linter.unusedSimpArgs false
set_option linter.unusedVariables false
set_option maxHeartbeats 4000000
set_option maxRecDepth 100000
namespace Go.Proofs.YtimoapjhepmehaaGreatDoor
open Go.RowKit Go.Shelf
attribute [local go_sem ↓] Go.wp_at_zero Go.wp_at_succ
theorem RowsL.c5 {W:World} {v:Value} {l:List RowT} (h:RowsL W v l) {i:Nat} {r:RowT} (hi:l[i]? = some r):∃ g c,v=.slice (some ⟨g,0,none⟩) l.length c∧g<W.heap.size∧W.cell? ⟨g,i*5,none⟩=some (.int .i64 r.t)∧W.cell? ⟨g,i*5+1,none⟩=some (.int .i64 r.k)∧W.cell? ⟨g,i*5+2,none⟩=some (.int .i64 r.a)∧W.cell? ⟨g,i*5+3,none⟩=some (.int .i64 r.b)∧W.cell? ⟨g,i*5+4,none⟩=some (.int .i64 r.c):=by
  obtain ⟨g,c,h1,h2,h3⟩:=h.at_ hi
  exact ⟨g,c,h1,h2,h3 0 (by omega),h3 1 (by omega),h3 2 (by omega),h3 3 (by omega),h3 4 (by omega)⟩
theorem complValG (bp:Nat) (t lo hi n f:Int) (j:Nat) (hj:j<4) (a b c:Value) (l:List RowT) (hl:l.length≤100000) (i:Nat) (r:RowT) (hr:l[i]? = some r) (w:World) (hp:Blk w bp 126 #[.int .i64 t,.int .i64 (j:Int),.int .i64 lo,.int .i64 hi,.int .i64 n,.int .i64 f,a,b,c]) (ha:RowsL w a l) :
    Calls Tryz.prog 155 #[.int .i64 (i:Int),.pointer (some ⟨bp,0,none⟩)] w fun e w'=>e=.returned (.int .i64 (r.col j))∧Below w.heap.size w w':=by
  have HV:=Lib.hid (fun W:World=>rowValue_any r j hj W)
  have hil:=(List.getElem?_eq_some_iff.1 hr).1
  have p1:=hp.cell 1
  have p6:=hp.cell 6
  obtain ⟨g,d,rfl,_,r0,r1,r2,r3,r4⟩:=ha.c5 hr
  have q0:(0:Int)≤(i:Int):=by omega
  have q1:(i:Int)<(l.length:Int):=by omega
  generalize r.col j=v at *
  obtain ⟨x0,x1,x2,x3,x4⟩:=r
  dsimp only at *
  clear hp ha hr hil
  go_enter Tryz.func155,Tryz.ntmps155
  go_wp2
  go_still_tail 7,(by kernel_rfl)
  change wpList _ _ _ _ _ w.drew
  go_wp2_with (go_at_call 89;refine (HV.out _).mono ?_;rintro e W1 ⟨rfl,hb1⟩;have HE1:=Lib.hid (undrew hb1);clear hb1)
  go_ret
  exact ⟨rfl,HE1.out⟩
theorem rowValid_okR (r:RowT) (h:r.ok) (w:World):Calls Tryz.prog 156 #[.agg #[.int .i64 r.t,.int .i64 r.k,.int .i64 r.a,.int .i64 r.b,.int .i64 r.c]] w fun e w'=>e=.returned (.bool true)∧Below w.heap.size w w':=by
  have h1:=rowValid_any r w
  rw [(okB_iff r).2 h] at h1
  exact h1
theorem complete_yes (p:RPT) (j:Nat) (hp:CompP p j) (a b c:Value) (w:World) (ha:RowsL w a p.rows) :
    Calls Tryz.prog 103 #[.agg (p.nums a b c)] w fun e w'=>e=.returned (.bool true)∧Below w.heap.size w w':=by
  have hmf:∀ (fn:Fn) (first cap:Array Value) (w:World),(Instr.makeFunc fn first cap).run Tryz.prog w=.ok (.func fn first cap) w:=fun _ _ _ _=>rfl
  obtain ⟨⟨t0,t1⟩,⟨hj,hj4⟩,lh,⟨n0,n1⟩,⟨f0,f1⟩,hlen,hzero,hok,hlow,hhigh,hasc,hfirst,hlast⟩:=hp
  obtain ⟨t,jj,lo,hi,n,f,l,ps,rts⟩:=p
  dsimp only [RPT.nums] at *
  subst hj
  have HVAL:=Lib.hid (fun (bp:Nat) (i:Nat) (r:RowT) (hr:l[i]? = some r) (W:World)=>complValG bp t lo hi n f j hj4 a b c l (by omega) i r hr W)
  have HB0:=Lib.hid (Blk.new w 126 #[.int .i64 t,.int .i64 (j:Int),.int .i64 lo,.int .i64 hi,.int .i64 n,.int .i64 f,a,b,c])
  have HA0:=Lib.hid (ha.ext (ext_new w (.cells #[.int .i64 t,.int .i64 (j:Int),.int .i64 lo,.int .i64 hi,.int .i64 n,.int .i64 f,a,b,c] 126)))
  have HZ:=Lib.hid hzero
  have HOK:=Lib.hid hok
  have HLO:=Lib.hid hlow
  have HHI:=Lib.hid hhigh
  have HAS:=Lib.hid hasc
  have HFI:=Lib.hid hfirst
  have HLA:=Lib.hid hlast
  obtain ⟨A,d,rfl,-⟩:=ha
  have d1:¬ hi<lo:=by omega
  have d2:¬ n<0:=by omega
  have d3:¬ 2000<n:=by omega
  have d4:¬ f<0:=by omega
  have d5:¬ n<f:=by omega
  have e1:IntKind.i64.wrap (n-f)=n-f:=IntWalk.i64_in _ (by omega)
  have d6:¬ n-f<(l.length:Int):=by omega
  clear hzero hok hlow hhigh hasc hfirst hlast
  by_cases hl0:l=[]
  · have hn0:=HZ.out hl0
    subst hl0
    have N0:=Lib.hid hn0
    have d7:(n == 0)=true:=by simp [hn0]
    clear hn0
    go_enter Tryz.func103,Tryz.ntmps103
    go_wp2_with (go_at_call 84;refine (existsT t j ⟨t0,t1⟩ hj4 _).mono ?_;rintro e w' ⟨rfl,rfl⟩)
    go_ret
    exact ⟨rfl,ext_new _ _⟩
  have hl1:0<l.length:=List.length_pos_iff.2 hl0
  have d7:((l.length:Int) == 0)=false:=by simpa using hl0
  obtain ⟨la,hla⟩:∃ la,la+1=l.length:=⟨l.length-1,by omega⟩
  have HLE:=Lib.hid hla
  have e3:IntKind.i64.wrap ((l.length:Int)-1)=(la:Int):=by rw [IntWalk.i64_in _ (by omega)];omega
  clear HZ hl0 hla
  go_enter Tryz.func103,Tryz.ntmps103
  go_upto_region 6 with (go_at_call 84;refine (existsT t j ⟨t0,t1⟩ hj4 _).mono ?_;rintro e w' ⟨rfl,rfl⟩)
  obtain ⟨W0,hW0⟩:∃ W0,W0=w.alloc (.cells #[.int .i64 t,.int .i64 (j:Int),.int .i64 lo,.int .i64 hi,.int .i64 n,.int .i64 f,.slice A l.length d,b,c] 126):=⟨_,rfl⟩
  have HE0:=Lib.hid (show Below w.heap.size w W0 by rw [hW0];exact ext_new _ _)
  rw [← hW0] at HB0 HA0 ⊢
  clear hW0
  obtain ⟨bp,hbp⟩:∃ bp,bp=w.heap.size:=⟨_,rfl⟩
  rw [← hbp] at HB0 ⊢
  have HBP:=Lib.hid hbp
  clear hbp
  go_cut [4] from 8 to 59 (fun fv W=>fv=.func (.func 155) #[] #[.pointer (some ⟨bp,0,none⟩)]∧W0=W)
  case first=>
    go_wp2
    go_meet
    case rel=>exact ⟨rfl,rfl⟩
  obtain ⟨hc1,hc2⟩:=hcut
  subst hc1
  subst hc2
  clear d1 d2 d3 d4 d5 e1 d6 d7
  have b6:=HB0.out.cell 6
  go_wp2
  clear b6
  go_loopw [5,6,7,64] (fun _ _ _ iv W=>∃ k:Nat,k≤l.length∧iv=.int .i64 (k:Int)∧Below W0.heap.size W0 W) (fun _ _ _ iv _=>l.length-(intOf iv).toNat)
  case atStart=>exact ⟨0,Nat.zero_le _,rfl,ext_refl _⟩
  case round =>
    obtain ⟨k,hk,rfl,hE⟩:=hrel
    have HE:=Lib.hid hE
    have HBr:=Lib.hid (HB0.out.ext hE)
    have HAr:=Lib.hid (HA0.out.ext hE)
    clear hE
    by_cases hlt:k<l.length
    · obtain ⟨r,hr⟩:∃ r,l[k]? = some r:=⟨_,List.getElem?_eq_getElem hlt⟩
      have hokr:=HOK.out r (List.mem_of_getElem? hr)
      have HV:=Lib.hid (fun W h1 h2=>HVAL.out bp k r hr W h1 h2)
      have HVD:=Lib.hid (fun W=>rowValid_okR r hokr.1 W)
      have ht:r.t=t:=hokr.2
      have hlo:=HLO.out k r hr
      have hhi:=HHI.out k r hr
      obtain ⟨g,d',hA,hg,r0,r1,r2,r3,r4⟩:=HAr.out.c5 hr
      injection hA with hA hn' hd'
      subst hA;subst hd'
      clear hn' hokr
      have HPREV:=Lib.hid (show ∀ (m:Nat) (s:RowT),k=m+1→l[m]? = some s→s.col j<r.col j∨(s.col j=r.col j∧s.k<r.k) from fun m s hm hs=>HAS.out m s r hs (by rw [← hm];exact hr))
      obtain ⟨v,hv⟩:∃ v,v=r.col j:=⟨_,rfl⟩
      rw [← hv] at HV hlo hhi HPREV
      obtain ⟨y0,y1,y2,y3,y4⟩:=r
      dsimp only at *
      subst ht
      have q0:(0:Int)≤(k:Int):=by omega
      have q1:(k:Int)<(l.length:Int):=by omega
      have q2:decide ((k:Int)<(l.length:Int))=true:=decide_eq_true q1
      clear hr hv hg
      go_wp2_with fail
      refine (HV.out _ (HBr.out.alloc _) (HAr.out.ext (ext_new _ _))).mono ?_
      rintro e W1 ⟨rfl,hb1⟩
      have HX1:=Lib.hid ((Blk.new wr 67 #[.int .i64 y0,.int .i64 y1,.int .i64 y2,.int .i64 y3,.int .i64 y4]).ext hb1)
      have HE1:=Lib.hid (ext_call (ext_alloc HE.out _) hb1)
      have hwz:=HX1.out.lt
      clear hb1 r0 r1 r2 r3 r4
      generalize wr.heap.size=bx at *
      go_upto_region 11 with (fail)
      obtain ⟨ki,hki⟩:∃ ki:Int,ki=(k:Int):=⟨_,rfl⟩
      have HKI:=Lib.hid hki
      have e2:IntKind.i64.wrap (ki+1)=ki+1:=IntWalk.i64_in _ (by omega)
      rw [← hki]
      clear hki
      go_cut [103] from 72 to 101 (fun cv W=>cv=.bool false∧Below W0.heap.size W0 W∧Blk W bx 67 #[.int .i64 y0,.int .i64 y1,.int .i64 y2,.int .i64 y3,.int .i64 y4])
      case first=>
        have x0:=HX1.out.cell 0;have x1:=HX1.out.cell 1;have x2:=HX1.out.cell 2;have x3:=HX1.out.cell 3;have x4:=HX1.out.cell 4
        go_wp2_with fail
        refine (HVD.out _).mono ?_
        rintro e W2 ⟨rfl,hb2⟩
        have HX2:=Lib.hid (HX1.out.ext hb2)
        have HE2:=Lib.hid (ext_call HE1.out hb2)
        have HB2:=Lib.hid (HB0.out.ext HE2.out)
        clear hb2 x0 x1 x2 x3 x4
        have hla:=HLE.out
        have x0:=HX2.out.cell 0
        have b0:=HB2.out.cell 0
        have b2:=HB2.out.cell 2
        have b3:=HB2.out.cell 3
        by_cases hvl:v<lo
        · have hk0:¬ 0<k:=fun h=>by have:=hlo h;omega
          have a1:decide ((0:Int)<ki)=false:=decide_eq_false (by have:=HKI.out;omega)
          by_cases hvh:hi<v
          · omega
          · clear hlo hhi hla hk0
            go_wp2
            go_meet
            case rel=>exact ⟨rfl,HE2.out,HX2.out⟩
        · by_cases hvh:hi<v
          · have hk1:¬ k+1<l.length:=fun h=>by have:=hhi h;omega
            have a2:decide (ki<(la:Int))=false:=decide_eq_false (by have:=HKI.out;omega)
            clear hlo hhi hla hk1
            go_wp2
            go_meet
            case rel=>exact ⟨rfl,HE2.out,HX2.out⟩
          · clear hlo hhi hla
            go_wp2
            go_meet
            case rel=>exact ⟨rfl,HE2.out,HX2.out⟩
      case rest=>
        obtain ⟨hcv,hE2,hX2⟩:=hcut
        subst hcv
        have HE2:=Lib.hid hE2
        have HB2:=Lib.hid (HB0.out.ext hE2)
        have HA2:=Lib.hid (HA0.out.ext hE2)
        have HX2:=Lib.hid hX2
        clear hE2 hX2 hlo hhi HX1 HE1 HBr HAr HE HV
        by_cases hk0:k=0
        · have a1:decide ((0:Int)<ki)=false:=decide_eq_false (by have:=HKI.out;omega)
          clear hk0
          go_wp2
          refine wp_region_quietB (by kernel_rfl) (by kernel_rfl) ?_
          repeat (go_big_quiet_step (fail))
          refine wpQuiet_nil ?_
          intro _ hw'
          obtain ⟨⟨Wq,hq⟩,hw''⟩:=hw'
          subst hw''
          have HQ:=Lib.hid hq
          clear hq
          go_wp2
          go_roundw
          case rel=>exact ⟨k+1,by omega,by rw [HKI.out];go_num,ext_call HE2.out HQ.out⟩
          case measure=>have:=HKI.out;simp [intOf];omega
        · obtain ⟨m,hm⟩:∃ m,k=m+1:=⟨k-1,by omega⟩
          obtain ⟨s,hs⟩:∃ s,l[m]? = some s:=⟨_,List.getElem?_eq_getElem (by omega)⟩
          have hprev:=HPREV.out m s hm hs
          have HVM:=Lib.hid (fun W h1 h2=>HVAL.out bp m s hs W h1 h2)
          obtain ⟨g2,d2',hA2,hg2,s0,s1,s2,s3,s4⟩:=HA2.out.c5 hs
          injection hA2 with hA3 _ hd3
          injection hA3 with hA3
          injection hA3 with hA3
          subst hA3 hd3
          have hk9:(0:Int)<ki:=by have:=HKI.out;omega
          have e4:IntKind.i64.wrap (ki-1)=(m:Int):=by rw [HKI.out,IntWalk.i64_in _ (by omega)];omega
          have m0:(0:Int)≤(m:Int):=by omega
          have m1:(m:Int)<(l.length:Int):=by omega
          obtain ⟨u,hu⟩:∃ u,u=s.col j:=⟨_,rfl⟩
          rw [← hu] at HVM hprev
          obtain ⟨sk,hsk⟩:∃ sk,sk=s.k:=⟨_,rfl⟩
          rw [← hsk] at hprev s1
          have x1:=HX2.out.cell 1
          have p6:=HB2.out.cell 6
          have x1':=BlwW.cell x1
          have p6':=BlwW.cell p6
          have s1':=BlwW.cell s1
          clear hm hs hu hsk s0 s1 s2 s3 s4 x1 p6 hg2 hk0
          rcases hprev with hlt2|⟨heq,hlt2⟩
          · have b1:¬ v<u:=by omega
            have b3:decide (v<u)=false:=decide_eq_false b1
            have b2:(v == u)=false:=by rw [beq_eq_false_iff_ne];omega
            clear hlt2
            go_wp2
            refine wp_region_quietB (by kernel_rfl) (by kernel_rfl) ?_
            repeat (go_big_quiet_step (first|(go_at_call 155;with_reducible exact Calls.quietB (HVM.out _ (HB2.out.ext (BlwW.h _)) (HA2.out.ext (BlwW.h _))))))
            refine wpQuiet_nil ?_
            intro _ hw'
            obtain ⟨⟨Wq,hq⟩,hw''⟩:=hw'
            subst hw''
            have HQ:=Lib.hid hq
            clear hq
            go_wp2
            go_roundw
            case rel=>exact ⟨k+1,by omega,by rw [HKI.out];go_num,ext_call HE2.out HQ.out⟩
            case measure=>have:=HKI.out;simp [intOf];omega
          · subst heq
            have b1:¬ y1≤sk:=by omega
            clear hlt2
            go_wp2
            refine wp_region_quietB (by kernel_rfl) (by kernel_rfl) ?_
            repeat (go_big_quiet_step (first|(go_at_call 155;with_reducible exact Calls.quietB (HVM.out _ (HB2.out.ext (BlwW.h _)) (HA2.out.ext (BlwW.h _))))))
            refine wpQuiet_nil ?_
            intro _ hw'
            obtain ⟨⟨Wq,hq⟩,hw''⟩:=hw'
            subst hw''
            have HQ:=Lib.hid hq
            clear hq
            go_wp2
            go_roundw
            case rel=>exact ⟨k+1,by omega,by rw [HKI.out];go_num,ext_call HE2.out HQ.out⟩
            case measure=>have:=HKI.out;simp [intOf];omega
    · have q2:decide ((k:Int)<(l.length:Int))=false:=decide_eq_false (by omega)
      have e5:IntKind.i64.wrap (f+(l.length:Int))=f+(l.length:Int):=IntWalk.i64_in _ (by omega)
      have b2:=HBr.out.cell 2
      have b3:=HBr.out.cell 3
      have b4:=HBr.out.cell 4
      have b5:=HBr.out.cell 5
      have b2':=BlwW.cell b2
      have b3':=BlwW.cell b3
      have b4':=BlwW.cell b4
      have b5':=BlwW.cell b5
      have HB2:=HBr
      have HA2:=HAr
      have hla:=HLE.out
      clear b2 b3 b4 b5 HBr HAr
      by_cases hf0:f=0
      · subst hf0
        clear e5
        have e5:IntKind.i64.wrap (l.length:Int)=(l.length:Int):=IntWalk.i64_in _ (by omega)
        by_cases hn9:(l.length:Int)=n
        · subst hn9
          clear hla
          go_wp2
          refine wp_region_quietB (by kernel_rfl) (by kernel_rfl) ?_
          repeat (go_big_quiet_step (fail))
          refine wpQuiet_nil ?_
          intro _ hw'
          obtain ⟨⟨Wq,hq⟩,hw''⟩:=hw'
          subst hw''
          have HQ:=Lib.hid hq
          clear hq
          go_wp2
          go_ret
          exact ⟨rfl,ext_call HE0.out (ext_call HE.out HQ.out)⟩
        · obtain ⟨rz,hrz,hrz2⟩:=HLA.out.resolve_left (by rw [Int.zero_add];exact hn9)
          have b6:((l.length:Int) == n)=false:=by simpa using hn9
          rw [show l.length-1=la by omega] at hrz
          have HVZ:=Lib.hid (fun W h1 h2=>HVAL.out bp la rz hrz W h1 h2)
          generalize rz.col j=vz at *
          clear hn9 hla hrz
          go_wp2
          refine wp_region_quietB (by kernel_rfl) (by kernel_rfl) ?_
          repeat (go_big_quiet_step (first|(go_at_call 155;with_reducible exact Calls.quietB (HVZ.out _ (HB2.out.ext (BlwW.h _)) (HA2.out.ext (BlwW.h _))))))
          refine wpQuiet_nil ?_
          intro _ hw'
          obtain ⟨⟨Wq,hq⟩,hw''⟩:=hw'
          subst hw''
          have HQ:=Lib.hid hq
          clear hq
          go_wp2
          go_ret
          exact ⟨rfl,ext_call HE0.out (ext_call HE.out HQ.out)⟩
      · obtain ⟨ra,hra,hra2⟩:=HFI.out.resolve_left hf0
        · have b1:(f == 0)=false:=by simpa using hf0
          have hva:=fun W h1 h2=>HVAL.out bp 0 ra hra W h1 h2
          rw [show (((0:Nat)):Int)=0 from rfl] at hva
          have HVA:=Lib.hid hva
          clear hva
          generalize ra.col j=va at *
          clear hf0 hra
          by_cases hn9:f+(l.length:Int)=n
          · subst hn9
            clear hla
            go_wp2
            refine wp_region_quietB (by kernel_rfl) (by kernel_rfl) ?_
            repeat (go_big_quiet_step (first|(go_at_call 155;with_reducible exact Calls.quietB (HVA.out _ (HB2.out.ext (BlwW.h _)) (HA2.out.ext (BlwW.h _))))))
            refine wpQuiet_nil ?_
            intro _ hw'
            obtain ⟨⟨Wq,hq⟩,hw''⟩:=hw'
            subst hw''
            have HQ:=Lib.hid hq
            clear hq
            go_wp2
            go_ret
            exact ⟨rfl,ext_call HE0.out (ext_call HE.out HQ.out)⟩
          · obtain ⟨rz,hrz,hrz2⟩:=HLA.out.resolve_left hn9
            have b6:(f+(l.length:Int) == n)=false:=by simpa using hn9
            rw [show l.length-1=la by omega] at hrz
            have HVZ:=Lib.hid (fun W h1 h2=>HVAL.out bp la rz hrz W h1 h2)
            generalize rz.col j=vz at *
            clear hn9 hla hrz
            go_wp2
            refine wp_region_quietB (by kernel_rfl) (by kernel_rfl) ?_
            repeat (go_big_quiet_step (first|(go_at_call 155;with_reducible exact Calls.quietB (HVA.out _ (HB2.out.ext (BlwW.h _)) (HA2.out.ext (BlwW.h _))))|(go_at_call 155;with_reducible exact Calls.quietB (HVZ.out _ (HB2.out.ext (BlwW.h _)) (HA2.out.ext (BlwW.h _))))))
            refine wpQuiet_nil ?_
            intro _ hw'
            obtain ⟨⟨Wq,hq⟩,hw''⟩:=hw'
            subst hw''
            have HQ:=Lib.hid hq
            clear hq
            go_wp2
            go_ret
            exact ⟨rfl,ext_call HE0.out (ext_call HE.out HQ.out)⟩
end Go.Proofs.YtimoapjhepmehaaGreatDoor
