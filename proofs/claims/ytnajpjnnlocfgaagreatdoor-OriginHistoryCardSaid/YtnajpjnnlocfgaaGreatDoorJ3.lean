/-
  Part 3 of 9: the contracts that the proof of the last part uses; each stands under its own head.
-/
import Derived.Test.YtnajpjnnlocfgaaGreatDoorJ2
import Derived.Deep.RegionLaw
import Derived.Deep.RegionHeld3
import Derived.Test.YtnajpjnnlocfgaaGreatDoorJ1
import Derived.Stop.RegionWithIn
import Derived.Lib.SliceRun
import Derived.OrdersHeld
import Derived.BigRegion
set_option linter.unusedSimpArgs false
set_option linter.unusedVariables false
set_option maxHeartbeats 4000000
set_option maxRecDepth 100000
namespace Go.Proofs.YtnajpjnnlocfgaaGreatDoor
section
open Go.RowKit Go.Shelf
attribute [local go_sem ↓] Go.wp_at_zero Go.wp_at_succ
attribute [local go_sem] Oper.semAt_some
def RootI (w:World) (st:List (Nat × ByteArray)) (wv sv:Value) (W:World):Prop:=RS w W wv sv (st.map (·.2)) (st.map (·.1))
theorem own_cap {w:World} {base e n cap g:Nat} {xs:List Value} (h:w.ownsRow base e 1 (.slice (some ⟨g,0,none⟩) n cap) n xs):n≤cap:=by
  rcases h.2 with ⟨he,_⟩|⟨g',cap',cur,he,_,_,hle,_⟩
  · cases he
  · injection he with h1 h2 h3
    omega
theorem RS.cutW {w W:World} {sv:Value} {g cap m:Nat} {i:List (Nat × ByteArray)} {p q:Nat × ByteArray} {zs:List Nat} (hm:m=i.length) (h:RS w W (.slice (some ⟨g,0,none⟩) (m+2) cap) sv ((i++[p,q]).map (·.2)) zs):W.ownsRow w.heap.size 9 1 (.slice (some ⟨g,0,none⟩) m cap) m ((i.map (·.2)).map Value.string):=by
  subst hm
  have h1:=h.1
  rw [show ((i++[p,q]).map (·.2)).length=i.length+2 by simp] at h1
  have h2:=own_cut h1 (k:=i.length) (by omega)
  rwa [show (((i++[p,q]).map (·.2)).map Value.string).take i.length=(i.map (·.2)).map Value.string by simp] at h2
theorem RS.cutS {w W:World} {wv:Value} {g cap m:Nat} {i:List (Nat × ByteArray)} {p q:Nat × ByteArray} {xs:List ByteArray} (hm:m=i.length) (h:RS w W wv (.slice (some ⟨g,0,none⟩) (m+2) cap) xs ((i++[p,q]).map (·.1))):W.ownsRow w.heap.size 3 1 (.slice (some ⟨g,0,none⟩) m cap) m ((i.map (·.1)).map fun z:Nat=>Value.int .i64 (z:Int)):=by
  subst hm
  have h1:=h.2.1
  rw [show ((i++[p,q]).map (·.1)).length=i.length+2 by simp] at h1
  have h2:=own_cut h1 (k:=i.length) (by omega)
  rwa [show (((i++[p,q]).map (·.1)).map fun z:Nat=>Value.int .i64 (z:Int)).take i.length=(i.map (·.1)).map fun z:Nat=>Value.int .i64 (z:Int) by simp] at h2
def accB (ys:List ByteArray) (z:ByteArray) {N:Nat} (pre:List { k:Nat // k<N }):ByteArray:=pre.foldl (fun out k=>nodeF (ys.getD k.1 ⟨#[]⟩) out) z
theorem accB_snoc (ys:List ByteArray) (z:ByteArray) {N:Nat} (pre:List { k:Nat // k<N }) (x:{ k:Nat // k<N }):accB ys z (pre++[x])=nodeF (ys.getD x.1 ⟨#[]⟩) (accB ys z pre):=by simp [accB]
theorem accB_size (ys:List ByteArray) {N:Nat} (pre:List { k:Nat // k<N }):∀ z:ByteArray,z.size=32→(accB ys z pre).size=32:=by
  induction pre with
  | nil=>exact fun z h=>h
  | cons x pre ih=>
    intro z _
    have h:=ih (nodeF (ys.getD x.1 ⟨#[]⟩) z) (nodeF_size _ _)
    simpa only [accB,List.foldl_cons] using h
theorem accB_downs (ys:List ByteArray) (z:ByteArray) (k:Nat) (hk:k≤ys.length):accB ys z (downs ys.length k)=(ys.drop (ys.length-k)).foldr (fun r out=>nodeF r out) z:=by
  induction k with
  | zero=>simp [downs,accB]
  | succ k ih=>
    rw [downs_succ _ _ (by omega),accB_snoc,ih (by omega)]
    have h1:ys.length-(k+1)<ys.length:=by omega
    rw [List.drop_eq_getElem_cons h1,List.foldr_cons]
    have h2:ys.length-(k+1)+1=ys.length-k:=by omega
    have h3:ys.length-1-k=ys.length-(k+1):=by omega
    rw [h2]
    simp only [h3]
    rw [List.getD_eq_getElem?_getD,List.getElem?_eq_getElem h1]
    rfl
theorem accB_all (ys:List ByteArray) (z:ByteArray):accB ys z (downs ys.length ys.length)=foldBack (ys++[z]):=by
  rw [accB_downs _ _ _ (Nat.le_refl _)]
  simp [foldBack]
def RootJ (w:World) (B0 g0:Nat) (ys:List ByteArray) (z:ByteArray) {N:Nat} (pre:List { k:Nat // k<N }) (W:World):Prop:=
  (Blk W g0 9 #[.string (accB ys z pre)]∧RoundOK W)∧Below w.heap.size w W∧B0≤W.heap.size
theorem RootJ.own (w:World) (B0 g0:Nat) (ys:List ByteArray) (z:ByteArray) (N B:Nat) (hB:w.heap.size≤B):OwnFrom B (fun (pre:List { k:Nat // k<N }) W=>RootJ w B0 g0 ys z pre W):=
  OwnFrom.and (Own.from (fun _ A B row hs hg hr=>⟨(hg.block _ hs.1.lt (fun e=>by
      obtain ⟨o,ho,hc⟩:=hr _ e.symm
      have h1:=hs.1
      unfold Blk at h1
      rw [h1] at ho
      cases ho
      cases hc)).trans hs.1,fun j v hv=>cell_kept (hs.2 j v hv) hg hr⟩) _) (OwnFrom.and (ownFrom_below (Nat.le_refl _) hB) (fun _ _ _ _ hs hg _=>Nat.le_trans hs hg.size))
theorem step_append_own {P:Program} {ops:Array Oper} {o:Oper} {a:Act} {w:World} {K:Act→World→Prop} {Q:Exit→Act→World→Prop} {E:Prop} (hgd:o.guard=none) (s x:Operand) (t:TypeId)
    (ho:o.op=.call { callee:=.builtin .append,args:=#[s,x],argTypes:=#[t,t] })
    (base:Nat) (e:TypeId) (i:TypeInfo) (z:Value) (size bytes:Nat) (ht:P.underlying t=some (.slice e)) (hi:P.info? e=some i) (hz:i.zero=some z)
    (hsize:i.size=size) (hby:i.bytes=bytes) (hzs:z.cells.size=size) (hsz:0<size)
    (v:Value) (n:Nat) (xs:List Value) (hs:a.eval s=v) (hown:w.ownsRow base e size v n xs)
    (ad:Addr) (m c:Nat) (news:List Value) (hx:a.eval x=.slice (some ad) m c) (hl:news.length=m*size) (hnews:∀ j u,news[j]? = some u→w.cell? (ad.add j)=some u) (h1:∀ u ∈ news,u.oneCell'=true)
    (h63:n+m≤maxLen) (hbytes:(n+m)*bytes≤140737488355328) (hbase:base≤w.heap.size)
    (h:∀ v' w',w'.ownsRow base e size v' (n+m) (xs++news)→w.grownBy w' v.ownBlock→K (a.put o.dst v') w') :
    if Region.wanted o (yielded ops a.tmps)=true then Oper.wp P o a w K Q else E:=by
  rw [if_pos (by simp [Region.wanted,hgd])]
  exact wp_append_own w s x t ho base e i z size bytes ht hi hz hsize hby hzs hsz v n xs hs hown ad m c news hx hl hnews h1 h63 hbytes hbase fun v' w' h2 h3 _=>h v' w' h2 h3
theorem root_any (S:Nat→Prop) (v:Value) (l:List ByteArray) (w:World) (hv:Strs S w v l) (hn:l.length≤10000) (hl:∀ x ∈ l,x.size≤100000) (hR:RoundOK w) :
    Calls Tryz.prog 39 #[v] w fun e w'=>e=.returned (.string (rootF l))∧Below w.heap.size w w':=by
  have HV:=Lib.hid hv
  have HL:=Lib.hid hl
  have HR:=Lib.hid hR
  have hr1:=hR.lt
  obtain ⟨A,c,rfl,hc,_⟩:=hv
  clear hl hR
  obtain ⟨is,his,hzs0,hzs1,hzs2⟩:=info_parts str_info
  obtain ⟨ii,hii,hzi0,hzi1,hzi2⟩:=info_parts int_info
  refine (callsIn_wide (n:=3)).1 (callsIn_of_wp_marks Tryz.func39 rfl trivial (wpIn_wide.2 ?_) rfl)
  simp only [Tryz.ntmps39,List.size_toArray,List.length_cons,List.length_nil,Nat.reduceAdd,Nat.reduceSub,Array.replicate_succ,Array.replicate_zero,List.push_toArray,List.append_toArray,List.nil_append,List.cons_append]
  go_wp2
  go_loopw [3,4,13] (fun wv sv i W=>∃ k:Nat,k≤l.length∧i=.int .i64 k∧RootI w (stackTo l k) wv sv W) (fun _ _ i _=>l.length-(intOf i).toNat)
  case atStart=>exact ⟨0,Nat.zero_le _,rfl,World.ownsRow_nil _ _ _ _,World.ownsRow_nil _ _ _ _,HR.out,Below.refl _ _⟩
  case round =>
    obtain ⟨k,hk,rfl,hI⟩:=hrel
    by_cases hlt:k<l.length
    · obtain ⟨b, off, c', hA, _, hS, hcell⟩ := HV.out.at_ hlt
      injection hA with hA hn' hc'
      subst hA;subst hc'
      clear hn'
      have hbw:Below w.heap.size w wr:=hI.2.2.2
      have cx:=(hbw.cell (p:=⟨b,off+k,none⟩) (lt_of_cell hcell)).trans hcell
      obtain ⟨x,hx⟩:∃ x,x=l.getD k ⟨#[]⟩:=⟨_,rfl⟩
      rw [← hx] at cx
      have hxs:x.size≤500000:=by
        have h:=HL.out l[k] (List.getElem_mem hlt)
        rw [hx]
        simp [hlt]
        omega
      have HX:=Lib.hid hx
      clear hx hcell
      obtain ⟨st,hst⟩:∃ st,st=stackTo l k:=⟨_,rfl⟩
      rw [← hst] at hI
      have HST:=Lib.hid hst
      clear hst
      have hok:OkSt k st:=by rw [HST.out];exact stackTo_ok l k
      have hstl:st.length≤10000:=Nat.le_trans (okSt_length k st hok) (by omega)
      have HOK:=Lib.hid hok
      clear hok
      unfold RootI at hI
      have HI:=Lib.hid hI
      have hz:=hbw.size
      have HLf:=Lib.hid (leaf_any x wr hI.2.2.1 hxs)
      obtain ⟨A3,c3,h3⟩:=own_shape hI.1
      obtain ⟨A4,c4,h4⟩:=own_shape hI.2.1
      rw [List.length_map] at h3 h4
      subst h3;subst h4
      clear hI
      go_wp2_with (first
        | (go_at_call 72;refine HLf.out.mono ?_;rintro e W1 ⟨rfl,hb1⟩;have H1:=Lib.hid (HI.out.below hb1);have hz1:=hb1.size;clear hb1)
        | (at_builtin;refine wpList_append_own _ rfl (.tmp 17) (.tmp 20) 44 rfl w.heap.size 9 is (.string ⟨#[]⟩) 1 16 Tryz.underlying44 his hzs0 hzs1 hzs2 rfl (by decide) (.slice A3 st.length c3) (st.map (·.2)).length _ rfl (H1.out.alloc _).1 ⟨W1.heap.size,0,none⟩ 1 1 [.string (leafF x)] rfl rfl (cell_one_new _ _ _) ?_ ?_ ?_ ?_ ?_;(simp [Value.oneCell']);(rw [List.length_map];unfold maxLen;omega);(rw [List.length_map];omega);(rw [World.size_alloc];omega);intro wv2 W2 ho2 hg2 _;have H2:=Lib.hid (RS.appW (ys:=st.map (·.2)++[leafF x]) hr1 (H1.out.alloc _) (by simpa using ho2) (by simp) hg2);have hz2:=hg2.size;rw [World.size_alloc] at hz2;obtain ⟨A5,c5,h5⟩:=own_shape ho2;clear ho2 hg2;subst h5)
        | (at_builtin;refine wpList_append_own _ rfl (.tmp 22) (.tmp 23) 67 rfl w.heap.size 3 ii (.int .i64 0) 1 8 Tryz.underlying67 hii hzi0 hzi1 hzi2 rfl (by decide) (.slice A4 st.length c4) (st.map (·.1)).length _ rfl (H2.out.alloc _).2.1 ⟨W2.heap.size,0,none⟩ 1 1 [.int .i64 1] rfl rfl (cell_one_new _ _ _) ?_ ?_ ?_ ?_ ?_;(simp [Value.oneCell']);(rw [List.length_map];unfold maxLen;omega);(rw [List.length_map];omega);(rw [World.size_alloc];omega);intro sv2 W3 ho3 hg3 _;have H3:=Lib.hid (RS.appS (ys:=st.map (·.1)++[1]) hr1 (H2.out.alloc _) (by simpa using ho3) (by simp) hg3);obtain ⟨A6,c6,h6⟩:=own_shape ho3;clear ho3 hg3;subst h6))
      have H4:=Lib.hid (show RootI w (st++[(1,leafF x)]) (.slice A5 (st.length+1) c5) (.slice A6 (st.length+1) c6) W3 by
        unfold RootI
        have h:=H3.out
        simp only [List.length_map] at h
        simpa using h)
      have HOK2:=Lib.hid (okSt_push k st HOK.out x)
      clear HI H1 H2 H3 HLf cx
      go_loopw [3,4,7] (fun wv sv i W=>∃ (st':List (Nat × ByteArray)) (q:Nat),i=.int .i64 (q:Int)∧Hid (q=st'.length)∧RootI w st' wv sv W∧Hid (merged st'=merged (st++[(1,leafF x)])∧OkSt (k+1) st')) (fun _ _ i _=>(intOf i).toNat)
      case atStart=>exact ⟨st++[(1,leafF x)],st.length+1,by simp,by simp [Hid],H4.out,rfl,HOK2.out⟩
      case round =>
        obtain ⟨st',q,rfl,hq,hI,hM⟩:=hrel
        have hql:q≤10001:=by rw [hq.out];exact Nat.le_trans (okSt_length _ _ hM.out.2) (by omega)
        by_cases h2:2≤q
        · obtain ⟨i,⟨s1,a⟩,⟨s2,b2⟩,rfl⟩:=two_last st' (by rw [← hq.out];exact h2)
          obtain ⟨m,hm⟩:∃ m,m=i.length:=⟨_,rfl⟩
          obtain rfl:q=m+2:=by have:=hq.out;simp at this;omega
          have HM:=Lib.hid hm
          have ha:a.size=32:=(hM.out.2.2 (s1,a) (by simp)).1
          have hb2:b2.size=32:=(hM.out.2.2 (s2,b2) (by simp)).1
          have hs1:s1≤10001:=Nat.le_trans (okSt_le _ _ hM.out.2 (s1,a) (by simp)) (by omega)
          have hs2:s2≤10001:=Nat.le_trans (okSt_le _ _ hM.out.2 (s2,b2) (by simp)) (by omega)
          have HI:=Lib.hid hI
          unfold RootI at hI
          obtain ⟨gw,cw,hwv,_,hgw⟩:=hI.1.form (by simp)
          obtain ⟨gs,csz,hsv,_,hgs⟩:=hI.2.1.form (by simp)
          have el:((i++[(s1,a),(s2,b2)]).map (·.2)).length=m+2:=by simp [hm]
          have el':((i++[(s1,a),(s2,b2)]).map (·.1)).length=m+2:=by simp [hm]
          rw [el] at hwv
          rw [el'] at hsv
          subst hwv;subst hsv
          have hWo:=hI.1
          have hSo:=hI.2.1
          rw [el] at hWo
          rw [el'] at hSo
          have hcw:m+2≤cw:=own_cap hWo
          have hcs:m+2≤csz:=own_cap hSo
          have ca:wr.cell? ⟨gw,m,none⟩=some (.string a):=own_cell hWo (by simp [hm])
          have cb:wr.cell? ⟨gw,m+1,none⟩=some (.string b2):=own_cell hWo (by simp [hm])
          have c1:wr.cell? ⟨gs,m,none⟩=some (.int .i64 (s1:Int)):=own_cell hSo (by simp [hm])
          have c2:wr.cell? ⟨gs,m+1,none⟩=some (.int .i64 (s2:Int)):=own_cell hSo (by simp [hm])
          have HWo:=Lib.hid hWo
          have HSo:=Lib.hid hSo
          have hz3:=hI.2.2.2.size
          clear hI hWo hSo el el' hm hq
          have hm9:m+2≤10001:=hql
          have hd:decide ((1:Int)<(m:Int)+2)=true:=by simp;omega
          have e1:IntKind.i64.wrap ((m:Int)+2-2)=(m:Int):=by rw [IntWalk.i64_in _ (by omega)];omega
          have e1':IntKind.i64.wrap (m:Int)=(m:Int):=by rw [IntWalk.i64_in _ (by omega)]
          have e2':IntKind.i64.wrap ((m:Int)+1)=(m:Int)+1:=by rw [IntWalk.i64_in _ (by omega)]
          have e2:IntKind.i64.wrap ((m:Int)+2-1)=(m:Int)+1:=by rw [IntWalk.i64_in _ (by omega)];omega
          have q0:(0:Int)≤(m:Int):=by omega
          have q1:(m:Int)<(m:Int)+2:=by omega
          have q2:(0:Int)≤(m:Int)+1:=by omega
          have q3:(m:Int)+1<(m:Int)+2:=by omega
          have t1:((m:Int)+1).toNat=m+1:=by omega
          rw [show ((m+2:Nat):Int)=(m:Int)+2 from rfl]
          by_cases he:s1=s2
          · have hbe:((s1:Int) == (s2:Int))=true:=by simp [he]
            go_wp2
            go_quiet (fail)
            go_wp2
            have HIq:=Lib.hid (RS.drewN HI.out nq)
            have caq:(wr.drewN nq).cell? ⟨gw,m,none⟩=some (.string a):=ca
            have cbq:(wr.drewN nq).cell? ⟨gw,m+1,none⟩=some (.string b2):=cb
            have hzq:w.heap.size≤(wr.drewN nq).heap.size:=hz3
            clear ca cb c1 c2 HWo HSo HI hz3 hgw hgs
            generalize wr.drewN nq=Wq at *
            have HN:=Lib.hid (fun W (h:RoundOK W)=>node_any a b2 W h (by omega) (by omega))
            have q4:(m:Int)≤(cw:Int):=by omega
            have q5:(m:Int)≤(csz:Int):=by omega
            refine wp_region_noPanic ?_
            go_region_law (first
              | (refine step_append_own rfl (.tmp 47) (.tmp 59) 44 rfl w.heap.size 9 is (.string ⟨#[]⟩) 1 16 Tryz.underlying44 his hzs0 hzs1 hzs2 rfl (by decide) (.slice (some ⟨gw,0,none⟩) m cw) m _ (by rfl) (RS.cutW HM.out (H1.out.alloc _)) ⟨W1.heap.size,0,none⟩ 1 1 [.string (nodeF a b2)] (by rfl) rfl (cell_one_new _ _ _) ?_ ?_ ?_ ?_ ?_;(simp [Value.oneCell']);(unfold maxLen;omega);omega;(rw [World.size_alloc];have:Wq.heap.size≤W1.heap.size:=hz1;omega);intro wv2 W2 ho2 hg2;have H2:=Lib.hid (RS.appW (ys:=i.map (·.2)++[nodeF a b2]) hr1 (H1.out.alloc _) (n:=m+1) (by simpa using ho2) (by simp [HM.out]) hg2);have hz2:=hg2.size;rw [World.size_alloc] at hz2;obtain ⟨A5,c5,h5⟩:=own_shape ho2;clear ho2 hg2;subst h5)
              | (go_simp;go_at_call 73;refine (HN.out _ (HIq.out.drew).2.2.1).mono ?_;rintro e W1 ⟨rfl,hb1⟩;have H1:=Lib.hid (RS.below (HIq.out.drew) hb1);have hz1:=hb1.size;clear hb1))
            all_goals
              refine NoPanic.normal ?_
              have c2':W2.cell? ⟨gs,m+1,none⟩=some (.int .i64 (s2:Int)):=by
                have h:=H2.out.2.1
                rw [show ((i++[(s1,a),(s2,b2)]).map (·.1)).length=m+2 by simp [HM.out]] at h
                exact own_cell h (by simp [HM.out])
              have e5:IntKind.i64.wrap (2*(s2:Int))=2*(s2:Int):=by rw [IntWalk.i64_in _ (by omega)]
              have hzq2:w.heap.size≤W2.heap.size:=by
                have:Wq.heap.size≤W1.heap.size:=hz1
                omega
              clear hz1 hz2 H1 HN caq cbq HIq
              go_wp2
              refine wp_region_noPanic ?_
              go_region_law (refine step_append_own rfl (.tmp 64) (.tmp 71) 67 rfl w.heap.size 3 ii (.int .i64 0) 1 8 Tryz.underlying67 hii hzi0 hzi1 hzi2 rfl (by decide) (.slice (some ⟨gs,0,none⟩) m csz) m _ (by rfl) (RS.cutS HM.out (H2.out.alloc _).drew) ⟨W2.heap.size,0,none⟩ 1 1 [.int .i64 (2*(s2:Int))] (by rfl) rfl (show _ from cell_one_new W2 _ _) ?_ ?_ ?_ ?_ ?_;(simp [Value.oneCell']);(unfold maxLen;omega);omega;(show w.heap.size≤(W2.alloc _).heap.size;rw [World.size_alloc];omega);intro sv2 W3 ho3 hg3;have H4:=Lib.hid (RS.appS (ys:=i.map (·.1)++[2*s2]) hr1 (H2.out.alloc _).drew (n:=m+1) (by simpa using ho3) (by simp [HM.out]) hg3);obtain ⟨A6,c6,h6⟩:=own_shape ho3;clear ho3 hg3;subst h6)
              refine NoPanic.normal ?_
              go_wp2
              go_roundw
              case rel=>
                refine ⟨i++[(2*s2,nodeF a b2)],m+1,by go_num,by simp [Hid,HM.out],?_,?_,?_⟩
                · unfold RootI
                  simpa using H4.out
                · rw [← hM.out.1,he]
                  exact (merged_step i s2 a b2).symm
                · have h:=hM.out.2
                  rw [he] at h
                  exact okSt_merge _ i s2 a b2 h
              case measure=>simp [intOf]
          · have hbe:((s1:Int) == (s2:Int))=false:=by simp;omega
            go_wp2
            go_quiet (fail)
            go_wp2
            go_roundw
            case rel=>
              refine ⟨k+1,by omega,by go_num,?_⟩
              have he':stackTo l (k+1)=i++[(s1,a),(s2,b2)]:=by
                show merged (stackTo l k++[(1,leafF (l.getD k ⟨#[]⟩))])=_
                rw [← HST.out,← HX.out,← hM.out.1]
                exact merged_diff i s1 s2 a b2 he
              rw [he']
              exact HI.out.drewN nq
            case measure=>simp [intOf];omega
        · have hd:decide ((1:Int)<(q:Int))=false:=by simp;omega
          unfold RootI at hI
          obtain ⟨A7,c7,h7⟩:=own_shape hI.1
          obtain ⟨A8,c8,h8⟩:=own_shape hI.2.1
          subst h7;subst h8
          have HI:=Lib.hid hI
          clear hI
          go_wp2
          go_quiet (fail)
          go_wp2
          go_roundw
          case rel=>
            refine ⟨k+1,by omega,by go_num,?_⟩
            have he:stackTo l (k+1)=st':=by
              show merged (stackTo l k++[(1,leafF (l.getD k ⟨#[]⟩))])=st'
              rw [← HST.out,← HX.out,← hM.out.1]
              exact merged_short st' (by rw [← hq.out];omega)
            rw [he]
            exact HI.out.drewN nq
          case measure=>simp [intOf];omega
    · have hke : k = l.length := by omega
      obtain ⟨st,hst⟩:∃ st,st=stackTo l k:=⟨_,rfl⟩
      rw [← hst] at hI
      have hok:OkSt k st:=by rw [hst];exact stackTo_ok l k
      have hstl:st.length≤10000:=Nat.le_trans (okSt_length k st hok) (by omega)
      have HOK:=Lib.hid hok
      have HST:=Lib.hid hst
      have HKE:=Lib.hid hke
      clear hok hst
      unfold RootI at hI
      have HI:=Lib.hid hI
      have hz3:=hI.2.2.2.size
      rcases Nat.eq_zero_or_pos st.length with h0|hp
      · obtain ⟨A3,c3,h3⟩:=own_shape hI.1
        rw [List.length_map,h0] at h3
        subst h3
        have HS:=Lib.hid (sum_any ⟨#[]⟩ wr (by decide) hI.2.2.1)
        clear hI
        go_wp2_with (go_at_call 55;refine HS.out.mono ?_;rintro e W1 ⟨rfl,hb1⟩)
        refine ⟨_,results_tmp rfl _ _ _,?_,HI.out.2.2.2.trans (hb1.mono hz3)⟩
        have hl0:l=[]:=by
          have h:=HOK.out.1
          rw [List.eq_nil_of_length_eq_zero h0] at h
          simp at h
          exact List.eq_nil_of_length_eq_zero (by omega)
        rw [rootF,if_pos hl0]
        rfl
      · obtain ⟨ys,z,hys⟩:∃ ys z,st.map (·.2)=ys++[z]:=by
          have hne:st.map (·.2)≠[]:=fun h=>by
            rw [List.map_eq_nil_iff.1 h] at hp
            simp at hp
          exact ⟨_,_,(List.dropLast_concat_getLast hne).symm⟩
        have hsl:(st.map (·.2)).length=ys.length+1:=by rw [hys];simp
        have hys9:ys.length+1≤10000:=by rw [List.length_map] at hsl;omega
        have hszs:∀ y ∈ ys++[z],y.size=32:=fun y hy=>by
          rw [← hys] at hy
          obtain ⟨q,hq,rfl⟩:=List.mem_map.1 hy
          exact (HOK.out.2 q hq).1
        have hz32:z.size=32:=hszs z (by simp)
        have HSZ:=Lib.hid hszs
        have hWo:=hI.1
        rw [hsl,hys] at hWo
        obtain ⟨gw,cw,hwv,_,hgw⟩:=hWo.form (by omega)
        subst hwv
        have hcw:ys.length+1≤cw:=own_cap hWo
        have cz:wr.cell? ⟨gw,ys.length,none⟩=some (.string z):=own_cell hWo (by simp)
        have HC:=Lib.hid (fun (j:Nat) (x:ByteArray) (h:ys[j]? = some x)=>(own_cell hWo (k:=j) (x:=.string x) (by
          rw [List.map_append,List.getElem?_append_left (by rw [List.length_map];exact (List.getElem?_eq_some_iff.1 h).1),List.getElem?_map,h]
          rfl):wr.cell? ⟨gw,j,none⟩=some (.string x)))
        have HYS:=Lib.hid hys
        clear hI hWo hys hsl hszs
        have e1:IntKind.i64.wrap ((ys.length:Int)+1-1)=(ys.length:Int):=by rw [IntWalk.i64_in _ (by omega)];omega
        have e1':IntKind.i64.wrap (ys.length:Int)=(ys.length:Int):=by rw [IntWalk.i64_in _ (by omega)]
        have q0:(0:Int)≤(ys.length:Int):=by omega
        have q1:(ys.length:Int)<(ys.length:Int)+1:=by omega
        have q2:(ys.length:Int)≤(cw:Int):=by omega
        have q3:(((ys.length:Int)+1) == 0)=false:=by simp;omega
        have hnw:=World.new_ne wr ⟨gw,ys.length,none⟩ cz
        go_wp2_with (go_at_call 74;refine (back_any _ _ _ _).mono ?_;rintro e W1 ⟨rfl,rfl⟩)
        have hgl:gw<wr.heap.size:=lt_of_cell cz
        have hI0:RootJ w (wr.heap.size+2) wr.heap.size ys z ([]:List { k:Nat // k<ys.length }) ((wr.alloc (.cells #[.string z] 9)).alloc (.cells #[.slice (some ⟨gw,0,none⟩) ys.length cw] 44)):=
          ⟨⟨(Blk.new _ _ _).alloc _,(HI.out.2.2.1.below ((Below.refl _ _).alloc (Nat.le_refl _) _)).below ((Below.refl _ _).alloc (Nat.le_refl _) _)⟩,((HI.out.2.2.2.alloc hz3 _)).alloc (by simp;omega) _,by simp⟩
        refine (wpIn_wide (n:=3)).1 ?_
        refine' wpIn_rangeFunc_ownF rfl (by omega) (gf:=126) (lb:=#[.pointer (some ⟨wr.heap.size+1,0,none⟩)]) (by simp [Act.eval]) trivial (enters_of Tryz.func126 (by kernel_rfl) rfl)
          (back_stops 2 (by omega) (wr.heap.size+1) (wr.heap.size+2) wr.heap.size (some ⟨gw,0,none⟩) cw ys (by omega) (by omega) (by omega) _ (by simp) (by have h:=cell_new1 (wr.alloc (.cells #[.string z] 9)) (.slice (some ⟨gw,0,none⟩) ys.length cw) 44;rw [World.size_alloc] at h;exact h) (fun _=>⟨gw,0,rfl,by omega,by omega,fun j x hx=>by rw [Nat.zero_add];exact cell_al (cell_al (HC.out j x hx) _) _⟩))
          (fun h k=>KeptB.trans h k) (fun W l o o' hl h _ _ b hb1 _=>World.putObj_heap_other (fun e=>by subst e;simp at hl;omega)) (Below.refl _ _) (fun _=>rfl)
          (fun pre W=>RootJ w (wr.heap.size+2) wr.heap.size ys z pre W) (fun _ _ _=>False) (RootJ.own w (wr.heap.size+2) wr.heap.size ys z ys.length _ (by simp;omega)) (fun _ _ _ _ _ hs _ _=>hs) hI0
          _ ?assign ?body ?done ?stop
        case assign=>
          intro l x W K hK
          gi_wp2
          exact hK
        case body=>
          rintro l' pre x W ⟨⟨hB,hRo⟩,hb,hsz⟩ hlen
          obtain ⟨acc,hacc⟩:∃ acc,acc=accB ys z pre:=⟨_,rfl⟩
          have hac:acc.size=32:=by rw [hacc];exact accB_size ys pre z hz32
          rw [← hacc] at hB
          obtain ⟨y,hy⟩:∃ y,y=ys[x.1]'x.2:=⟨_,rfl⟩
          have hy32:y.size=32:=HSZ.out y (by rw [hy];exact List.mem_append_left _ (List.getElem_mem _))
          have hyD:ys.getD x.1 ⟨#[]⟩=y:=by rw [hy,List.getD_eq_getElem?_getD,List.getElem?_eq_getElem x.2];rfl
          simp only [← hy]
          have HACC:=Lib.hid hacc
          have HYD:=Lib.hid hyD
          have HB:=Lib.hid hB
          have HRo:=Lib.hid hRo
          have HBe:=Lib.hid hb
          have c0:W.cell? ⟨wr.heap.size,0,none⟩=some (.string acc):=hB.cell 0
          clear hacc hy hyD hB hRo hb
          gi_wp2_with fail
          refine ⟨trivial,(CallsIn.inRound l' (callsIn_wide.2 (node_any y acc W HRo.out (by omega) (by omega)))).mono ?_⟩
          rintro e W' ⟨rfl,hb'⟩
          have hB':=HB.out.below hb' HB.out.lt
          have c1:W'.cell? ⟨wr.heap.size,0,none⟩=some (.string acc):=hB'.cell 0
          have f1:W'.frozen? ⟨wr.heap.size,0,none⟩=false:=hB'.frozen 0
          have HB':=Lib.hid hB'
          clear hB'
          gi_wp2
          refine ⟨KeepsOthers.trans ⟨hb'.size,fun k o hk _=>(hb'.block k (Array.getElem?_eq_some_iff.1 hk).1).trans hk⟩ (KeepsOthers.setCell _ _ _),fun b hb1 hb2=>(Below.heap_setCell _ _ _ b hb2).trans (hb'.block b (by omega)),⟨?_,?_⟩,?_,?_⟩
          · rw [accB_snoc,HYD.out,← HACC.out]
            exact HB'.out.set_ 0 _
          · exact (HRo.out.below hb').keep fun p hp=>World.cell?_of_block (Below.heap_setCell _ _ _ _ (by rw [hp];show _≠wr.heap.size;omega))
          · exact (HBe.out.trans (hb'.mono HBe.out.size)).setCell (by show w.heap.size≤wr.heap.size;omega) _
          · exact Nat.le_trans (Nat.le_trans hsz hb'.size) (KeepsOthers.setCell _ _ _).size
        case done=>
          rintro D ys' W hD rfl ⟨⟨hB,hRo⟩,hb,hsz⟩ hK
          have c0:W.cell? ⟨wr.heap.size,0,none⟩=some (.string (accB ys z (downs ys.length ys.length))):=hB.cell 0
          generalize hac:accB ys z (downs ys.length ys.length)=acc at *
          have HAC:=Lib.hid hac
          clear hac
          go_wp2
          refine ⟨by simp,.inl ⟨_,_,rfl,run_takeDeferred hK,?_⟩⟩
          refine ⟨_,results_tmp rfl _ _ _,?_,?_⟩
          · rw [rootF,if_neg ?_]
            · show _=Ending.returned (.string (foldBack ((stackTo l l.length).map (·.2))))
              have e2:stackTo l l.length=st:=by rw [HST.out,HKE.out]
              rw [e2,HYS.out,← accB_all,HAC.out]
              rfl
            · intro h0
              have h1:=okSt_length k st HOK.out
              have h2:k=0:=by rw [HKE.out,h0];rfl
              omega
          · exact hb.grown (grownBy_putObj' W D _) hb.size (fun k e=>by injection e with e;simp at hD;omega)
        case stop=>
          rintro D c pre W _ _ h _
          exact h.elim
end
section
open Go.RowKit
attribute [local go_sem ↓] Go.wp_at_zero Go.wp_at_succ
def rowEnc:ByteArray:=encS [0,5,1,2,3]
theorem rowEnc_size:rowEnc.size=5:=by unfold rowEnc;rw [encS_size];rfl
theorem rowEncode' (w:World):Calls Tryz.prog 172 #[.agg #[.int .i64 0,.int .i64 5,.int .i64 1,.int .i64 2,.int .i64 3]] w fun e w'=>e=.returned (.tuple #[.string rowEnc,.int .i64 0])∧Below w.heap.size w w':=rowEncode w
def ents (hit:Bool):List ByteArray:=if hit then [rowEnc] else []
def OrderAt (w:World) (hit:Bool) (v1 v2:Value):Prop:=RowsAt w hit v1∧Strs (fun _=>True) w v2 (ents hit)
theorem hitF_all (t:Int) (j:Nat) (hj:j<4):hitF t j (-1000000000) 1000000000=((0:Int) == t):=by
  have h:∀ j:Fin 4,decide ((-1000000000:Int)≤theRow.col j.1)=true∧decide (theRow.col j.1≤(1000000000:Int))=true:=by decide
  unfold hitF
  rw [(h ⟨j,hj⟩).1,(h ⟨j,hj⟩).2]
  simp
theorem row_cells {w:World} {g:Nat} {zs:Array Value} (h:Blk w g 108 (#[.int .i64 0,.int .i64 5,.int .i64 1,.int .i64 2,.int .i64 3]++zs)):w.cell? ⟨g,0,none⟩=some (.int .i64 0)∧w.cell? ⟨g,1,none⟩=some (.int .i64 5)∧w.cell? ⟨g,2,none⟩=some (.int .i64 1)∧w.cell? ⟨g,3,none⟩=some (.int .i64 2)∧w.cell? ⟨g,4,none⟩=some (.int .i64 3):=
  ⟨(h.cell 0).trans (by simp [Array.getElem?_append]),(h.cell 1).trans (by simp [Array.getElem?_append]),(h.cell 2).trans (by simp [Array.getElem?_append]),(h.cell 3).trans (by simp [Array.getElem?_append]),(h.cell 4).trans (by simp [Array.getElem?_append])⟩
theorem strs_one {w:World} {g c:Nat} {x:ByteArray} (hc:1≤c) (h:w.cell? ⟨g,0,none⟩=some (.string x)):Strs (fun _=>True) w (.slice (some ⟨g,0,none⟩) 1 c) [x]:=
  ⟨_,c,rfl,hc,fun _=>⟨g,0,rfl,trivial,fun j y hy=>by
    match j,hy with
    | 0,hy=>simp at hy;subst hy;exact h⟩⟩
theorem orderOf_any (one:Bool) (gs gm j:Nat) (pos t:Int) (hj:j<4) (w:World) (hS:StateIs w one gs gm pos) :
    Calls Tryz.prog 128 #[.pointer (some ⟨gs,0,none⟩),.int .i64 t,.int .i64 (j:Int)] w
      fun e w'=>∃ v1 v2,e=.returned (.agg #[v1,v2])∧OrderAt w' (one && ((0:Int) == t)) v1 v2∧Below w.heap.size w w':=by
  have HS:=Lib.hid hS
  clear hS
  obtain ⟨hit,hhit⟩:∃ hit,hit=(one && ((0:Int) == t)):=⟨_,rfl⟩
  rw [← hhit]
  have HH:=Lib.hid (show (one && hitF t j (-1000000000) 1000000000)=hit by rw [hitF_all t j hj,hhit])
  clear hhit
  obtain ⟨is,his,hzs0,hzs1,hzs2⟩:=info_parts str_info
  go_enter Tryz.func128,Tryz.ntmps128
  go_wp2_with fail
  refine (range_any one gs gm j pos t _ _ hj _ (HS.out.ext (ext_new _ _))).mono ?_
  rintro e W1 ⟨v,rfl,hr1,hb1⟩
  rw [HH.out] at hr1
  have HB1:=Lib.hid ((Blk.new w 162 #[.slice none 0 0,.slice none 0 0]).ext hb1)
  have HE1:=Lib.hid (ext_call (ext_new w (.cells #[.slice none 0 0,.slice none 0 0] 162)) hb1)
  have b0:=HB1.out.cell 0
  have b1:=HB1.out.cell 1
  have f0:=HB1.out.frozen 0
  have f1:=HB1.out.frozen 1
  have bl:=HB1.out.lt
  clear hb1
  rcases hr1 with ⟨rfl,rfl⟩|⟨rfl,g,c,zs,rfl,hc,hB⟩
  · go_wp2
    refine wp_loop_rounds 1 ?_
    rw [rounds_succ]
    go_wp2
    have hBf:=((HB1.out.set_ 0 (.slice none 0 0)).set_ 1 (.slice none 0 0)).alloc (.cells #[.slice none 0 0,.slice none 0 0] 162)
    have y0:=hBf.cell 0;have y1:=hBf.cell 1
    refine bodyPost_ret (v:=.agg #[.slice none 0 0,.slice none 0 0]) (by simp [results,Tryz.results128,go_sem,y0,y1]) rfl ⟨_,_,rfl,⟨.inl ⟨rfl,rfl⟩,Strs.nil_ _ _⟩,?_⟩
    exact ext_alloc (ext_set (ext_set HE1.out (by simp) _) (by simp) _) _
  · have HX:=Lib.hid hB
    obtain ⟨x0,x1,x2,x3,x4⟩:=row_cells hB
    have xl:=hB.lt
    clear hB
    go_wp2
    refine wp_loop_rounds 2 ?_
    rw [rounds_succ]
    go_wp2_with fail
    refine (rowEncode' _).mono ?_
    rintro e W2 ⟨rfl,hb2⟩
    have HB2:=Lib.hid (((HB1.out.alloc _).alloc _).ext hb2)
    have HX2:=Lib.hid (((HX.out.alloc _).alloc _).ext hb2)
    have HO2:=Lib.hid (((Blk.new W1 162 #[.slice (some ⟨g,0,none⟩) 1 c,.slice none 0 0]).alloc _).ext hb2)
    have HE2:=Lib.hid (ext_call (ext_alloc (ext_alloc HE1.out _) _) hb2)
    clear hb2 b0 b1 f0 f1 bl x0 x1 x2 x3 x4 xl
    have o0:=HO2.out.cell 0
    have o1:=HO2.out.cell 1
    have f1:=HO2.out.frozen 1
    have ol:=HO2.out.lt
    go_wp2
    have hcap:1≤(Question.appendCap 1 0 9).cut (W2.tape W2.drawn (Question.appendCap 1 0 9)):=grownCap_ge W2 1 0 9
    revert hcap
    generalize (Question.appendCap 1 0 9).cut (W2.tape W2.drawn (Question.appendCap 1 0 9))=cap
    intro hcap
    have hlt:=HE1.out.size
    have hgl:=HX2.out.lt
    have hbl:=HB1.out.lt
    have hne:g≠W1.heap.size:=by have:=HX.out.lt;omega
    generalize hW3:World.drew (World.alloc (World.alloc (W2.setCell ⟨W1.heap.size,1,none⟩ (.slice (some ⟨W2.heap.size+1,0,none⟩) 1 cap)) (.cells #[.string rowEnc] 9)) (.cells (#[.string rowEnc]++Builtin.zeroCells #[.string ⟨#[]⟩] (cap-1)) 9))=W3
    have HO3:=Lib.hid (show Blk W3 W1.heap.size 162 #[.slice (some ⟨g,0,none⟩) 1 c,.slice (some ⟨W2.heap.size+1,0,none⟩) 1 cap] by subst hW3;exact (((HO2.out.set_ 1 _).alloc _).alloc _).drew)
    have HB3:=Lib.hid (show Blk W3 w.heap.size 162 #[.slice none 0 0,.slice none 0 0] by subst hW3;exact (((HB2.out.far (by show _≠W1.heap.size;omega) _).alloc _).alloc _).drew)
    have HX3:=Lib.hid (show Blk W3 g 108 (#[.int .i64 0,.int .i64 5,.int .i64 1,.int .i64 2,.int .i64 3]++zs) by subst hW3;exact (((HX2.out.far (by show _≠W1.heap.size;exact hne) _).alloc _).alloc _).drew)
    have HN3:=Lib.hid (show Blk W3 (W2.heap.size+1) 9 (#[.string rowEnc]++Builtin.zeroCells #[.string ⟨#[]⟩] (cap-1)) by subst hW3;exact (Blk.new' _ _ _ (by simp)).drew)
    have HE3:=Lib.hid (show Below w.heap.size w W3 by subst hW3;exact (ext_alloc (ext_alloc (ext_set HE2.out (by show _≤W1.heap.size;omega) _) _) _).drew)
    clear hW3 o0 o1 f1 ol hne
    have p0:=HO3.out.cell 0
    have p1:=HO3.out.cell 1
    have pl:=HO3.out.lt
    have q0:=HB3.out.cell 0
    have q1:=HB3.out.cell 1
    have f0:=HB3.out.frozen 0
    have f1:=HB3.out.frozen 1
    rw [rounds_succ]
    go_wp2
    have hBf:=(HB3.out.set_ 0 (.slice (some ⟨g,0,none⟩) 1 c)).set_ 1 (.slice (some ⟨W2.heap.size+1,0,none⟩) 1 cap)
    have y0:=hBf.cell 0;have y1:=hBf.cell 1
    have hne:g≠w.heap.size:=by
      rintro rfl
      have h1:=HX3.out
      have h2:=HB3.out
      unfold Blk at h1 h2
      have h3:=h2.symm.trans h1
      simp at h3
    refine bodyPost_ret (v:=.agg #[.slice (some ⟨g,0,none⟩) 1 c,.slice (some ⟨W2.heap.size+1,0,none⟩) 1 cap]) (by simp [results,Tryz.results128,go_sem,y0,y1]) rfl ⟨_,_,rfl,⟨.inr ⟨rfl,_,_,_,rfl,hc,(HX3.out.far hne _).far hne _⟩,?_⟩,?_⟩
    · have hn:W2.heap.size+1≠w.heap.size:=by have:=HO2.out.lt;omega
      exact strs_one hcap ((((HN3.out.far hn _).far hn _).cell 0).trans (by simp [Array.getElem?_append]))
    · exact ext_set (ext_set HE3.out (by simp) _) (by simp) _
end
section
open Go.RowKit Go.Shelf
attribute [local go_sem] Oper.semAt_some
def OrdC (one:Bool) (Bs gs gm:Nat) (pos:Int) (W:World):Prop:=W.cell? ⟨Bs,0,none⟩=some (.pointer (some ⟨gs,0,none⟩))∧StateIs W one gs gm pos
def OrdM (one:Bool) (k:Nat) (xs:Array Value) (W:World):Prop:=∃ v1 v2,xs=#[.agg #[v1,v2]]∧OrderAt W (one && decide (k<4)) v1 v2
theorem hit_eq (one:Bool) (t c:Nat) (hc:c<4):(one && ((0:Int) == (t:Int)))=(one && decide (4*t+c<4)):=by
  congr 1
  by_cases h:t=0
  · subst h;simp [hc]
  · have h1:¬ (4*t+c<4):=by omega
    have h2:¬ ((0:Int)=(t:Int)):=by omega
    simp [h1,h2]
def OrdPost (J:Nat→World→Prop) (e:Ending) (W':World):Prop:=(∃ v,e=.returned v)∧J 16 W'
theorem orders_in (n:Nat) (hn:1≤n) (one:Bool) (l Bs gs gm:Nat) (pos:Int) (J:Nat→World→Prop) (hC:∀ k W,J k W→OrdC one Bs gs gm pos W) (hA:∀ k A B,J k A→Below A.heap.size A B→J k B)
    (hY:∀ k xs W1,k<16→J k W1→OrdM one k xs W1→YieldAt Fence.wide (n-1) Tryz.prog l xs W1 fun e W'=>e=.returned (.bool true)∧J (k+1) W')
    (W:World) (h0:J 0 W) :
    CallsIn Fence.wide n Tryz.prog 127 #[.func (.yield l) #[] #[],.pointer (some ⟨Bs,0,none⟩)] W (OrdPost J):=by
  have HC:=Lib.hid hC
  have HA:=Lib.hid hA
  have HY:=Lib.hid hY
  clear hC hA hY
  refine callsIn_of_wp Tryz.func127 rfl trivial ?_ rfl
  simp only [Tryz.ntmps127,List.size_toArray,List.length_cons,List.length_nil,Nat.reduceAdd,Nat.reduceSub,Array.replicate_succ,Array.replicate_zero,List.push_toArray,List.append_toArray,List.nil_append,List.cons_append]
  gi_wp2
  gi_loopw [5] (fun i wr=>∃ t:Nat,t≤4∧i=.int .i64 (t:Int)∧J (4*t) wr) (fun i _=>(4-intOf i).toNat)
  case atStart=>exact ⟨0,Nat.zero_le _,by simp,h0⟩
  case round=>
    obtain ⟨t,ht,rfl,hJt⟩:=hrel
    by_cases hlt:t<4
    · have hlt':(t:Int)<4:=by omega
      gi_wp2
      gi_loopw [8] (fun i wr=>∃ c:Nat,c≤4∧i=.int .i64 (c:Int)∧J (4*t+c) wr) (fun i _=>(4-intOf i).toNat)
      case atStart=>exact ⟨0,Nat.zero_le _,by simp,hJt⟩
      case round=>
        obtain ⟨c,hc,rfl,hJc⟩:=hrel
        by_cases hlc:c<4
        · have hlc':(c:Int)<4:=by omega
          have HJc:=Lib.hid hJc
          have cs:=(HC.out _ _ hJc).1
          clear hJc
          gi_wp2_with fail
          refine ⟨trivial,(callsIn_wide.2 (orderOf_any one gs gm c pos (t:Int) hlc wr (HC.out _ _ HJc.out).2)).mono ?_⟩
          rintro e W1 ⟨v1,v2,rfl,hO1,hb1⟩
          rw [hit_eq one t c hlc] at hO1
          obtain ⟨fn,tmps,assign,body,hy,hR⟩:=HY.out (4*t+c) #[.agg #[v1,v2]] W1 (by omega) (HA.out _ _ _ HJc.out hb1) ⟨v1,v2,rfl,hO1⟩
          clear hO1 hb1 cs
          gi_wp2
          refine hR.mono ?_
          rintro e W3 ⟨rfl,hJ3⟩
          have HJ3:=Lib.hid hJ3
          clear hJ3
          gi_wp2
          go_roundw
          case rel=>exact ⟨c+1,by omega,by go_num,HJ3.out⟩
          case measure=>simp [intOf];omega
        · have hlc':¬ (c:Int)<4:=by omega
          have HJt:=Lib.hid (show J (4*(t+1)) wr by rw [show 4*(t+1)=4*t+c by omega];exact hJc)
          clear hJc
          gi_wp2
          go_roundw
          case rel=>exact ⟨t+1,by omega,by go_num,HJt.out⟩
          case measure=>simp [intOf];omega
    · have hlt':¬ (t:Int)<4:=by omega
      have HJt:=Lib.hid (show J 16 wr by rw [show 16=4*t by omega];exact hJt)
      clear hJt
      gi_wp2
      go_end0
      exact ⟨⟨_,rfl⟩,HJt.out⟩
theorem orders_seq (n:Nat) (hn:1≤n) (one:Bool) (Bs gs gm:Nat) (pos:Int) :
    SeqMem n Tryz.prog 127 #[.pointer (some ⟨Bs,0,none⟩)] 16 (OrdC one Bs gs gm pos) (OrdM one):=
  fun l J W hC hA hY h0=>orders_in n hn one l Bs gs gm pos J hC hA hY W h0
theorem orders_any (gs:Nat) (w:World) :
    Calls Tryz.prog 75 #[.pointer (some ⟨gs,0,none⟩)] w fun e w'=>
      e=.returned (.func (.func 127) #[] #[.pointer (some ⟨w.heap.size,0,none⟩)])∧w.alloc (.cells #[.pointer (some ⟨gs,0,none⟩)] 33)=w':=by
  have hmf:∀ (fn:Fn) (first cap:Array Value) (w:World),(Instr.makeFunc fn first cap).run Tryz.prog w=.ok (.func fn first cap) w:=fun _ _ _ _=>rfl
  go_enter Tryz.func75,Tryz.ntmps75
  go_wp2
  go_ret
  exact ⟨rfl,rfl⟩
end
section
open Go.RowKit Go.Shelf
attribute [local go_sem] run_semAt
attribute [local go_sem high] app_sem
def sumE (hit:Bool):ByteArray:=byteS (2*(ents hit).length)++rootF (ents hit)
def sums (one:Bool) (k:Nat):List ByteArray:=(List.range k).map fun i=>sumE (one && decide (i<4))
theorem sums_succ (one:Bool) (k:Nat):sums one (k+1)=sums one k++[sumE (one && decide (k<4))]:=by simp [sums,List.range_succ]
theorem sums_length (one:Bool) (k:Nat):(sums one k).length=k:=by simp [sums]
theorem ents_length (hit:Bool):(ents hit).length≤1:=by cases hit <;> simp [ents]
theorem foldBack_size (l:List ByteArray) (h:∀ p ∈ l,p.size=32) (hne:l≠[]):(foldBack l).size=32:=by
  unfold foldBack
  have hz:(l.getLast?.getD ⟨#[]⟩).size=32:=by
    rw [List.getLast?_eq_some_getLast hne]
    exact h _ (List.getLast_mem hne)
  generalize l.getLast?.getD ⟨#[]⟩=z at *
  generalize l.dropLast=d
  cases d with
  | nil=>exact hz
  | cons x d=>rw [List.foldr_cons];exact nodeF_size _ _
theorem rootF_size (l:List ByteArray):(rootF l).size=32:=by
  unfold rootF
  by_cases h:l=[]
  · rw [if_pos h];exact sumF_size _
  · rw [if_neg h]
    have hok:=stackTo_ok l l.length
    refine foldBack_size _ (fun p hp=>?_) (fun he=>?_)
    · obtain ⟨q,hq,rfl⟩:=List.mem_map.1 hp
      exact (hok.2 q hq).1
    · have h1:=hok.1
      have h2:stackTo l l.length=[]:=by simpa using he
      rw [h2] at h1
      exact h (List.length_eq_zero_iff.1 h1.symm)
theorem byteS_size (n:Nat):(byteS n).size=1:=rfl
theorem OwnP.rows {B:Nat} {hit:Bool} {v:Value}:OwnP B (fun W=>RowsAt W hit v):=fun _ X Y row hs hg hr=>by
  rcases hs with h|⟨h1,g,c,zs,h2,h3,h4⟩
  · exact .inl h
  · exact .inr ⟨h1,g,c,zs,h2,h3,OwnP.blk (B:=B) () X Y row h4 hg hr⟩
theorem OwnP.strs {B:Nat} {S:Nat→Prop} {v:Value} {l:List ByteArray}:OwnP B (fun W=>Strs S W v l):=fun _ X Y row hs hg hr=>by
  obtain ⟨A,c,rfl,hc,h⟩:=hs
  refine ⟨A,c,rfl,hc,fun h0=>?_⟩
  obtain ⟨b,off,hA,hb,hcell⟩:=h h0
  exact ⟨b,off,hA,hb,fun j x hx=>cell_kept (hcell j x hx) hg (fun r e=>(hr r e).2)⟩
theorem OwnP.state {B gs gm:Nat} {one:Bool} {pos:Int} (h:gm<B):OwnP B (fun W=>StateIs W one gs gm pos):=OwnP.and OwnP.blk (OwnP.map h)
theorem order_slices {W:World} {hit:Bool} {v1 v2:Value} (h:OrderAt W hit v1 v2):∃ A1 n1 c1 A2 n2 c2,v1=.slice A1 n1 c1∧v2=.slice A2 n2 c2:=by
  obtain ⟨h1,A,c,rfl,_⟩:=h
  rcases h1 with ⟨_,rfl⟩|⟨_,g,c',zs,rfl,_⟩
  · exact ⟨_,_,_,_,_,_,rfl,rfl⟩
  · exact ⟨_,_,_,_,_,_,rfl,rfl⟩
theorem undrew {W W':World} (h:Below W.drew.heap.size W.drew W'):Below W.heap.size W W':=⟨h.os,h.tape,h.output,h.size,h.block⟩
theorem own_below {W W':World} {base e size n:Nat} {v:Value} {xs:List Value} (h:W.ownsRow base e size v n xs) (hb:Below W.heap.size W W'):W'.ownsRow base e size v n xs:=
  h.kept (below_grown hb) (by by_cases h:v.ownBlock=none;exact .inl h;exact .inr h)
theorem str_infoS:∃ i,Tryz.prog.info? 9=some i∧i.zero=some (.string ⟨#[]⟩)∧i.size=1∧i.bytes=16:=by
  obtain ⟨is,his,hzs0,hzs1,hzs2⟩:=info_parts str_info
  exact ⟨is,his,hzs0,hzs1,hzs2⟩
theorem sums_after {W:World} {base B k:Nat} {v:Value} {xs:List Value} (s:ByteArray) (hV:Boxed W B 44 v) (hRow:W.ownsRow base 9 1 v k xs) (hb:base≤W.heap.size) (hB:base≤B) (hk:k<1000) :
    AppOK Tryz.prog (W.alloc (.cells #[.string s] 9)) 44 44 v (.slice (some ⟨W.heap.size,0,none⟩) 1 1)∧∃ g cap W3,appV Tryz.prog (W.alloc (.cells #[.string s] 9)) 44 44 v (.slice (some ⟨W.heap.size,0,none⟩) 1 1)=.slice (some ⟨g,0,none⟩) (k+1) cap ∧
      appW Tryz.prog (W.alloc (.cells #[.string s] 9)) 44 44 v (.slice (some ⟨W.heap.size,0,none⟩) 1 1)=W3∧Boxed W3 B 44 v ∧
      Boxed (W3.setCell ⟨B,0,none⟩ (.slice (some ⟨g,0,none⟩) (k+1) cap)) B 44 (.slice (some ⟨g,0,none⟩) (k+1) cap)∧(W3.setCell ⟨B,0,none⟩ (.slice (some ⟨g,0,none⟩) (k+1) cap)).ownsRow base 9 1 (.slice (some ⟨g,0,none⟩) (k+1) cap) (k+1) (xs++[.string s]) ∧
      KeepsOthers W (W3.setCell ⟨B,0,none⟩ (.slice (some ⟨g,0,none⟩) (k+1) cap))∧Below base W (W3.setCell ⟨B,0,none⟩ (.slice (some ⟨g,0,none⟩) (k+1) cap)) ∧
      ∀ b t cs,Blk W b t cs→t≠9→b≠B→Blk (W3.setCell ⟨B,0,none⟩ (.slice (some ⟨g,0,none⟩) (k+1) cap)) b t cs:=by
  obtain ⟨is,his,hzs0,hzs1,hzs2⟩:=str_infoS
  obtain ⟨ha,ho,hg⟩:=app_own (P:=Tryz.prog) (w:=W.alloc (.cells #[.string s] 9)) base 44 44 9 is (.string ⟨#[]⟩) 1 16 Tryz.underlying44 his hzs0 hzs1 hzs2 rfl (by decide) v k xs (hRow.alloc _) ⟨W.heap.size,0,none⟩ 1 1 [.string s] rfl (cell_one_new _ _ _) (by simp [Value.oneCell']) (by unfold maxLen;omega) (by omega) (by simp;omega)
  refine ⟨ha,?_⟩
  generalize appV Tryz.prog (W.alloc (.cells #[.string s] 9)) 44 44 v (.slice (some ⟨W.heap.size,0,none⟩) 1 1)=v' at *
  generalize appW Tryz.prog (W.alloc (.cells #[.string s] 9)) 44 44 v (.slice (some ⟨W.heap.size,0,none⟩) 1 1)=W3 at *
  obtain ⟨g',cap',rfl⟩:=ownsRow_succ ho
  obtain ⟨hv1,hv2,hr2,hk2,hb2⟩:=hV.appended (by decide) hRow hb hB ho hg
  refine ⟨g',cap',W3,rfl,rfl,hv1,hv2,hr2,hk2,hb2,fun b t cs hB' ht hne=>((hB'.alloc _).grown hg (fun e=>?_)).far hne _⟩
  rcases hRow.2 with ⟨rfl,_⟩|⟨g,cap,cur,rfl,_,hgb,_⟩
  · simp [Value.ownBlock] at e
  · obtain rfl:b=g:=by simpa [Value.ownBlock] using e
    unfold Blk at hB'
    rw [hgb] at hB'
    simp at hB'
    exact ht hB'.2.symm
def SumsI (one:Bool) (w:World) (gs gm:Nat) (pos:Int) (k:Nat) (W:World):Prop:=
  (∃ v,Boxed W w.heap.size 44 v∧W.ownsRow w.heap.size 9 1 v k ((sums one k).map Value.string)∧True)∧Below w.heap.size w W∧Blk W (w.heap.size+1) 33 #[.pointer (some ⟨gs,0,none⟩)]∧StateIs W one gs gm pos∧RoundOK W
theorem SumsI.own (one:Bool) (w:World) (gs gm:Nat) (pos:Int) (k B:Nat) (hB:w.heap.size≤B) (hg:gm<B):OwnP B (SumsI one w gs gm pos k):=
  OwnP.and (Own.from (holdsRow_own w.heap.size w.heap.size 44 9 1 (fun _:Unit=>k) (fun _:Unit=>(sums one k).map Value.string) (fun _ _=>True)) B)
    (OwnP.and (OwnP.below (Nat.le_refl _) hB) (OwnP.and OwnP.blk (OwnP.and (OwnP.state hg) OwnP.round)))
theorem keeps_below {W W':World} (h:Below W.heap.size W W'):KeepsOthers W W':=⟨h.size,fun k _ hk _=>(h.block k (Array.getElem?_eq_some_iff.1 hk).1).trans hk⟩
theorem sums_round {one:Bool} {w W W1 W2 W':World} {gs gm k B:Nat} {pos:Int} {v:Value} (hS:StateIs w one gs gm pos) (hR:RoundOK w) (hI:Below w.heap.size w W1∧Blk W1 (w.heap.size+1) 33 #[.pointer (some ⟨gs,0,none⟩)]∧StateIs W1 one gs gm pos∧RoundOK W1)
    (h1:Below W.heap.size W W1) (h2:Below W1.heap.size W1 W2) (hk:KeepsOthers W2 W') (hb:Below w.heap.size W2 W') (hv:Boxed W' w.heap.size 44 v) (hr:W'.ownsRow w.heap.size 9 1 v (k+1) ((sums one (k+1)).map Value.string))
    (ho:Blk W' (w.heap.size+1) 33 #[.pointer (some ⟨gs,0,none⟩)]):KeepsFrom B W W'∧SumsI one w gs gm pos (k+1) W':=by
  have hE:Below w.heap.size w W':=(ext_call hI.1 h2).trans hb
  exact ⟨(((keeps_below h1).trans (keeps_below h2)).trans hk).from _,⟨v,hv,hr,trivial⟩,hE,ho,hS.ext hE,hR.below hE⟩
theorem summaries_any (one:Bool) (gs gm:Nat) (pos:Int) (w:World) (hS:StateIs w one gs gm pos) (hR:RoundOK w) :
    Calls Tryz.prog 40 #[.pointer (some ⟨gs,0,none⟩)] w fun e w'=>∃ v,e=.returned v∧Strs (fun b=>w.heap.size≤b) w' v (sums one 16)∧Below w.heap.size w w':=by
  have HS:=Lib.hid hS
  have HR:=Lib.hid hR
  have hgm:=hS.2.lt
  obtain ⟨is,his,hzs0,hzs1,hzs2⟩:=info_parts str_info
  clear hS hR
  refine (callsIn_wide (n:=3)).1 (callsIn_of_wp_marks Tryz.func40 rfl trivial (wpIn_wide.2 ?_) rfl)
  simp only [Tryz.ntmps40,List.size_toArray,List.length_cons,List.length_nil,Nat.reduceAdd,Nat.reduceSub,Array.replicate_succ,Array.replicate_zero,List.push_toArray,List.append_toArray,List.nil_append,List.cons_append]
  go_wp2_with (go_at_call 75;refine (orders_any gs _).mono ?_;rintro e W2 ⟨rfl,rfl⟩)
  have hE0:Below w.heap.size w ((w.alloc (.cells #[.slice none 0 0] 44)).alloc (.cells #[.pointer (some ⟨gs,0,none⟩)] 33)):=ext_alloc (ext_new _ _) _
  have hI0:SumsI one w gs gm pos 0 ((w.alloc (.cells #[.slice none 0 0] 44)).alloc (.cells #[.pointer (some ⟨gs,0,none⟩)] 33)):=
    ⟨⟨_,(Boxed.new _ _ _).alloc _,World.ownsRow_nil _ _ _ _,trivial⟩,hE0,Blk.new' _ _ _ (by simp),HS.out.ext hE0,HR.out.below hE0⟩
  refine (wpIn_wide (n:=3)).1 ?_
  refine' wpIn_mem_box2 (by omega) (gf:=127) (lb:=#[.pointer (some ⟨w.heap.size+1,0,none⟩)]) (by simp [Act.eval]) (enters_of Tryz.func127 (by kernel_rfl) rfl)
    (M:=fun k v1 v2 W=>OrderAt W (one && decide (k<4)) v1 v2) (orders_seq 2 (by omega) one (w.heap.size+1) gs gm pos) rfl
    (SumsI one w gs gm pos) (fun k=>SumsI.own one w gs gm pos k _ (by simp;omega) (by simp;omega)) (fun k W h=>⟨h.2.2.1.cell 0,h.2.2.2.1⟩) hI0 (fun k v1 v2=>OwnP.and OwnP.rows OwnP.strs) (fun k v1 v2 W h=>order_slices h) 162 _ ?assign ?body ?done
  case assign=>
    intro l h A1 n1 c1 A2 n2 c2 W K hh hK
    gi_wp2
    rw [← hh]
    exact hK
  case body=>
    rintro l h k A1 n1 c1 A n0 c W hk hsz hh hB ⟨hrows,hstr⟩ ⟨⟨v,hv,hrow,_⟩,hb,hcs,hst,hro⟩
    obtain ⟨hit,hhit⟩:∃ hit,hit=(one && decide (k<4)):=⟨_,rfl⟩
    have HSu:=Lib.hid (show sums one (k+1)=sums one k++[sumE hit] by rw [sums_succ,hhit])
    rw [← hhit] at hrows hstr
    clear hhit hrows
    have HStr:=Lib.hid hstr
    have hE1:=ents_length hit
    have HEl:=Lib.hid (show ∀ x ∈ ents hit,x.size≤100000 by intro x hx;cases hit <;> simp [ents] at hx;rw [hx,rowEnc_size];omega)
    obtain rfl:n0=(ents hit).length:=by
      obtain ⟨A',c',h',_⟩:=hstr
      injection h'
    obtain ⟨n,hn⟩:∃ n,n=(ents hit).length:=⟨_,rfl⟩
    have HSe:=Lib.hid (show sumE hit=byteS (2*n)++rootF (ents hit) by rw [hn];rfl)
    rw [← hn] at HStr hE1 hB ⊢
    have HN:=Lib.hid hn
    clear hn hstr
    have HB:=Lib.hid hB
    have HV:=Lib.hid hv
    have HRow:=Lib.hid hrow
    have HI:=Lib.hid (And.intro hb (And.intro hcs (And.intro hst hro)))
    have h0:=hB.cell 0
    have h1:=hB.cell 1
    have hl:=hB.lt
    clear hB hv hrow hb hcs hst hro
    gi_wp2_with fail
    refine ⟨trivial,(CallsIn.inRound l (callsIn_wide.2 (putInt_any n (by omega) W))).mono ?_⟩
    rintro e W1 ⟨rfl,hb1⟩
    have HB1:=Lib.hid (HB.out.ext hb1)
    have HV1:=Lib.hid (HV.out.kept (below_grown hb1) (by simp))
    have HRow1:=Lib.hid (own_below HRow.out hb1)
    have HI1:=Lib.hid (show Below w.heap.size w W1∧Blk W1 (w.heap.size+1) 33 #[.pointer (some ⟨gs,0,none⟩)]∧StateIs W1 one gs gm pos∧RoundOK W1 from ⟨ext_call HI.out.1 hb1,HI.out.2.1.ext hb1,HI.out.2.2.1.ext hb1,HI.out.2.2.2.below hb1⟩)
    have HK1:=Lib.hid hb1
    have HRoot:=Lib.hid (show ∀ X:World,Below W1.heap.size W1 X→Calls Tryz.prog 39 #[.slice A n c] X fun e w'=>e=.returned (.string (rootF (ents hit)))∧Below X.heap.size X w' from
      fun X hX=>root_any (fun _=>True) _ _ X ((HStr.out.below HK1.out).below hX) (by rw [← HN.out];omega) HEl.out (HI1.out.2.2.2.below hX))
    have hrs:=rootF_size (ents hit)
    generalize rootF (ents hit)=rt at *
    have hsum:(byteS (2*n)).size+rt.size≤9223372036854775807:=by rw [byteS_size];omega
    generalize byteS (2*n)=s1 at *
    have hcat:=fun W:World=>run_string_add_sum (P:=Tryz.prog) (w:=W) s1 rt hsum
    clear h0 h1 hl hb1 hrs
    have h1:=HB1.out.cell 1
    have hl:=HB1.out.lt
    have hv:=HV1.out.cell
    have hvf:=HV1.out.frozen
    have hvl:=HV1.out.lt
    gi_wp2
    have hz1:w.heap.size≤W1.heap.size:=HI1.out.1.size
    gi_region_with (refine ⟨trivial,(CallsIn.inRound l (callsIn_wide.2 (HRoot.out _ ?_))).mono ?_⟩;(exact (ext_refl _).drew);rintro e W2 ⟨rfl,hb2⟩;obtain ⟨hok,g3,cap3,W3,hav,haw,hv3,hv4,hr4,hk4,hb4,ho4⟩:=sums_after (s1++rt) (HV1.out.kept (below_grown (undrew hb2)) (by simp)) (own_below HRow1.out (undrew hb2)) (Nat.le_trans hz1 (undrew hb2).size) (Nat.le_refl _) (Nat.lt_trans hk (by decide));have c2:=(cell_ext hv (undrew hb2));have hvl2:w.heap.size<W2.heap.size:=lt_of_cell c2;have c3:=hv3.cell;have f3:=hv3.frozen;have HV4:=Lib.hid hv4;have HR4:=Lib.hid hr4;have HK4:=Lib.hid hk4;have HB4:=Lib.hid hb4;have HO4:=Lib.hid ho4;have HB2:=Lib.hid (undrew hb2);clear hb2 hv3 hv4 hr4 hk4 hb4 ho4)
    all_goals
      refine sums_round HS.out HR.out HI1.out HK1.out HB2.out HK4.out HB4.out HV4.out ?_ (HO4.out _ _ _ (HI1.out.2.1.ext HB2.out) (by decide) (by omega))
      rw [HSu.out,HSe.out,List.map_append]
      exact HR4.out
  case done=>
    rintro D W hD ⟨⟨v,hv,hrow,_⟩,hb,hcs,hst,hro⟩ hK
    have hvc:=hv.cell
    have HRow:=Lib.hid hrow
    have HBe:=Lib.hid hb
    clear hrow hb hcs hst hro
    go_wp2
    refine ⟨by simp,.inl ⟨_,_,rfl,run_takeDeferred hK,?_⟩⟩
    refine ⟨_,results_tmp rfl _ _ _,_,rfl,?_,?_⟩
    · obtain ⟨g,cap,rfl⟩:=ownsRow_succ HRow.out
      refine ⟨_,cap,rfl,?_,fun _=>⟨g,0,rfl,?_,fun j x hx=>?_⟩⟩
      · rw [sums_length];exact own_cap HRow.out
      · exact (HRow.out.lt g rfl).1
      · have h1:=HRow.out.cells (g:=g) rfl j (.string x) (by rw [List.getElem?_map,hx];rfl)
        rw [add_lit0] at h1
        rw [Nat.zero_add]
        refine cell_kept h1 (grownBy_putObj' W D _) (fun r e=>?_)
        injection e with e
        subst e
        exact ⟨_,hK,rfl⟩
    · exact ext_put HBe.out (by simp at hD;omega) _
theorem sumE_size (hit:Bool):(sumE hit).size=33:=by unfold sumE;rw [ByteArray.size_append,byteS_size,rootF_size]
theorem sums_sizes (one:Bool) (k:Nat):∀ x ∈ sums one k,x.size≤100000:=by
  intro x hx
  obtain ⟨i,_,rfl⟩:=List.mem_map.1 hx
  rw [sumE_size];omega
def stateF (one:Bool):ByteArray:=rootF (sums one 16)
theorem stateF_size (one:Bool):(stateF one).size=32:=rootF_size _
theorem stateRoot (one:Bool) (gs gm:Nat) (pos:Int) (w:World) (hS:StateIs w one gs gm pos) (hR:RoundOK w) :
    Calls Tryz.prog 10 #[.pointer (some ⟨gs,0,none⟩)] w fun e w'=>e=.returned (.string (stateF one))∧Below w.heap.size w w':=by
  have HS:=Lib.hid hS
  have HR:=Lib.hid hR
  clear hS hR
  have HF:=Lib.hid (show rootF (sums one 16)=stateF one from rfl)
  generalize stateF one=sf at *
  go_enter Tryz.func10,Tryz.ntmps10
  go_wp2_with fail
  refine (summaries_any one gs gm pos w HS.out HR.out).mono ?_
  rintro e W1 ⟨v,rfl,hs1,hb1⟩
  have HS1:=Lib.hid hs1
  have HB1:=Lib.hid hb1
  clear hs1 hb1
  go_wp2_with fail
  refine (root_any _ v _ W1 HS1.out (by rw [sums_length];omega) (sums_sizes one 16) (HR.out.below HB1.out)).mono ?_
  rw [HF.out]
  rintro e W2 ⟨rfl,hb2⟩
  go_wp2
  go_ret
  exact ⟨rfl,ext_call HB1.out hb2⟩
end
section
open Go.RowKit
attribute [local go_sem ↓] Go.wp_at_zero Go.wp_at_succ
theorem isDig (s:ByteArray) (hs:s.size=32) (w:World):Calls Tryz.prog 47 #[.string s] w fun e w'=>e=.returned (.bool true)∧w=w':=
  (logtree_isDigest s w).mono fun e w' h=>⟨by rw [h.1,hs];rfl,h.2⟩
theorem logValid (p:Nat) (c s:ByteArray) (hp:p≤10000) (hc:c.size=32) (hs:s.size=32) (w:World) :
    Calls Tryz.prog 61 #[.agg #[.int .i64 (p:Int),.string c,.string s]] w fun e w'=>e=.returned (.bool true)∧Below w.heap.size w w':=by
  have HC:=Lib.hid hc
  have HSs:=Lib.hid hs
  clear hc hs
  have q0:(0:Int)≤(p:Int):=by omega
  have q1:(p:Int)≤10000:=by omega
  go_enter Tryz.func61,Tryz.ntmps61
  go_wp2_with (go_at_call 47;first|(refine (isDig c HC.out _).mono ?_;rintro e w' ⟨rfl,rfl⟩)|(refine (isDig s HSs.out _).mono ?_;rintro e w' ⟨rfl,rfl⟩))
  go_ret
  exact ⟨rfl,ext_new _ _⟩
def headEnc (p:Nat) (c s:ByteArray):ByteArray:=(byteS (2*p)++c)++s
theorem headEnc_size (p:Nat) (c s:ByteArray) (hc:c.size=32) (hs:s.size=32):(headEnc p c s).size=65:=by
  unfold headEnc;rw [ByteArray.size_append,ByteArray.size_append,byteS_size,hc,hs]
theorem logEncode (p:Nat) (c s:ByteArray) (hp:p<64) (hc:c.size=32) (hs:s.size=32) (w:World) :
    Calls Tryz.prog 62 #[.agg #[.int .i64 (p:Int),.string c,.string s]] w fun e w'=>e=.returned (.tuple #[.string (headEnc p c s),.int .i64 0])∧Below w.heap.size w w':=by
  have HC:=Lib.hid hc
  have HSs:=Lib.hid hs
  have HB0:=Lib.hid (Blk.new w 30 #[.int .i64 (p:Int),.string c,.string s])
  have HP:=Lib.hid (fun W:World=>putInt_any p hp W)
  have HF:=Lib.hid (show headEnc p c s=(byteS (2*p)++c)++s from rfl)
  generalize headEnc p c s=r at *
  have hsum1:(byteS (2*p)).size+c.size≤9223372036854775807:=by rw [byteS_size];omega
  have hsum2:(byteS (2*p)++c).size+s.size≤9223372036854775807:=by rw [ByteArray.size_append,byteS_size];omega
  generalize byteS (2*p)=b at *
  have hcat1:=fun W:World=>run_string_add_sum (P:=Tryz.prog) (w:=W) b c hsum1
  have hcat2:=fun W:World=>run_string_add_sum (P:=Tryz.prog) (w:=W) (b++c) s hsum2
  clear hc hs
  go_enter Tryz.func62,Tryz.ntmps62
  go_wp2_with fail
  refine (logValid p c s (by omega) HC.out HSs.out _).mono ?_
  rintro e W1 ⟨rfl,hb1⟩
  have HB1:=Lib.hid (HB0.out.ext hb1)
  have HE1:=Lib.hid (ext_call (ext_new w _) hb1)
  have c0:=HB1.out.cell 0;have c1:=HB1.out.cell 1;have c2:=HB1.out.cell 2
  have l1:=HB1.out.lt
  clear hb1
  go_wp2_with fail
  refine (HP.out _).mono ?_
  rintro e W2 ⟨rfl,hb2⟩
  have HB2:=Lib.hid (HB1.out.ext hb2)
  have HE2:=Lib.hid (ext_call HE1.out hb2)
  clear hb2 c0 c1 c2 l1
  have c0:=HB2.out.cell 0;have c1:=HB2.out.cell 1;have c2:=HB2.out.cell 2
  have l1:=HB2.out.lt
  go_wp2
  go_ret2
  exact ⟨by rw [HF.out];rfl,HE2.out⟩
def zeros32:ByteArray:=⟨(Lib.repeatL (⟨#[0]⟩:ByteArray).data.toList 32).toArray⟩
theorem zeros32_size:zeros32.size=32:=by decide
def Log0 (w:World) (gl:Nat) (z s:ByteArray):Prop:=∃ gh,Blk w gl 115 #[.slice none 0 0,.slice (some ⟨gh,0,none⟩) 1 1]∧Blk w gh 30 #[.int .i64 0,.string z,.string s]
theorem Log0.ext {w W:World} {gl:Nat} {z s:ByteArray} (h:Log0 w gl z s) (k:Below w.heap.size w W):Log0 W gl z s:=by
  obtain ⟨gh,h1,h2⟩:=h
  exact ⟨gh,h1.ext k,h2.ext k⟩
theorem logNew (s:ByteArray) (hs:s.size=32) (w:World) :
    Calls Tryz.prog 16 #[.string s] w fun e w'=>∃ gl,e=.returned (.tuple #[.pointer (some ⟨gl,0,none⟩),.int .i64 0])∧Log0 w' gl zeros32 s∧w.heap.size≤gl∧Below w.heap.size w w':=by
  have HSs:=Lib.hid hs
  clear hs
  have HZ:=Lib.hid (show ∀ W:World,Calls Tryz.prog 48 #[.string ⟨#[0]⟩,.int .i64 32] W fun e w'=>e=.returned (.string zeros32)∧Below W.heap.size W w' from fun W=>Tryz.strings_Repeat_main ⟨#[0]⟩ 32 W (by omega) (by omega) (by decide) (by decide))
  generalize zeros32=z at *
  go_enter Tryz.func16,Tryz.ntmps16
  go_wp2_with (first|(go_at_call 47;refine (isDig s HSs.out _).mono ?_;rintro e w' ⟨rfl,rfl⟩)|(go_at_call 48;refine (HZ.out _).mono ?_;rintro e W1 ⟨rfl,hb1⟩;have HB1:=Lib.hid hb1;clear hb1))
  go_ret2
  exact ⟨_,rfl,⟨_,Blk.new' _ _ _ (by simp),(Blk.new' _ _ _ rfl).alloc _⟩,by have:=HB1.out.size;omega,ext_alloc (ext_alloc HB1.out _) _⟩
end
section
open Go.RowKit
attribute [local go_sem ↓] Go.wp_at_zero Go.wp_at_succ
def recEnc:ByteArray:=encS [1,1,0,5,2,1,2,3]
theorem recEnc_size:recEnc.size=8:=by unfold recEnc;rw [encS_size];rfl
theorem encRecord' (w:World) (b c:Nat) (hB:HeadB w b #[.int .i64 0,.int .i64 5,.bool false,.int .i64 0,.int .i64 0,.int .i64 0,.bool true,.int .i64 1,.int .i64 2,.int .i64 3]):Calls Tryz.prog 97 #[.agg #[.int .i64 1,.slice (some ⟨b,0,none⟩) 1 c]] w fun e w'=>e=.returned (.tuple #[.string recEnc,.int .i64 0])∧Below w.heap.size w w':=encRecord w b c hB
theorem logNext (z s t:ByteArray) (hz:z.size=32) (hs:s.size=32) (ht:t.size=32) (b c:Nat) (w:World) (hB:HeadB w b #[.int .i64 0,.int .i64 5,.bool false,.int .i64 0,.int .i64 0,.int .i64 0,.bool true,.int .i64 1,.int .i64 2,.int .i64 3]) (hR:RoundOK w) :
    Calls Tryz.prog 51 #[.agg #[.int .i64 0,.string z,.string s],.agg #[.int .i64 1,.slice (some ⟨b,0,none⟩) 1 c],.string t] w
      fun e w'=>e=.returned (.tuple #[.agg #[.int .i64 1,.string (chainF z recEnc),.string t],.int .i64 0])∧Below w.heap.size w w':=by
  have HZs:=Lib.hid hz
  have HSs:=Lib.hid hs
  have HTs:=Lib.hid ht
  have HR:=Lib.hid hR
  have HCh:=Lib.hid (show ∀ W:World,RoundOK W→Calls Tryz.prog 98 #[.string z,.string recEnc] W fun e w'=>e=.returned (.string (chainF z recEnc))∧Below W.heap.size W w' from fun W h=>chain_any z recEnc W h (by omega) (by rw [recEnc_size];omega))
  have HEr:=Lib.hid (fun (W:World) (h:HeadB W b #[.int .i64 0,.int .i64 5,.bool false,.int .i64 0,.int .i64 0,.int .i64 0,.bool true,.int .i64 1,.int .i64 2,.int .i64 3])=>encRecord' W b c h)
  generalize chainF z recEnc=cz at *
  generalize recEnc=re at *
  obtain ⟨W0,hW0⟩:∃ W0,W0=((w.alloc (.cells #[.int .i64 0,.string z,.string s] 30)).alloc (.cells #[.int .i64 1,.slice (some ⟨b,0,none⟩) 1 c] 43)).alloc (.cells #[.int .i64 0,.string ⟨#[]⟩,.string ⟨#[]⟩] 30):=⟨_,rfl⟩
  have HE0:=Lib.hid (show Below w.heap.size w W0 by rw [hW0];exact ext_alloc (ext_alloc (ext_new _ _) _) _)
  have HH0:=Lib.hid (show Blk W0 w.heap.size 30 #[.int .i64 0,.string z,.string s] by rw [hW0];exact ((Blk.new _ _ _).alloc _).alloc _)
  have HR0:=Lib.hid (show Blk W0 (w.heap.size+1) 43 #[.int .i64 1,.slice (some ⟨b,0,none⟩) 1 c] by rw [hW0];exact (Blk.new' _ _ _ (by simp)).alloc _)
  have HO0:=Lib.hid (show Blk W0 (w.heap.size+1+1) 30 #[.int .i64 0,.string ⟨#[]⟩,.string ⟨#[]⟩] by rw [hW0];exact Blk.new' _ _ _ (by simp))
  have HB:=Lib.hid (hB.ext HE0.out)
  have HW0:=Lib.hid hW0
  clear hz hs ht hB hR hW0
  go_enter Tryz.func51,Tryz.ntmps51
  go_wp2_with fail
  rw [← HW0.out]
  refine (HEr.out _ HB.out).mono ?_
  rintro e W1 ⟨rfl,hb1⟩
  have HH1:=Lib.hid (HH0.out.ext hb1)
  have HR1:=Lib.hid (HR0.out.ext hb1)
  have HO1:=Lib.hid (HO0.out.ext hb1)
  have HE1:=Lib.hid (ext_call HE0.out hb1)
  have c0:=HH1.out.cell 0;have c1:=HH1.out.cell 1;have c2:=HH1.out.cell 2
  clear hb1
  go_wp2_with fail
  refine (logValid 0 z s (by omega) HZs.out HSs.out _).mono ?_
  rintro e W2 ⟨rfl,hb2⟩
  have HH2:=Lib.hid (HH1.out.ext hb2)
  have HR2:=Lib.hid (HR1.out.ext hb2)
  have HO2:=Lib.hid (HO1.out.ext hb2)
  have HE2:=Lib.hid (ext_call HE1.out hb2)
  clear hb2 c0 c1 c2
  have c0:=HH2.out.cell 0;have c1:=HH2.out.cell 1;have c2:=HH2.out.cell 2
  have r0:=HR2.out.cell 0;have r1:=HR2.out.cell 1
  have o0:=HO2.out.cell 0;have o1:=HO2.out.cell 1;have o2:=HO2.out.cell 2
  have f0:=HO2.out.frozen 0
  have f1:=HO2.out.frozen 1
  have f2:=HO2.out.frozen 2
  go_wp2_with (go_at_call 47;refine (isDig t HTs.out _).mono ?_;rintro e w' ⟨rfl,rfl⟩)
  go_region_with (go_at_call 98;refine (HCh.out _ ?_).mono ?_;(exact (HR.out.below HE2.out.drew));rintro e W3 ⟨rfl,hb3⟩;have HH3:=Lib.hid (HH2.out.ext (undrew hb3));have HR3:=Lib.hid (HR2.out.ext (undrew hb3));have HO3:=Lib.hid (HO2.out.ext (undrew hb3));have HE3:=Lib.hid (ext_call HE2.out (undrew hb3));clear hb3;have cc0:=HH3.out.cell 0;have cc1:=HH3.out.cell 1;have cc2:=HH3.out.cell 2;have rr0:=HR3.out.cell 0;have rr1:=HR3.out.cell 1;have oo0:=HO3.out.cell 0;have oo1:=HO3.out.cell 1;have oo2:=HO3.out.cell 2;have ff0:=HO3.out.frozen 0;have ff1:=HO3.out.frozen 1;have ff2:=HO3.out.frozen 2)
  all_goals
    go_wp2
    have hBf:=((HO3.out.set_ 0 (.int .i64 1)).set_ 1 (.string cz)).set_ 2 (.string t)
    have y0:=hBf.cell 0;have y1:=hBf.cell 1;have y2:=hBf.cell 2
    refine bodyPost_ret (v:=.tuple #[.agg #[.int .i64 1,.string cz,.string t],.int .i64 0]) (by simp [results,Tryz.results51,go_sem,y0,y1,y2]) rfl ⟨rfl,?_⟩
    exact ext_set (ext_set (ext_set HE3.out (by simp;omega) _) (by simp;omega) _) (by simp;omega) _
theorem chg_info:(Tryz.prog.info? 62).map (fun i=>(i.zero,i.size,i.bytes))=some (some (.agg #[.int .i64 0,.int .i64 0,.bool false,.int .i64 0,.int .i64 0,.int .i64 0,.bool false,.int .i64 0,.int .i64 0,.int .i64 0]),10,80):=by kernel_rfl
theorem cloneChgB (b c:Nat) (w:World) (hB:HeadB w b #[.int .i64 0,.int .i64 5,.bool false,.int .i64 0,.int .i64 0,.int .i64 0,.bool true,.int .i64 1,.int .i64 2,.int .i64 3]) :
    Calls Tryz.prog 99 #[.slice (some ⟨b,0,none⟩) 1 c] w fun e w'=>∃ g d zs,e=.returned (.slice (some ⟨g,0,none⟩) 1 d)∧w.heap.size≤g∧Blk w' g 62 (#[.int .i64 0,.int .i64 5,.bool false,.int .i64 0,.int .i64 0,.int .i64 0,.bool true,.int .i64 1,.int .i64 2,.int .i64 3]++zs)∧Below w.heap.size w w':=by
  obtain ⟨ii,hii,hzi0,hzi1,hzi2⟩:=info_parts chg_info
  have c0:=hB.cell 0;have c1:=hB.cell 1;have c2:=hB.cell 2;have c3:=hB.cell 3;have c4:=hB.cell 4;have c5:=hB.cell 5;have c6:=hB.cell 6;have c7:=hB.cell 7;have c8:=hB.cell 8;have c9:=hB.cell 9
  have bl:=hB.lt
  clear hB
  have hsn:=fun W:World=>Lib.run_eql_slice_nil (P:=Tryz.prog) W 41 62 (some ⟨b,0,none⟩) 1 c 0 0 Tryz.underlying41
  go_enter Tryz.func99,Tryz.ntmps99
  go_wp2
  go_ret
  exact ⟨_,_,_,rfl,by simp,Blk.drew (Blk.new' _ _ _ (by simp)),(ext_alloc (ext_new _ _) _).drew⟩
theorem cloneChg (b c:Nat) (w:World) (hB:HeadB w b #[.int .i64 0,.int .i64 5,.bool false,.int .i64 0,.int .i64 0,.int .i64 0,.bool true,.int .i64 1,.int .i64 2,.int .i64 3]) :
    Calls Tryz.prog 99 #[.slice (some ⟨b,0,none⟩) 1 c] w fun e w'=>∃ g d,e=.returned (.slice (some ⟨g,0,none⟩) 1 d)∧w.heap.size≤g∧HeadB w' g #[.int .i64 0,.int .i64 5,.bool false,.int .i64 0,.int .i64 0,.int .i64 0,.bool true,.int .i64 1,.int .i64 2,.int .i64 3]∧Below w.heap.size w w':=
  (cloneChgB b c w hB).mono fun _ _ ⟨g,d,_,h1,h2,h3,h4⟩=>⟨g,d,h1,h2,.of2 h3,h4⟩
theorem logOwn (b c:Nat) (w:World) (hB:HeadB w b #[.int .i64 0,.int .i64 5,.bool false,.int .i64 0,.int .i64 0,.int .i64 0,.bool true,.int .i64 1,.int .i64 2,.int .i64 3]) :
    Calls Tryz.prog 52 #[.agg #[.int .i64 1,.slice (some ⟨b,0,none⟩) 1 c]] w fun e w'=>∃ g d,e=.returned (.agg #[.int .i64 1,.slice (some ⟨g,0,none⟩) 1 d])∧w.heap.size≤g∧HeadB w' g #[.int .i64 0,.int .i64 5,.bool false,.int .i64 0,.int .i64 0,.int .i64 0,.bool true,.int .i64 1,.int .i64 2,.int .i64 3]∧Below w.heap.size w w':=by
  have HX0:=Lib.hid ((Blk.new w 43 #[.int .i64 1,.slice (some ⟨b,0,none⟩) 1 c]).alloc (.cells #[.int .i64 0,.slice none 0 0] 43))
  have HO0:=Lib.hid (Blk.new' (w.alloc (.cells #[.int .i64 1,.slice (some ⟨b,0,none⟩) 1 c] 43)) 43 #[.int .i64 0,.slice none 0 0] (b:=w.heap.size+1) (by simp))
  have HB:=Lib.hid (hB.ext (ext_alloc (ext_new w (.cells #[.int .i64 1,.slice (some ⟨b,0,none⟩) 1 c] 43)) (.cells #[.int .i64 0,.slice none 0 0] 43)))
  clear hB
  go_enter Tryz.func52,Tryz.ntmps52
  go_wp2_with fail
  refine (cloneChg b c _ HB.out).mono ?_
  rintro e W1 ⟨g,d,rfl,hgg,hch,hb1⟩
  have HGG:=Lib.hid hgg
  have HCH:=Lib.hid hch
  clear hgg hch
  have HX1:=Lib.hid (HX0.out.ext hb1)
  have HO1:=Lib.hid (HO0.out.ext hb1)
  have HE1:=Lib.hid (ext_call (ext_alloc (ext_new w _) _) hb1)
  clear hb1
  have x0:=HX1.out.cell 0;have x1:=HX1.out.cell 1
  have o0:=HO1.out.cell 0;have o1:=HO1.out.cell 1
  have f0:=HX1.out.frozen 0
  have f1:=HX1.out.frozen 1
  have g0:=HO1.out.frozen 0
  have g1:=HO1.out.frozen 1
  go_wp2
  have hBf:=((HO1.out.far (p:=⟨w.heap.size,1,none⟩) (by simp) (.slice (some ⟨g,0,none⟩) 1 d)).set_ 0 (.int .i64 1)).set_ 1 (.slice (some ⟨g,0,none⟩) 1 d)
  have y0:=hBf.cell 0;have y1:=hBf.cell 1
  refine bodyPost_ret (v:=.agg #[.int .i64 1,.slice (some ⟨g,0,none⟩) 1 d]) (by simp [results,Tryz.results52,go_sem,y0,y1]) rfl ⟨_,_,rfl,?_,?_,?_⟩
  · have:=HGG.out;simp at this;omega
  · have h2:=HGG.out;simp at h2;exact ((HCH.out.far (by simp;omega) _).far (by simp;omega) _).far (by simp;omega) _
  exact ext_set (ext_set (ext_set HE1.out (by simp) _) (by simp) _) (by simp) _
def Log1 (w:World) (gl:Nat) (z s0 c1 s1:ByteArray):Prop:=∃ gh A k c cap zs,Blk w gl 115 #[.slice A k c,.slice (some ⟨gh,0,none⟩) 2 cap]∧2≤cap∧Blk w gh 30 (#[.int .i64 0,.string z,.string s0,.int .i64 1,.string c1,.string s1]++zs)
end
section
open Go.RowKit
def clr (st:List Nat) (listed:Array Bool):Bool:=st.all fun j => !(listed.getD j true)
theorem clr_mono {st:List Nat} {listed:Array Bool} {i:Nat} (h:clr st (listed.setIfInBounds i true)=true):clr st listed=true:=by
  unfold clr at *
  rw [List.all_eq_true] at *
  intro k hk
  have h1:=h k hk
  by_cases hki:i=k
  · subst hki
    rcases Nat.lt_or_ge i listed.size with h'|h'
    · simp [h'] at h1
    · rw [Array.setIfInBounds_eq_of_size_le h'] at h1;exact h1
  · rw [getD_set_ne true hki] at h1;exact h1
theorem clr_set {st:List Nat} {listed:Array Bool} {j:Nat} (hj:j ∉ st) (h:clr st listed=true):clr st (listed.setIfInBounds j true)=true:=by
  unfold clr at *
  rw [List.all_eq_true] at *
  intro k hk
  have hne:¬ j=k:=fun e=>hj (by rw [e];exact hk)
  rw [getD_set_ne true hne]
  exact h k hk
section
variable {P:Program} {ops:Array Oper} {Q:Exit→Act→World→Prop} {md:Region.Mode} {F G:World→Prop} {st:List Nat}
def wpAnyL (P:Program) (md:Region.Mode) (ops:Array Oper) (Q:Exit→Act→World→Prop) (F G:World→Prop) (st:List Nat):Nat→Array Bool→Act→World→Prop
  | 0,listed,a,w=>Region.ready md ops listed=[]∧Q .normal a w
  | fuel+1,listed,a,w=>
    (Region.ready md ops listed=[]→Q .normal a w) ∧
    ∀ i ∈ Region.ready md ops listed,wpOp P ops Q i (fun a' w'=>(F w'∧(clr st (listed.setIfInBounds i true)=true→G w'))∧wpAnyL P md ops Q F G st fuel (listed.setIfInBounds i true) a' w') a w
theorem wpAny_of_L:∀ (fuel:Nat) (listed:Array Bool) (a:Act) (w:World),wpAnyL P md ops Q F G st fuel listed a w→wpAny P md ops Q fuel listed a w
  | 0,_,_,_,h=>h
  | fuel+1,_,_,_,h=>⟨h.1,fun i hi=>wpOp_mono (fun a' w' h'=>wpAny_of_L fuel _ a' w' h'.2) (h.2 i hi)⟩
theorem wp_region_L {id:Nat} {a:Act} {w:World} (F G:World→Prop) (st:List Nat) (hm:P.follows .mixedOrders=true)
    (h:wpAnyL P .any ops Q F G st ops.size (Array.replicate ops.size false) a w.drew):(Code.region id ops true).wp P Q a w:=
  wp_region_any hm (wpAny_of_L _ _ _ _ h)
theorem wpAnyL_first {i:Nat} {oi:Oper} {v:Value} (T:World→Prop) (inv:Array Bool→Prop) (hi:ops[i]? = some oi) (hno:i ∉ st) (hsel:∀ (j:Nat) (o:Oper) cs b,ops[j]? = some o→o.op ≠ .select cs b)
    (hQ:∀ c a w,Q (.panic c) (a.put oi.dst v) w→Q (.panic c) a w)
    (hT:∀ listed j oj w',inv listed→ops[j]? = some oj→(∀ e ∈ oj.after,Region.binds md e=true→e.on≠i)→F w'∧(clr st (listed.setIfInBounds j true)=true→G w')→T w'∧inv (listed.setIfInBounds j true)) :
    ∀ (fuel:Nat) (listed:Array Bool) (a:Act) (w:World),
      (∀ j oj,ops[j]? = some oj→j≠i→listed.getD j true=false→(∀ e ∈ oj.after,Region.binds md e=true→e.on≠i)→oi.apart ops oj=true) →
      i ∈ Region.ready md ops listed→YieldsIf P ops T oi v a→T w→inv listed→F w→(clr st listed=true→G w) →
      wpAnyL P md ops Q F G st fuel (listed.setIfInBounds i true) (a.put oi.dst v) w→wpAnyL P md ops Q F G st (fuel+1) listed a w:=by
  intro fuel
  induction fuel with
  | zero=>
    intro listed a w _ hr hy hS _ hF hG H
    refine ⟨fun h=>(by rw [h] at hr;cases hr),fun j hj=>?_⟩
    by_cases hji:j=i
    · subst hji;exact hy.wpOp hi hS ⟨⟨hF,fun h=>hG (clr_mono h)⟩,H⟩
    · have:=ready_mono hj hji
      rw [H.1] at this
      cases this
  | succ fuel ih=>
    intro listed a w hfree hr hy hS hV hF hG H
    refine ⟨fun h=>(by rw [h] at hr;cases hr),fun j hj=>?_⟩
    by_cases hji:j=i
    · subst hji;exact hy.wpOp hi hS ⟨⟨hF,fun h=>hG (clr_mono h)⟩,H⟩
    · have h1:=H.2 j (ready_mono hj hji)
      obtain ⟨hjun,oj,hoj,hall⟩:=mem_ready.1 hj
      have hun:listed.getD i false=false:=by
        have h0:=(mem_ready.1 hr).1
        rcases Nat.lt_or_ge i listed.size with h'|h'
        · simpa [h'] using h0
        · simp [Array.getElem?_eq_none h']
      have hnot:∀ e ∈ oj.after,Region.binds md e=true→e.on≠i:=fun e he hb heq=>by
        have h1:=hall e he hb
        rw [heq,hun] at h1
        cases h1
      have h2:=wpOp_putIf hoj (hfree j oj hoj hji hjun hnot) (fun cs b=>hsel i oi cs b hi) (fun cs b=>hsel j oj cs b hoj) hQ hy h1
      have hfree':∀ k ok,ops[k]? = some ok→k≠i→(listed.setIfInBounds j true).getD k true=false →
          (∀ e ∈ ok.after,Region.binds md e=true→e.on≠i)→oi.apart ops ok=true:=fun k ok hk hki hun hno=>by
        refine hfree k ok hk hki ?_ hno
        by_cases hjk:j=k
        · subst hjk;exact hjun
        · rw [getD_set_ne true hjk] at hun;exact hun
      have hcond:∀ w',F w'∧(clr st ((listed.setIfInBounds i true).setIfInBounds j true)=true→G w')→¬ (i ∈ st)→F w'∧(clr st (listed.setIfInBounds j true)=true→G w'):=fun w' h hn=>
        ⟨h.1,fun hc=>h.2 (by rw [Array.setIfInBounds_comm _ _ (Ne.symm hji)];exact clr_set hn hc)⟩
      refine wpOp_mono (fun a' w' h3=>?_) h2
      have hc:=hcond w' h3.2.1 hno
      have hT':=hT listed j oj w' hV hoj hnot hc
      refine ⟨hc,ih (listed.setIfInBounds j true) a' w' hfree' (ready_mono hr (Ne.symm hji)) h3.1 hT'.1 hT'.2 hc.1 hc.2 ?_⟩
      rw [Array.setIfInBounds_comm _ _ hji]
      exact h3.2.2
def waitB (md:Region.Mode) (ops:Array Oper) (st:List Nat) (i:Nat):Bool:=st.all fun j=>match ops[j]? with|none=>true|some o=>o.after.any fun e=>Region.binds md e && e.on == i
theorem waitB_spec {st:List Nat} {i:Nat} (h:waitB md ops st i=true):∀ j,j ∈ st→∀ oj,ops[j]? = some oj→∃ e ∈ oj.after,Region.binds md e=true∧e.on=i:=by
  intro j hj oj ho
  have h1:=List.all_eq_true.1 h j hj
  simp only [ho] at h1
  obtain ⟨k,hk,h2⟩:=Array.any_eq_true.1 h1
  simp only [Bool.and_eq_true,beq_iff_eq] at h2
  exact ⟨_,Array.getElem_mem hk,h2.1,h2.2⟩
theorem takeG (i:Nat) {oi:Oper} {v:Value} {fuel:Nat} {listed:Array Bool} {a:Act} {w:World} (hi:ops[i]? = some oi) (hno:st.contains i=false)
    (hs:Region.noSelect ops=true) (hf:Region.free md ops listed i=true) (hr:(Region.ready md ops listed).contains i=true) (hw:waitB md ops st i=true) (hc:clr st listed=true)
    (hQ:∀ c a w,Q (.panic c) (a.put oi.dst v) w→Q (.panic c) a w) (hy:YieldsIf P ops G oi v a) (hF:F w) (hG:G w)
    (h:wpAnyL P md ops Q F G st fuel (listed.setIfInBounds i true) (a.put oi.dst v) w):wpAnyL P md ops Q F G st (fuel+1) listed a w:=
  wpAnyL_first G (fun l=>clr st l=true) hi (by simpa using hno) (Region.noSelect_spec hs) hQ
    (fun listed j oj w' hV ho hn hc=>by
      have hj:j ∉ st:=fun hj=>by
        obtain ⟨e,he,hb,hon⟩:=waitB_spec hw j hj oj ho
        exact hn e he hb hon
      have:=clr_set hj hV
      exact ⟨hc.2 this,this⟩) fuel listed a w (Region.free_spec hi hf) (by simpa using hr) hy hG hc hF (fun _=>hG) h
theorem takeF (i:Nat) {oi:Oper} {v:Value} {fuel:Nat} {listed:Array Bool} {a:Act} {w:World} (hi:ops[i]? = some oi) (hno:st.contains i=false)
    (hs:Region.noSelect ops=true) (hf:Region.free md ops listed i=true) (hr:(Region.ready md ops listed).contains i=true)
    (hQ:∀ c a w,Q (.panic c) (a.put oi.dst v) w→Q (.panic c) a w) (hy:YieldsIf P ops F oi v a) (hF:F w) (hG:clr st listed=true→G w)
    (h:wpAnyL P md ops Q F G st fuel (listed.setIfInBounds i true) (a.put oi.dst v) w):wpAnyL P md ops Q F G st (fuel+1) listed a w:=
  wpAnyL_first F (fun _=>True) hi (by simpa using hno) (Region.noSelect_spec hs) hQ (fun listed j oj w' _ _ _ hc=>⟨hc.1,trivial⟩) fuel listed a w (Region.free_spec hi hf) (by simpa using hr) hy hF trivial hF hG h
theorem allL (rs:List Nat) {fuel:Nat} {listed:Array Bool} {a:Act} {w:World} (hr:Region.ready md ops listed=rs) (hne:rs≠[])
    (h:∀ i ∈ rs,wpOp P ops Q i (fun a' w'=>(F w'∧(clr st (listed.setIfInBounds i true)=true→G w'))∧wpAnyL P md ops Q F G st fuel (listed.setIfInBounds i true) a' w') a w):wpAnyL P md ops Q F G st (fuel+1) listed a w:=
  ⟨fun h0=>absurd (hr ▸ h0) hne,hr ▸ h⟩
theorem doneL {listed:Array Bool} {a:Act} {w:World} (hr:Region.ready md ops listed=[]) (h:Q .normal a w):∀ fuel,wpAnyL P md ops Q F G st fuel listed a w
  | 0=>⟨hr,h⟩
  | _+1=>⟨fun _=>h,by rw [hr];simp⟩
theorem stepL {i:Nat} {o:Oper} {K:Act→World→Prop} {a:Act} {w:World} (ho:ops[i]? = some o) (hw:Region.wanted o (yielded ops a.tmps)=true)
    (h:∀ K':Act→World→Prop,(∀ a w,K a w→K' a w)→Oper.wp P o a w K' Q):wpOp P ops Q i K a w:=by
  unfold wpOp
  simp only [ho,hw,if_true]
  exact .inl (h K fun _ _ h=>h)
end
end
section
open Go.RowKit
attribute [local go_sem ↓] Go.wp_at_zero Go.wp_at_succ
theorem rec_info:(Tryz.prog.info? 43).map (fun i=>(i.zero,i.size,i.bytes))=some (some (.agg #[.int .i64 0,.slice none 0 0]),2,32):=by kernel_rfl
theorem head_info:(Tryz.prog.info? 30).map (fun i=>(i.zero,i.size,i.bytes))=some (some (.agg #[.int .i64 0,.string ⟨#[]⟩,.string ⟨#[]⟩]),3,40):=by kernel_rfl
theorem agKeep {X W:World} {gl gh:Nat} (h:Blk X gl 115 #[.slice none 0 0,.slice (some ⟨gh,0,none⟩) 1 1]) (k:Below X.heap.size X W):W.cell? ⟨gl,0,none⟩=some (.slice none 0 0)∧W.cell? ⟨gl,1,none⟩=some (.slice (some ⟨gh,0,none⟩) 1 1):=⟨(h.ext k).cell 0,(h.ext k).cell 1⟩
theorem blk_set2 {W:World} {g:Nat} {ty:TypeId} {a b u v:Value} (h:Blk W g ty #[a,b]):Blk ((W.setCell ⟨g,0,none⟩ u).setCell ⟨g,1,none⟩ v) g ty #[u,v]:=(h.set_ 0 u).set_ 1 v
theorem log1_of {W:World} {gl gh k c cap:Nat} {A:Option Addr} {z s cz t:ByteArray} {zs:Array Value} (h1:Blk W gl 115 #[.slice A k c,.slice (some ⟨gh,0,none⟩) 2 cap]) (hc:2≤cap)
    (h2:Blk W gh 30 (#[.int .i64 0,.string z,.string s]++(#[.int .i64 1,.string cz,.string t]++zs))):Log1 W gl z s cz t:=
  ⟨gh,A,k,c,cap,zs,h1,hc,by rw [← Array.append_assoc] at h2;exact h2⟩
def RecsAt (w:World) (gl:Nat):Prop:=∃ gr c g d,w.cell? ⟨gl,0,none⟩=some (.slice (some ⟨gr,0,none⟩) 1 c)∧1≤c∧HeadB w gr #[.int .i64 1,.slice (some ⟨g,0,none⟩) 1 d]∧HeadB w g #[.int .i64 0,.int .i64 5,.bool false,.int .i64 0,.int .i64 0,.int .i64 0,.bool true,.int .i64 1,.int .i64 2,.int .i64 3]
theorem HeadB.ext2 {w W:World} {b a a':Nat} {cs:Array Value} (h:HeadB w b cs) (k:Ext2 a a' w W) (h1:b≠a) (h2:b≠a'):HeadB W b cs:=
  ⟨Nat.lt_of_lt_of_le h.lt k.size,fun i hi=>(World.cell?_of_block (k.block b h.lt h1 h2)).trans (h.cells i hi)⟩
theorem logR_of {W:World} {gl gh gr g d c cap:Nat} {z s cz t:ByteArray} {zs rs:Array Value} (h1:Blk W gl 115 #[.slice (some ⟨gr,0,none⟩) 1 c,.slice (some ⟨gh,0,none⟩) 2 cap]) (hc:2≤cap)
    (h2:Blk W gh 30 (#[.int .i64 0,.string z,.string s]++(#[.int .i64 1,.string cz,.string t]++zs)))
    (hr:Blk W gr 43 (#[.int .i64 1,.slice (some ⟨g,0,none⟩) 1 d]++rs)) (hc1:1≤c) (hg:HeadB W g #[.int .i64 0,.int .i64 5,.bool false,.int .i64 0,.int .i64 0,.int .i64 0,.bool true,.int .i64 1,.int .i64 2,.int .i64 3]):Log1 W gl z s cz t∧RecsAt W gl:=
  ⟨log1_of h1 hc h2,gr,c,g,d,h1.cell 0,hc1,.of2 hr,hg⟩
theorem apKeep {W0 W W':World} {gl gh rb b c:Nat} {z s:ByteArray} (h:W.cell? ⟨gl,1,none⟩=some (.slice (some ⟨gh,0,none⟩) 1 1)∧W.cell? ⟨gh,0,none⟩=some (.int .i64 0)∧W.cell? ⟨gh,1,none⟩=some (.string z)∧W.cell? ⟨gh,2,none⟩=some (.string s) ∧
  W.cell? ⟨rb,0,none⟩=some (.int .i64 1)∧W.cell? ⟨rb,1,none⟩=some (.slice (some ⟨b,0,none⟩) 1 c)∧Below W0.heap.size W0 W) (hb:Below W.heap.size W W'):W'.cell? ⟨gl,1,none⟩=some (.slice (some ⟨gh,0,none⟩) 1 1)∧W'.cell? ⟨gh,0,none⟩=some (.int .i64 0)∧W'.cell? ⟨gh,1,none⟩=some (.string z)∧W'.cell? ⟨gh,2,none⟩=some (.string s) ∧
  W'.cell? ⟨rb,0,none⟩=some (.int .i64 1)∧W'.cell? ⟨rb,1,none⟩=some (.slice (some ⟨b,0,none⟩) 1 c)∧Below W0.heap.size W0 W':=
  ⟨cell_ext h.1 hb,cell_ext h.2.1 hb,cell_ext h.2.2.1 hb,cell_ext h.2.2.2.1 hb,cell_ext h.2.2.2.2.1 hb,cell_ext h.2.2.2.2.2.1 hb,ext_call h.2.2.2.2.2.2 hb⟩
theorem apB {W0 W:World} {gl gh rb b c:Nat} {z s:ByteArray} (h:W.cell? ⟨gl,1,none⟩=some (.slice (some ⟨gh,0,none⟩) 1 1)∧W.cell? ⟨gh,0,none⟩=some (.int .i64 0)∧W.cell? ⟨gh,1,none⟩=some (.string z)∧W.cell? ⟨gh,2,none⟩=some (.string s) ∧
  W.cell? ⟨rb,0,none⟩=some (.int .i64 1)∧W.cell? ⟨rb,1,none⟩=some (.slice (some ⟨b,0,none⟩) 1 c)∧Below W0.heap.size W0 W):Below W0.heap.size W0 W:=h.2.2.2.2.2.2
theorem Ext2.alloc {a b:Nat} {w W:World} (h:Ext2 a b w W) (o:Obj):Ext2 a b w (W.alloc o):=h.ext (ext_new W o)
theorem Ext2.drew1 {a b:Nat} {w W:World} (h:Ext2 a b w W):Ext2 a b w W.drew:=h.drewN 1
theorem Ext2.refl (a b:Nat) (w:World):Ext2 a b w w:=.of_ext (ext_refl w)
theorem aqKeep {X W:World} {gl rb hx b c:Nat} {cz t:ByteArray} (h:Blk X rb 43 #[.int .i64 1,.slice (some ⟨b,0,none⟩) 1 c]∧Blk X hx 30 #[.int .i64 1,.string cz,.string t]∧rb≠gl∧hx≠gl) (k:Ext2 gl gl X W) :
    W.cell? ⟨rb,0,none⟩=some (.int .i64 1)∧W.cell? ⟨rb,1,none⟩=some (.slice (some ⟨b,0,none⟩) 1 c)∧W.cell? ⟨hx,0,none⟩=some (.int .i64 1)∧W.cell? ⟨hx,1,none⟩=some (.string cz)∧W.cell? ⟨hx,2,none⟩=some (.string t)∧Ext2 gl gl X W:=
  ⟨(h.1.ext2 k h.2.2.1 h.2.2.1).cell 0,(h.1.ext2 k h.2.2.1 h.2.2.1).cell 1,(h.2.1.ext2 k h.2.2.2 h.2.2.2).cell 0,(h.2.1.ext2 k h.2.2.2 h.2.2.2).cell 1,(h.2.1.ext2 k h.2.2.2 h.2.2.2).cell 2,k⟩
theorem logAppendR (gl b c:Nat) (z s t:ByteArray) (hz:z.size=32) (hs:s.size=32) (ht:t.size=32) (w:World) (hL:Log0 w gl z s) (hB:HeadB w b #[.int .i64 0,.int .i64 5,.bool false,.int .i64 0,.int .i64 0,.int .i64 0,.bool true,.int .i64 1,.int .i64 2,.int .i64 3]) (hR:RoundOK w) :
    Calls Tryz.prog 19 #[.pointer (some ⟨gl,0,none⟩),.agg #[.int .i64 1,.slice (some ⟨b,0,none⟩) 1 c],.string t] w
      fun e w'=>e=.returned (.int .i64 0)∧(Log1 w' gl z s (chainF z recEnc) t∧RecsAt w' gl)∧Ext2 gl gl w w':=by
  obtain ⟨ir,hir,hzr0,hzr1,hzr2⟩:=info_parts rec_info
  obtain ⟨ih,hih,hzh0,hzh1,hzh2⟩:=info_parts head_info
  have HNx:=Lib.hid (fun (W:World) (h:HeadB W b #[.int .i64 0,.int .i64 5,.bool false,.int .i64 0,.int .i64 0,.int .i64 0,.bool true,.int .i64 1,.int .i64 2,.int .i64 3]) (hR:RoundOK W)=>logNext z s t hz hs ht b c W h hR)
  have HOw:=Lib.hid (fun (W:World) (h:HeadB W b #[.int .i64 0,.int .i64 5,.bool false,.int .i64 0,.int .i64 0,.int .i64 0,.bool true,.int .i64 1,.int .i64 2,.int .i64 3])=>logOwn b c W h)
  generalize chainF z recEnc=cz at *
  have HR:=Lib.hid (hR.below (ext_new w (.cells #[.int .i64 1,.slice (some ⟨b,0,none⟩) 1 c] 43)))
  have HB:=Lib.hid (hB.ext (ext_new w (.cells #[.int .i64 1,.slice (some ⟨b,0,none⟩) 1 c] 43)))
  have HX:=Lib.hid (Blk.new w 43 #[.int .i64 1,.slice (some ⟨b,0,none⟩) 1 c])
  obtain ⟨gh,hg,hh⟩:=hL.ext (ext_new w (.cells #[.int .i64 1,.slice (some ⟨b,0,none⟩) 1 c] 43))
  have hgl:=hL.choose_spec.1.lt
  have HG:=Lib.hid hg
  have HH:=Lib.hid hh
  obtain ⟨W0,hW0⟩:∃ W0,W0=w.alloc (.cells #[.int .i64 1,.slice (some ⟨b,0,none⟩) 1 c] 43):=⟨_,rfl⟩
  have HE0:=Lib.hid (show Below w.heap.size w W0 by rw [hW0];exact ext_new _ _)
  rw [← hW0] at HR HB HX HG HH
  have HW0:=Lib.hid hW0
  clear hz hs ht hL hB hR hg hh hW0
  have g0:=HG.out.cell 0;have g1:=HG.out.cell 1
  have h0:=HH.out.cell 0;have h1:=HH.out.cell 1;have h2:=HH.out.cell 2
  have x0:=HX.out.cell 0;have x1:=HX.out.cell 1
  go_enter Tryz.func19,Tryz.ntmps19
  go_wp2_with fail
  rw [← HW0.out]
  have hwr0:IntKind.i64.wrap 0=0:=by decide
  have HS0:=Lib.hid (show W0.cell? ⟨gl,1,none⟩=some (.slice (some ⟨gh,0,none⟩) 1 1)∧W0.cell? ⟨gh,0,none⟩=some (.int .i64 0)∧W0.cell? ⟨gh,1,none⟩=some (.string z)∧W0.cell? ⟨gh,2,none⟩=some (.string s)∧W0.cell? ⟨w.heap.size,0,none⟩=some (.int .i64 1)∧W0.cell? ⟨w.heap.size,1,none⟩=some (.slice (some ⟨b,0,none⟩) 1 c)∧Below W0.heap.size W0 W0 from ⟨g1,h0,h1,h2,x0,x1,ext_refl _⟩)
  go_region_held3 (fun w'=>w'.cell? ⟨gl,1,none⟩=some (.slice (some ⟨gh,0,none⟩) 1 1)∧w'.cell? ⟨gh,0,none⟩=some (.int .i64 0)∧w'.cell? ⟨gh,1,none⟩=some (.string z)∧w'.cell? ⟨gh,2,none⟩=some (.string s)∧w'.cell? ⟨w.heap.size,0,none⟩=some (.int .i64 1)∧w'.cell? ⟨w.heap.size,1,none⟩=some (.slice (some ⟨b,0,none⟩) 1 c)∧Below W0.heap.size W0 w')
    (first|exact apKeep HS0.out (ext_refl W0).drew|assumption|exact apKeep HS0.out hbw|exact apKeep HS0.out (ext_alloc hbw _)|exact apKeep HS0.out (ext_alloc hbw _).drew|exact apKeep HS0.out (ext_new _ _).drew|exact apKeep HS0.out (ext_new _ _)|exact apKeep HS0.out (ext_set (ext_set (ext_set hbw (Nat.le_refl _) _) (Nat.le_refl _) _) (Nat.le_refl _) _))
    (first|(go_at_call 51;(with_reducible refine (HNx.out _ ?_ ?_).mono ?_);(exact HB.out.ext (apB (by assumption)));(exact HR.out.below (apB (by assumption)));rintro e W1 ⟨rfl,hb'⟩;have hbw:=ext_call (apB (by assumption)) hb';try (have hbx:=(show Blk W1 W0.heap.size 30 #[.int .i64 0,.string ⟨#[]⟩,.string ⟨#[]⟩] from ((Blk.new W0 _ _).drew).ext hb');have bx0:=hbx.cell 0;have bx1:=hbx.cell 1;have bx2:=hbx.cell 2;have bf0:=hbx.frozen 0;have bf1:=hbx.frozen 1;have bf2:=hbx.frozen 2;have HBX:=Lib.hid hbx;clear hbx)))
  all_goals
    clear hb' hwr0 g0 g1 h0 h1 h2 x0 x1
    first
    | (generalize hX:World.setCell (World.setCell (World.setCell W1 ⟨W0.heap.size,0,none⟩ (.int .i64 1)) ⟨W0.heap.size,1,none⟩ (.string cz)) ⟨W0.heap.size,2,none⟩ (.string t)=X
       have HBx:=Lib.hid (show Blk X W0.heap.size 30 #[.int .i64 1,.string cz,.string t] by subst hX;exact ((HBX.out.set_ 0 _).set_ 1 _).set_ 2 _)
       have HEx:=Lib.hid (show Below W0.heap.size W0 X by subst hX;exact ext_set (ext_set (ext_set hbw (Nat.le_refl _) _) (Nat.le_refl _) _) (Nat.le_refl _) _)
       have hne:W0.heap.size≠gl:=by have:=HG.out.lt;omega
       clear bx0 bx1 bx2 bf0 bf1 bf2 hX hbw HBX
       generalize W0.heap.size=hx at HBx hne ⊢)
    | (generalize hX:World.alloc W1 (.cells #[.int .i64 1,.string cz,.string t] 30)=X
       have HBx:=Lib.hid (show Blk X W1.heap.size 30 #[.int .i64 1,.string cz,.string t] by subst hX;exact Blk.new _ _ _)
       have HEx:=Lib.hid (show Below W0.heap.size W0 X by subst hX;exact ext_alloc hbw _)
       have hne:W1.heap.size≠gl:=by have:=HG.out.lt;have:=hbw.size;omega
       clear hX hbw
       generalize W1.heap.size=hx at HBx hne ⊢)
    have HGx:=Lib.hid (HG.out.ext HEx.out)
    have HHx:=Lib.hid (HH.out.ext HEx.out)
    have HXx:=Lib.hid (HX.out.ext HEx.out)
    have HCx:=Lib.hid (HB.out.ext HEx.out)
    have hrb:w.heap.size≠gl:=by omega
    have HSX:=Lib.hid (And.intro HXx.out (And.intro HBx.out (And.intro hrb hne)))
    have g0:=HGx.out.cell 0;have g1:=HGx.out.cell 1
    have h0:=HHx.out.cell 0;have h1:=HHx.out.cell 1;have h2:=HHx.out.cell 2
    have gf0:=HGx.out.frozen 0
    have gf1:=HGx.out.frozen 1
    have gll:=HGx.out.lt
    have ghl:=HHx.out.lt
    have hnc:Builtin.nextslicecap 2 1=2:=by decide
    have hbt:Tryz.t30.bytes=40:=by kernel_rfl
    go_wp2
    refine wp_region_L (fun w'=>w'.cell? ⟨w.heap.size,0,none⟩=some (.int .i64 1)∧w'.cell? ⟨w.heap.size,1,none⟩=some (.slice (some ⟨b,0,none⟩) 1 c)∧w'.cell? ⟨hx,0,none⟩=some (.int .i64 1)∧w'.cell? ⟨hx,1,none⟩=some (.string cz)∧w'.cell? ⟨hx,2,none⟩=some (.string t)∧Ext2 gl gl X w')
      (fun w'=>w'.cell? ⟨gl,0,none⟩=some (.slice none 0 0)∧w'.cell? ⟨gl,1,none⟩=some (.slice (some ⟨gh,0,none⟩) 1 1)) [19,22] (by kernel_rfl) ?_
    refine takeF 0 (v:=?_) rfl (by kernel_rfl) (by kernel_rfl) (by kernel_rfl) (by kernel_rfl) (fun _ _ _ h=>h) (Or.inl ⟨by rfl,?_⟩) (aqKeep HSX.out (by repeat (first|with_reducible refine Ext2.alloc ?_ _|with_reducible refine Ext2.drew1 ?_|with_reducible refine Ext2.setA ?_ _ _|with_reducible assumption|with_reducible exact Ext2.refl _ _ _))) (fun _=>(agKeep HGx.out (by repeat (first|with_reducible refine ext_alloc ?_ _|with_reducible refine Below.drew ?_|with_reducible assumption|with_reducible exact ext_refl _)))) ?_
    rotate_left 1
    · (rintro w' ⟨f0,f1,f2,f3,f4,_⟩;go_simp;with_reducible rfl)
    refine takeF 1 (v:=?_) rfl (by kernel_rfl) (by kernel_rfl) (by kernel_rfl) (by kernel_rfl) (fun _ _ _ h=>h) (Or.inl ⟨by rfl,?_⟩) (aqKeep HSX.out (by repeat (first|with_reducible refine Ext2.alloc ?_ _|with_reducible refine Ext2.drew1 ?_|with_reducible refine Ext2.setA ?_ _ _|with_reducible assumption|with_reducible exact Ext2.refl _ _ _))) (fun _=>(agKeep HGx.out (by repeat (first|with_reducible refine ext_alloc ?_ _|with_reducible refine Below.drew ?_|with_reducible assumption|with_reducible exact ext_refl _)))) ?_
    rotate_left 1
    · (rintro w' ⟨f0,f1,f2,f3,f4,_⟩;go_simp;with_reducible rfl)
    refine takeF 2 (v:=?_) rfl (by kernel_rfl) (by kernel_rfl) (by kernel_rfl) (by kernel_rfl) (fun _ _ _ h=>h) (Or.inl ⟨by rfl,?_⟩) (aqKeep HSX.out (by repeat (first|with_reducible refine Ext2.alloc ?_ _|with_reducible refine Ext2.drew1 ?_|with_reducible refine Ext2.setA ?_ _ _|with_reducible assumption|with_reducible exact Ext2.refl _ _ _))) (fun _=>(agKeep HGx.out (by repeat (first|with_reducible refine ext_alloc ?_ _|with_reducible refine Below.drew ?_|with_reducible assumption|with_reducible exact ext_refl _)))) ?_
    rotate_left 1
    · (rintro w' ⟨f0,f1,f2,f3,f4,_⟩;go_simp;with_reducible rfl)
    refine takeF 3 (v:=?_) rfl (by kernel_rfl) (by kernel_rfl) (by kernel_rfl) (by kernel_rfl) (fun _ _ _ h=>h) (Or.inl ⟨by rfl,?_⟩) (aqKeep HSX.out (by repeat (first|with_reducible refine Ext2.alloc ?_ _|with_reducible refine Ext2.drew1 ?_|with_reducible refine Ext2.setA ?_ _ _|with_reducible assumption|with_reducible exact Ext2.refl _ _ _))) (fun _=>(agKeep HGx.out (by repeat (first|with_reducible refine ext_alloc ?_ _|with_reducible refine Below.drew ?_|with_reducible assumption|with_reducible exact ext_refl _)))) ?_
    rotate_left 1
    · (rintro w' ⟨f0,f1,f2,f3,f4,_⟩;go_simp;with_reducible rfl)
    refine takeF 4 (v:=?_) rfl (by kernel_rfl) (by kernel_rfl) (by kernel_rfl) (by kernel_rfl) (fun _ _ _ h=>h) (Or.inl ⟨by rfl,?_⟩) (aqKeep HSX.out (by repeat (first|with_reducible refine Ext2.alloc ?_ _|with_reducible refine Ext2.drew1 ?_|with_reducible refine Ext2.setA ?_ _ _|with_reducible assumption|with_reducible exact Ext2.refl _ _ _))) (fun _=>(agKeep HGx.out (by repeat (first|with_reducible refine ext_alloc ?_ _|with_reducible refine Below.drew ?_|with_reducible assumption|with_reducible exact ext_refl _)))) ?_
    rotate_left 1
    · (rintro w' ⟨f0,f1,f2,f3,f4,_⟩;go_simp;with_reducible rfl)
    refine takeG 5 (v:=?_) rfl (by kernel_rfl) (by kernel_rfl) (by kernel_rfl) (by kernel_rfl) (by kernel_rfl) (by kernel_rfl) (fun _ _ _ h=>h) (Or.inl ⟨by rfl,?_⟩) (aqKeep HSX.out (by repeat (first|with_reducible refine Ext2.alloc ?_ _|with_reducible refine Ext2.drew1 ?_|with_reducible refine Ext2.setA ?_ _ _|with_reducible assumption|with_reducible exact Ext2.refl _ _ _))) (agKeep HGx.out (by repeat (first|with_reducible refine ext_alloc ?_ _|with_reducible refine Below.drew ?_|with_reducible assumption|with_reducible exact ext_refl _))) ?_
    rotate_left 1
    · (rintro w' ⟨f0,f1⟩;go_simp;with_reducible rfl)
    refine takeF 6 (v:=?_) rfl (by kernel_rfl) (by kernel_rfl) (by kernel_rfl) (by kernel_rfl) (fun _ _ _ h=>h) (Or.inl ⟨by rfl,?_⟩) (aqKeep HSX.out (by repeat (first|with_reducible refine Ext2.alloc ?_ _|with_reducible refine Ext2.drew1 ?_|with_reducible refine Ext2.setA ?_ _ _|with_reducible assumption|with_reducible exact Ext2.refl _ _ _))) (fun _=>(agKeep HGx.out (by repeat (first|with_reducible refine ext_alloc ?_ _|with_reducible refine Below.drew ?_|with_reducible assumption|with_reducible exact ext_refl _)))) ?_
    rotate_left 1
    · (rintro w' ⟨f0,f1,f2,f3,f4,_⟩;go_simp;with_reducible rfl)
    refine takeF 10 (v:=?_) rfl (by kernel_rfl) (by kernel_rfl) (by kernel_rfl) (by kernel_rfl) (fun _ _ _ h=>h) (Or.inl ⟨by rfl,?_⟩) (aqKeep HSX.out (by repeat (first|with_reducible refine Ext2.alloc ?_ _|with_reducible refine Ext2.drew1 ?_|with_reducible refine Ext2.setA ?_ _ _|with_reducible assumption|with_reducible exact Ext2.refl _ _ _))) (fun _=>(agKeep HGx.out (by repeat (first|with_reducible refine ext_alloc ?_ _|with_reducible refine Below.drew ?_|with_reducible assumption|with_reducible exact ext_refl _)))) ?_
    rotate_left 1
    · (rintro w' ⟨f0,f1,f2,f3,f4,_⟩;go_simp;with_reducible rfl)
    refine takeF 11 (v:=?_) rfl (by kernel_rfl) (by kernel_rfl) (by kernel_rfl) (by kernel_rfl) (fun _ _ _ h=>h) (Or.inl ⟨by rfl,?_⟩) (aqKeep HSX.out (by repeat (first|with_reducible refine Ext2.alloc ?_ _|with_reducible refine Ext2.drew1 ?_|with_reducible refine Ext2.setA ?_ _ _|with_reducible assumption|with_reducible exact Ext2.refl _ _ _))) (fun _=>(agKeep HGx.out (by repeat (first|with_reducible refine ext_alloc ?_ _|with_reducible refine Below.drew ?_|with_reducible assumption|with_reducible exact ext_refl _)))) ?_
    rotate_left 1
    · (rintro w' ⟨f0,f1,f2,f3,f4,_⟩;go_simp;with_reducible rfl)
    refine takeF 12 (v:=?_) rfl (by kernel_rfl) (by kernel_rfl) (by kernel_rfl) (by kernel_rfl) (fun _ _ _ h=>h) (Or.inl ⟨by rfl,?_⟩) (aqKeep HSX.out (by repeat (first|with_reducible refine Ext2.alloc ?_ _|with_reducible refine Ext2.drew1 ?_|with_reducible refine Ext2.setA ?_ _ _|with_reducible assumption|with_reducible exact Ext2.refl _ _ _))) (fun _=>(agKeep HGx.out (by repeat (first|with_reducible refine ext_alloc ?_ _|with_reducible refine Below.drew ?_|with_reducible assumption|with_reducible exact ext_refl _)))) ?_
    rotate_left 1
    · (rintro w' ⟨f0,f1,f2,f3,f4,_⟩;go_simp;with_reducible rfl)
    refine takeG 13 (v:=?_) rfl (by kernel_rfl) (by kernel_rfl) (by kernel_rfl) (by kernel_rfl) (by kernel_rfl) (by kernel_rfl) (fun _ _ _ h=>h) (Or.inl ⟨by rfl,?_⟩) (aqKeep HSX.out (by repeat (first|with_reducible refine Ext2.alloc ?_ _|with_reducible refine Ext2.drew1 ?_|with_reducible refine Ext2.setA ?_ _ _|with_reducible assumption|with_reducible exact Ext2.refl _ _ _))) (agKeep HGx.out (by repeat (first|with_reducible refine ext_alloc ?_ _|with_reducible refine Below.drew ?_|with_reducible assumption|with_reducible exact ext_refl _))) ?_
    rotate_left 1
    · (rintro w' ⟨f0,f1⟩;go_simp;with_reducible rfl)
    refine takeF 14 (v:=?_) rfl (by kernel_rfl) (by kernel_rfl) (by kernel_rfl) (by kernel_rfl) (fun _ _ _ h=>h) (Or.inl ⟨by rfl,?_⟩) (aqKeep HSX.out (by repeat (first|with_reducible refine Ext2.alloc ?_ _|with_reducible refine Ext2.drew1 ?_|with_reducible refine Ext2.setA ?_ _ _|with_reducible assumption|with_reducible exact Ext2.refl _ _ _))) (fun _=>(agKeep HGx.out (by repeat (first|with_reducible refine ext_alloc ?_ _|with_reducible refine Below.drew ?_|with_reducible assumption|with_reducible exact ext_refl _)))) ?_
    rotate_left 1
    · (rintro w' ⟨f0,f1,f2,f3,f4,_⟩;go_simp;with_reducible rfl)
    refine allL [7,15] (by kernel_rfl) (by simp) ?_
    simp only [List.forall_mem_cons,List.not_mem_nil,false_implies,implies_true,and_true]
    refine ⟨?_,?_⟩
    · refine stepL rfl (by rfl) (fun K hK=>?_)
      go_simp
      go_at_call 52
      refine (HOw.out _ (HCx.out.ext (by repeat (first|with_reducible refine ext_alloc ?_ _|with_reducible refine Below.drew ?_|with_reducible assumption|with_reducible exact ext_refl _)))).mono ?_
      rintro e V ⟨go,d,rfl,hgo,hch,hbo⟩
      have HGO:=Lib.hid (show go≠gl by have h2:=Nat.le_trans (show X.heap.size≤_ from (show Below X.heap.size X _ from (by repeat (first|with_reducible refine ext_alloc ?_ _|with_reducible refine Below.drew ?_|with_reducible assumption|with_reducible exact ext_refl _))).size) hgo;have h3:=HGx.out.lt;omega)
      have HCH:=Lib.hid hch
      clear hgo hch
      have hbX:Below X.heap.size X V:=ext_call (by repeat (first|with_reducible refine ext_alloc ?_ _|with_reducible refine Below.drew ?_|with_reducible assumption|with_reducible exact ext_refl _)) hbo
      have hv2:Ext2 gl gl X V:=.of_ext hbX
      have hv0:=(HGx.out.ext hbX).cell 0;have hv1:=(HGx.out.ext hbX).cell 1;have vh0:=(HHx.out.ext hbX).cell 0;have vh1:=(HHx.out.ext hbX).cell 1;have vh2:=(HHx.out.ext hbX).cell 2
      have vf0:=(HGx.out.ext hbX).frozen 0;have vf1:=(HGx.out.ext hbX).frozen 1;have vgl:=(HGx.out.ext hbX).lt;have vhl:=(HHx.out.ext hbX).lt
      have vgl1:gl<V.heap.size+1:=by omega
      have vgl2:gl<V.heap.size+1+1:=by omega
      have vgl3:gl<V.heap.size+1+1+1:=by omega
      have vhl1:gh<V.heap.size+1:=by omega
      have vhl2:gh<V.heap.size+1+1:=by omega
      try (have hnb:=(show Blk V X.heap.size 30 #[.int .i64 1,.string cz,.string t] from ((Blk.new X _ _).drew).ext hbo);have nb0:=hnb.cell 0;have nb1:=hnb.cell 1;have nb2:=hnb.cell 2;have nbl:=hnb.lt;have nbl1:X.heap.size<V.heap.size+1:=(by omega);have nbl2:X.heap.size<V.heap.size+1+1:=(by omega);clear hnb)
      clear hbo
      refine hK _ _ ⟨⟨aqKeep HSX.out hv2,fun _=>agKeep HGx.out hbX⟩,?_⟩
      clear hK K
      refine allL [8,15] (by kernel_rfl) (by simp) ?_
      simp only [List.forall_mem_cons,List.not_mem_nil,false_implies,implies_true,and_true]
      refine ⟨?_,?_⟩
      · refine stepL rfl (by rfl) (fun K hK=>?_)
        go_simp
        refine hK _ _ ⟨⟨(aqKeep HSX.out (by repeat (first|with_reducible refine Ext2.alloc ?_ _|with_reducible refine Ext2.drew1 ?_|with_reducible refine Ext2.setA ?_ _ _|with_reducible assumption|with_reducible exact Ext2.refl _ _ _))),fun _=>(agKeep HGx.out (by repeat (first|with_reducible refine ext_alloc ?_ _|with_reducible refine Below.drew ?_|with_reducible assumption|with_reducible exact ext_refl _)))⟩,?_⟩
        clear hK K
        refine allL [9,15] (by kernel_rfl) (by simp) ?_
        simp only [List.forall_mem_cons,List.not_mem_nil,false_implies,implies_true,and_true]
        refine ⟨?_,?_⟩
        · refine stepL rfl (by rfl) (fun K hK=>?_)
          go_simp
          refine hK _ _ ⟨⟨(aqKeep HSX.out (by repeat (first|with_reducible refine Ext2.alloc ?_ _|with_reducible refine Ext2.drew1 ?_|with_reducible refine Ext2.setA ?_ _ _|with_reducible assumption|with_reducible exact Ext2.refl _ _ _))),fun _=>(agKeep HGx.out (by repeat (first|with_reducible refine ext_alloc ?_ _|with_reducible refine Below.drew ?_|with_reducible assumption|with_reducible exact ext_refl _)))⟩,?_⟩
          clear hK K
          refine allL [15] (by kernel_rfl) (by simp) ?_
          simp only [List.forall_mem_cons,List.not_mem_nil,false_implies,implies_true,and_true]
          refine stepL rfl (by rfl) (fun K hK=>?_)
          go_simp
          refine hK _ _ ⟨⟨(aqKeep HSX.out (by repeat (first|with_reducible refine Ext2.alloc ?_ _|with_reducible refine Ext2.drew1 ?_|with_reducible refine Ext2.setA ?_ _ _|with_reducible assumption|with_reducible exact Ext2.refl _ _ _))),fun _=>(agKeep HGx.out (by repeat (first|with_reducible refine ext_alloc ?_ _|with_reducible refine Below.drew ?_|with_reducible assumption|with_reducible exact ext_refl _)))⟩,?_⟩
          clear hK K
          refine allL [16] (by kernel_rfl) (by simp) ?_
          simp only [List.forall_mem_cons,List.not_mem_nil,false_implies,implies_true,and_true]
          refine stepL rfl (by rfl) (fun K hK=>?_)
          go_simp
          refine hK _ _ ⟨⟨(aqKeep HSX.out (by repeat (first|with_reducible refine Ext2.alloc ?_ _|with_reducible refine Ext2.drew1 ?_|with_reducible refine Ext2.setA ?_ _ _|with_reducible assumption|with_reducible exact Ext2.refl _ _ _))),fun _=>(agKeep HGx.out (by repeat (first|with_reducible refine ext_alloc ?_ _|with_reducible refine Below.drew ?_|with_reducible assumption|with_reducible exact ext_refl _)))⟩,?_⟩
          clear hK K
          refine takeF 17 (v:=?_) rfl (by kernel_rfl) (by kernel_rfl) (by kernel_rfl) (by kernel_rfl) (fun _ _ _ h=>h) (Or.inl ⟨by rfl,?_⟩) (aqKeep HSX.out (by repeat (first|with_reducible refine Ext2.alloc ?_ _|with_reducible refine Ext2.drew1 ?_|with_reducible refine Ext2.setA ?_ _ _|with_reducible assumption|with_reducible exact Ext2.refl _ _ _))) (fun _=>(agKeep HGx.out (by repeat (first|with_reducible refine ext_alloc ?_ _|with_reducible refine Below.drew ?_|with_reducible assumption|with_reducible exact ext_refl _)))) ?_
          rotate_left 1
          · (rintro w' ⟨f0,f1,f2,f3,f4,_⟩;go_simp;with_reducible rfl)
          refine takeF 18 (v:=?_) rfl (by kernel_rfl) (by kernel_rfl) (by kernel_rfl) (by kernel_rfl) (fun _ _ _ h=>h) (Or.inl ⟨by rfl,?_⟩) (aqKeep HSX.out (by repeat (first|with_reducible refine Ext2.alloc ?_ _|with_reducible refine Ext2.drew1 ?_|with_reducible refine Ext2.setA ?_ _ _|with_reducible assumption|with_reducible exact Ext2.refl _ _ _))) (fun _=>(agKeep HGx.out (by repeat (first|with_reducible refine ext_alloc ?_ _|with_reducible refine Below.drew ?_|with_reducible assumption|with_reducible exact ext_refl _)))) ?_
          rotate_left 1
          · (rintro w' ⟨f0,f1,f2,f3,f4,_⟩;go_simp;with_reducible rfl)
          refine allL [19] (by kernel_rfl) (by simp) ?_
          simp only [List.forall_mem_cons,List.not_mem_nil,false_implies,implies_true,and_true]
          refine stepL rfl (by rfl) (fun K hK=>?_)
          go_simp
          refine hK _ _ ⟨⟨(aqKeep HSX.out (by repeat (first|with_reducible refine Ext2.alloc ?_ _|with_reducible refine Ext2.drew1 ?_|with_reducible refine Ext2.setA ?_ _ _|with_reducible assumption|with_reducible exact Ext2.refl _ _ _))),fun h=>absurd h (by decide)⟩,?_⟩
          clear hK K
          refine takeF 20 (v:=?_) rfl (by kernel_rfl) (by kernel_rfl) (by kernel_rfl) (by kernel_rfl) (fun _ _ _ h=>h) (Or.inl ⟨by rfl,?_⟩) (aqKeep HSX.out (by repeat (first|with_reducible refine Ext2.alloc ?_ _|with_reducible refine Ext2.drew1 ?_|with_reducible refine Ext2.setA ?_ _ _|with_reducible assumption|with_reducible exact Ext2.refl _ _ _))) (fun h=>absurd h (by decide)) ?_
          rotate_left 1
          · (rintro w' ⟨f0,f1,f2,f3,f4,_⟩;go_simp;with_reducible rfl)
          refine takeF 21 (v:=?_) rfl (by kernel_rfl) (by kernel_rfl) (by kernel_rfl) (by kernel_rfl) (fun _ _ _ h=>h) (Or.inl ⟨by rfl,?_⟩) (aqKeep HSX.out (by repeat (first|with_reducible refine Ext2.alloc ?_ _|with_reducible refine Ext2.drew1 ?_|with_reducible refine Ext2.setA ?_ _ _|with_reducible assumption|with_reducible exact Ext2.refl _ _ _))) (fun h=>absurd h (by decide)) ?_
          rotate_left 1
          · (rintro w' ⟨f0,f1,f2,f3,f4,_⟩;go_simp;with_reducible rfl)
          refine allL [22] (by kernel_rfl) (by simp) ?_
          simp only [List.forall_mem_cons,List.not_mem_nil,false_implies,implies_true,and_true]
          refine stepL rfl (by rfl) (fun K hK=>?_)
          go_simp
          refine hK _ _ ⟨⟨(aqKeep HSX.out (by repeat (first|with_reducible refine Ext2.alloc ?_ _|with_reducible refine Ext2.drew1 ?_|with_reducible refine Ext2.setA ?_ _ _|with_reducible assumption|with_reducible exact Ext2.refl _ _ _))),fun h=>absurd h (by decide)⟩,?_⟩
          clear hK K
          refine doneL (by kernel_rfl) ?_ _
          go_wp2
          go_ret
          refine ⟨rfl,logR_of (by (repeat (first|with_reducible refine Blk.drew ?_|with_reducible refine Blk.alloc ?_ _));exact blk_set2 (HGx.out.ext hbX)) (by first|exact grownCap_ge V.drew 2 1 _|exact grownCap_ge V 2 1 _) (by (repeat (with_reducible refine Blk.drew ?_));exact Blk.new' _ _ _ (by simp)) (by (repeat (first|with_reducible refine Blk.drew ?_|exact Blk.new' _ _ _ (by simp;done)|with_reducible refine Blk.alloc ?_ _));done) (by first|exact grownCap_ge V.drew 1 0 _|exact grownCap_ge V 1 0 _|exact grownCap_ge _ 1 0 _) (HCH.out.ext2 (a:=gl) (a':=gl) (by (repeat (first|with_reducible refine Ext2.alloc ?_ _|with_reducible refine Ext2.drew1 ?_|with_reducible refine Ext2.setA ?_ _ _|with_reducible exact Ext2.refl _ _ _))) HGO.out HGO.out),?_⟩
          refine (Ext2.of_ext (ext_call HE0.out HEx.out)).trans ?_
          repeat (first|with_reducible refine Ext2.alloc ?_ _|with_reducible refine Ext2.drew1 ?_|with_reducible refine Ext2.setA ?_ _ _|with_reducible assumption)
        · refine stepL rfl (by rfl) (fun K hK=>?_)
          go_simp
          refine hK _ _ ⟨⟨(aqKeep HSX.out (by repeat (first|with_reducible refine Ext2.alloc ?_ _|with_reducible refine Ext2.drew1 ?_|with_reducible refine Ext2.setA ?_ _ _|with_reducible assumption|with_reducible exact Ext2.refl _ _ _))),fun _=>(agKeep HGx.out (by repeat (first|with_reducible refine ext_alloc ?_ _|with_reducible refine Below.drew ?_|with_reducible assumption|with_reducible exact ext_refl _)))⟩,?_⟩
          clear hK K
          refine allL [9] (by kernel_rfl) (by simp) ?_
          simp only [List.forall_mem_cons,List.not_mem_nil,false_implies,implies_true,and_true]
          refine stepL rfl (by rfl) (fun K hK=>?_)
          go_simp
          refine hK _ _ ⟨⟨(aqKeep HSX.out (by repeat (first|with_reducible refine Ext2.alloc ?_ _|with_reducible refine Ext2.drew1 ?_|with_reducible refine Ext2.setA ?_ _ _|with_reducible assumption|with_reducible exact Ext2.refl _ _ _))),fun _=>(agKeep HGx.out (by repeat (first|with_reducible refine ext_alloc ?_ _|with_reducible refine Below.drew ?_|with_reducible assumption|with_reducible exact ext_refl _)))⟩,?_⟩
          clear hK K
          refine allL [16] (by kernel_rfl) (by simp) ?_
          simp only [List.forall_mem_cons,List.not_mem_nil,false_implies,implies_true,and_true]
          refine stepL rfl (by rfl) (fun K hK=>?_)
          go_simp
          refine hK _ _ ⟨⟨(aqKeep HSX.out (by repeat (first|with_reducible refine Ext2.alloc ?_ _|with_reducible refine Ext2.drew1 ?_|with_reducible refine Ext2.setA ?_ _ _|with_reducible assumption|with_reducible exact Ext2.refl _ _ _))),fun _=>(agKeep HGx.out (by repeat (first|with_reducible refine ext_alloc ?_ _|with_reducible refine Below.drew ?_|with_reducible assumption|with_reducible exact ext_refl _)))⟩,?_⟩
          clear hK K
          refine takeF 17 (v:=?_) rfl (by kernel_rfl) (by kernel_rfl) (by kernel_rfl) (by kernel_rfl) (fun _ _ _ h=>h) (Or.inl ⟨by rfl,?_⟩) (aqKeep HSX.out (by repeat (first|with_reducible refine Ext2.alloc ?_ _|with_reducible refine Ext2.drew1 ?_|with_reducible refine Ext2.setA ?_ _ _|with_reducible assumption|with_reducible exact Ext2.refl _ _ _))) (fun _=>(agKeep HGx.out (by repeat (first|with_reducible refine ext_alloc ?_ _|with_reducible refine Below.drew ?_|with_reducible assumption|with_reducible exact ext_refl _)))) ?_
          rotate_left 1
          · (rintro w' ⟨f0,f1,f2,f3,f4,_⟩;go_simp;with_reducible rfl)
          refine takeF 18 (v:=?_) rfl (by kernel_rfl) (by kernel_rfl) (by kernel_rfl) (by kernel_rfl) (fun _ _ _ h=>h) (Or.inl ⟨by rfl,?_⟩) (aqKeep HSX.out (by repeat (first|with_reducible refine Ext2.alloc ?_ _|with_reducible refine Ext2.drew1 ?_|with_reducible refine Ext2.setA ?_ _ _|with_reducible assumption|with_reducible exact Ext2.refl _ _ _))) (fun _=>(agKeep HGx.out (by repeat (first|with_reducible refine ext_alloc ?_ _|with_reducible refine Below.drew ?_|with_reducible assumption|with_reducible exact ext_refl _)))) ?_
          rotate_left 1
          · (rintro w' ⟨f0,f1,f2,f3,f4,_⟩;go_simp;with_reducible rfl)
          refine allL [19] (by kernel_rfl) (by simp) ?_
          simp only [List.forall_mem_cons,List.not_mem_nil,false_implies,implies_true,and_true]
          refine stepL rfl (by rfl) (fun K hK=>?_)
          go_simp
          refine hK _ _ ⟨⟨(aqKeep HSX.out (by repeat (first|with_reducible refine Ext2.alloc ?_ _|with_reducible refine Ext2.drew1 ?_|with_reducible refine Ext2.setA ?_ _ _|with_reducible assumption|with_reducible exact Ext2.refl _ _ _))),fun h=>absurd h (by decide)⟩,?_⟩
          clear hK K
          refine takeF 20 (v:=?_) rfl (by kernel_rfl) (by kernel_rfl) (by kernel_rfl) (by kernel_rfl) (fun _ _ _ h=>h) (Or.inl ⟨by rfl,?_⟩) (aqKeep HSX.out (by repeat (first|with_reducible refine Ext2.alloc ?_ _|with_reducible refine Ext2.drew1 ?_|with_reducible refine Ext2.setA ?_ _ _|with_reducible assumption|with_reducible exact Ext2.refl _ _ _))) (fun h=>absurd h (by decide)) ?_
          rotate_left 1
          · (rintro w' ⟨f0,f1,f2,f3,f4,_⟩;go_simp;with_reducible rfl)
          refine takeF 21 (v:=?_) rfl (by kernel_rfl) (by kernel_rfl) (by kernel_rfl) (by kernel_rfl) (fun _ _ _ h=>h) (Or.inl ⟨by rfl,?_⟩) (aqKeep HSX.out (by repeat (first|with_reducible refine Ext2.alloc ?_ _|with_reducible refine Ext2.drew1 ?_|with_reducible refine Ext2.setA ?_ _ _|with_reducible assumption|with_reducible exact Ext2.refl _ _ _))) (fun h=>absurd h (by decide)) ?_
          rotate_left 1
          · (rintro w' ⟨f0,f1,f2,f3,f4,_⟩;go_simp;with_reducible rfl)
          refine allL [22] (by kernel_rfl) (by simp) ?_
          simp only [List.forall_mem_cons,List.not_mem_nil,false_implies,implies_true,and_true]
          refine stepL rfl (by rfl) (fun K hK=>?_)
          go_simp
          refine hK _ _ ⟨⟨(aqKeep HSX.out (by repeat (first|with_reducible refine Ext2.alloc ?_ _|with_reducible refine Ext2.drew1 ?_|with_reducible refine Ext2.setA ?_ _ _|with_reducible assumption|with_reducible exact Ext2.refl _ _ _))),fun h=>absurd h (by decide)⟩,?_⟩
          clear hK K
          refine doneL (by kernel_rfl) ?_ _
          go_wp2
          go_ret
          refine ⟨rfl,logR_of (by (repeat (first|with_reducible refine Blk.drew ?_|with_reducible refine Blk.alloc ?_ _));exact blk_set2 (HGx.out.ext hbX)) (by first|exact grownCap_ge V.drew 2 1 _|exact grownCap_ge V 2 1 _) (by (repeat (with_reducible refine Blk.drew ?_));exact Blk.new' _ _ _ (by simp)) (by (repeat (first|with_reducible refine Blk.drew ?_|exact Blk.new' _ _ _ (by simp;done)|with_reducible refine Blk.alloc ?_ _));done) (by first|exact grownCap_ge V.drew 1 0 _|exact grownCap_ge V 1 0 _|exact grownCap_ge _ 1 0 _) (HCH.out.ext2 (a:=gl) (a':=gl) (by (repeat (first|with_reducible refine Ext2.alloc ?_ _|with_reducible refine Ext2.drew1 ?_|with_reducible refine Ext2.setA ?_ _ _|with_reducible exact Ext2.refl _ _ _))) HGO.out HGO.out),?_⟩
          refine (Ext2.of_ext (ext_call HE0.out HEx.out)).trans ?_
          repeat (first|with_reducible refine Ext2.alloc ?_ _|with_reducible refine Ext2.drew1 ?_|with_reducible refine Ext2.setA ?_ _ _|with_reducible assumption)
      · refine stepL rfl (by rfl) (fun K hK=>?_)
        go_simp
        refine hK _ _ ⟨⟨(aqKeep HSX.out (by repeat (first|with_reducible refine Ext2.alloc ?_ _|with_reducible refine Ext2.drew1 ?_|with_reducible refine Ext2.setA ?_ _ _|with_reducible assumption|with_reducible exact Ext2.refl _ _ _))),fun _=>(agKeep HGx.out (by repeat (first|with_reducible refine ext_alloc ?_ _|with_reducible refine Below.drew ?_|with_reducible assumption|with_reducible exact ext_refl _)))⟩,?_⟩
        clear hK K
        refine allL [8] (by kernel_rfl) (by simp) ?_
        simp only [List.forall_mem_cons,List.not_mem_nil,false_implies,implies_true,and_true]
        refine stepL rfl (by rfl) (fun K hK=>?_)
        go_simp
        refine hK _ _ ⟨⟨(aqKeep HSX.out (by repeat (first|with_reducible refine Ext2.alloc ?_ _|with_reducible refine Ext2.drew1 ?_|with_reducible refine Ext2.setA ?_ _ _|with_reducible assumption|with_reducible exact Ext2.refl _ _ _))),fun _=>(agKeep HGx.out (by repeat (first|with_reducible refine ext_alloc ?_ _|with_reducible refine Below.drew ?_|with_reducible assumption|with_reducible exact ext_refl _)))⟩,?_⟩
        clear hK K
        refine allL [9] (by kernel_rfl) (by simp) ?_
        simp only [List.forall_mem_cons,List.not_mem_nil,false_implies,implies_true,and_true]
        refine stepL rfl (by rfl) (fun K hK=>?_)
        go_simp
        refine hK _ _ ⟨⟨(aqKeep HSX.out (by repeat (first|with_reducible refine Ext2.alloc ?_ _|with_reducible refine Ext2.drew1 ?_|with_reducible refine Ext2.setA ?_ _ _|with_reducible assumption|with_reducible exact Ext2.refl _ _ _))),fun _=>(agKeep HGx.out (by repeat (first|with_reducible refine ext_alloc ?_ _|with_reducible refine Below.drew ?_|with_reducible assumption|with_reducible exact ext_refl _)))⟩,?_⟩
        clear hK K
        refine allL [16] (by kernel_rfl) (by simp) ?_
        simp only [List.forall_mem_cons,List.not_mem_nil,false_implies,implies_true,and_true]
        refine stepL rfl (by rfl) (fun K hK=>?_)
        go_simp
        refine hK _ _ ⟨⟨(aqKeep HSX.out (by repeat (first|with_reducible refine Ext2.alloc ?_ _|with_reducible refine Ext2.drew1 ?_|with_reducible refine Ext2.setA ?_ _ _|with_reducible assumption|with_reducible exact Ext2.refl _ _ _))),fun _=>(agKeep HGx.out (by repeat (first|with_reducible refine ext_alloc ?_ _|with_reducible refine Below.drew ?_|with_reducible assumption|with_reducible exact ext_refl _)))⟩,?_⟩
        clear hK K
        refine takeF 17 (v:=?_) rfl (by kernel_rfl) (by kernel_rfl) (by kernel_rfl) (by kernel_rfl) (fun _ _ _ h=>h) (Or.inl ⟨by rfl,?_⟩) (aqKeep HSX.out (by repeat (first|with_reducible refine Ext2.alloc ?_ _|with_reducible refine Ext2.drew1 ?_|with_reducible refine Ext2.setA ?_ _ _|with_reducible assumption|with_reducible exact Ext2.refl _ _ _))) (fun _=>(agKeep HGx.out (by repeat (first|with_reducible refine ext_alloc ?_ _|with_reducible refine Below.drew ?_|with_reducible assumption|with_reducible exact ext_refl _)))) ?_
        rotate_left 1
        · (rintro w' ⟨f0,f1,f2,f3,f4,_⟩;go_simp;with_reducible rfl)
        refine takeF 18 (v:=?_) rfl (by kernel_rfl) (by kernel_rfl) (by kernel_rfl) (by kernel_rfl) (fun _ _ _ h=>h) (Or.inl ⟨by rfl,?_⟩) (aqKeep HSX.out (by repeat (first|with_reducible refine Ext2.alloc ?_ _|with_reducible refine Ext2.drew1 ?_|with_reducible refine Ext2.setA ?_ _ _|with_reducible assumption|with_reducible exact Ext2.refl _ _ _))) (fun _=>(agKeep HGx.out (by repeat (first|with_reducible refine ext_alloc ?_ _|with_reducible refine Below.drew ?_|with_reducible assumption|with_reducible exact ext_refl _)))) ?_
        rotate_left 1
        · (rintro w' ⟨f0,f1,f2,f3,f4,_⟩;go_simp;with_reducible rfl)
        refine allL [19] (by kernel_rfl) (by simp) ?_
        simp only [List.forall_mem_cons,List.not_mem_nil,false_implies,implies_true,and_true]
        refine stepL rfl (by rfl) (fun K hK=>?_)
        go_simp
        refine hK _ _ ⟨⟨(aqKeep HSX.out (by repeat (first|with_reducible refine Ext2.alloc ?_ _|with_reducible refine Ext2.drew1 ?_|with_reducible refine Ext2.setA ?_ _ _|with_reducible assumption|with_reducible exact Ext2.refl _ _ _))),fun h=>absurd h (by decide)⟩,?_⟩
        clear hK K
        refine takeF 20 (v:=?_) rfl (by kernel_rfl) (by kernel_rfl) (by kernel_rfl) (by kernel_rfl) (fun _ _ _ h=>h) (Or.inl ⟨by rfl,?_⟩) (aqKeep HSX.out (by repeat (first|with_reducible refine Ext2.alloc ?_ _|with_reducible refine Ext2.drew1 ?_|with_reducible refine Ext2.setA ?_ _ _|with_reducible assumption|with_reducible exact Ext2.refl _ _ _))) (fun h=>absurd h (by decide)) ?_
        rotate_left 1
        · (rintro w' ⟨f0,f1,f2,f3,f4,_⟩;go_simp;with_reducible rfl)
        refine takeF 21 (v:=?_) rfl (by kernel_rfl) (by kernel_rfl) (by kernel_rfl) (by kernel_rfl) (fun _ _ _ h=>h) (Or.inl ⟨by rfl,?_⟩) (aqKeep HSX.out (by repeat (first|with_reducible refine Ext2.alloc ?_ _|with_reducible refine Ext2.drew1 ?_|with_reducible refine Ext2.setA ?_ _ _|with_reducible assumption|with_reducible exact Ext2.refl _ _ _))) (fun h=>absurd h (by decide)) ?_
        rotate_left 1
        · (rintro w' ⟨f0,f1,f2,f3,f4,_⟩;go_simp;with_reducible rfl)
        refine allL [22] (by kernel_rfl) (by simp) ?_
        simp only [List.forall_mem_cons,List.not_mem_nil,false_implies,implies_true,and_true]
        refine stepL rfl (by rfl) (fun K hK=>?_)
        go_simp
        refine hK _ _ ⟨⟨(aqKeep HSX.out (by repeat (first|with_reducible refine Ext2.alloc ?_ _|with_reducible refine Ext2.drew1 ?_|with_reducible refine Ext2.setA ?_ _ _|with_reducible assumption|with_reducible exact Ext2.refl _ _ _))),fun h=>absurd h (by decide)⟩,?_⟩
        clear hK K
        refine doneL (by kernel_rfl) ?_ _
        go_wp2
        go_ret
        refine ⟨rfl,logR_of (by (repeat (first|with_reducible refine Blk.drew ?_|with_reducible refine Blk.alloc ?_ _));exact blk_set2 (HGx.out.ext hbX)) (by first|exact grownCap_ge V.drew 2 1 _|exact grownCap_ge V 2 1 _) (by (repeat (with_reducible refine Blk.drew ?_));exact Blk.new' _ _ _ (by simp)) (by (repeat (first|with_reducible refine Blk.drew ?_|exact Blk.new' _ _ _ (by simp;done)|with_reducible refine Blk.alloc ?_ _));done) (by first|exact grownCap_ge V.drew 1 0 _|exact grownCap_ge V 1 0 _|exact grownCap_ge _ 1 0 _) (HCH.out.ext2 (a:=gl) (a':=gl) (by (repeat (first|with_reducible refine Ext2.alloc ?_ _|with_reducible refine Ext2.drew1 ?_|with_reducible refine Ext2.setA ?_ _ _|with_reducible exact Ext2.refl _ _ _))) HGO.out HGO.out),?_⟩
        refine (Ext2.of_ext (ext_call HE0.out HEx.out)).trans ?_
        repeat (first|with_reducible refine Ext2.alloc ?_ _|with_reducible refine Ext2.drew1 ?_|with_reducible refine Ext2.setA ?_ _ _|with_reducible assumption)
    · refine stepL rfl (by rfl) (fun K hK=>?_)
      go_simp
      refine hK _ _ ⟨⟨(aqKeep HSX.out (by repeat (first|with_reducible refine Ext2.alloc ?_ _|with_reducible refine Ext2.drew1 ?_|with_reducible refine Ext2.setA ?_ _ _|with_reducible assumption|with_reducible exact Ext2.refl _ _ _))),fun _=>(agKeep HGx.out (by repeat (first|with_reducible refine ext_alloc ?_ _|with_reducible refine Below.drew ?_|with_reducible assumption|with_reducible exact ext_refl _)))⟩,?_⟩
      clear hK K
      refine allL [7] (by kernel_rfl) (by simp) ?_
      simp only [List.forall_mem_cons,List.not_mem_nil,false_implies,implies_true,and_true]
      refine stepL rfl (by rfl) (fun K hK=>?_)
      go_simp
      go_at_call 52
      refine (HOw.out _ (HCx.out.ext (by repeat (first|with_reducible refine ext_alloc ?_ _|with_reducible refine Below.drew ?_|with_reducible assumption|with_reducible exact ext_refl _)))).mono ?_
      rintro e V ⟨go,d,rfl,hgo,hch,hbo⟩
      have HGO:=Lib.hid (show go≠gl by have h2:=Nat.le_trans (show X.heap.size≤_ from (show Below X.heap.size X _ from (by repeat (first|with_reducible refine ext_alloc ?_ _|with_reducible refine Below.drew ?_|with_reducible assumption|with_reducible exact ext_refl _))).size) hgo;have h3:=HGx.out.lt;omega)
      have HCH:=Lib.hid hch
      clear hgo hch
      have hbX:Below X.heap.size X V:=ext_call (by repeat (first|with_reducible refine ext_alloc ?_ _|with_reducible refine Below.drew ?_|with_reducible assumption|with_reducible exact ext_refl _)) hbo
      have hv2:Ext2 gl gl X V:=.of_ext hbX
      have hv0:=(HGx.out.ext hbX).cell 0;have hv1:=(HGx.out.ext hbX).cell 1;have vh0:=(HHx.out.ext hbX).cell 0;have vh1:=(HHx.out.ext hbX).cell 1;have vh2:=(HHx.out.ext hbX).cell 2
      have vf0:=(HGx.out.ext hbX).frozen 0;have vf1:=(HGx.out.ext hbX).frozen 1;have vgl:=(HGx.out.ext hbX).lt;have vhl:=(HHx.out.ext hbX).lt
      have vgl1:gl<V.heap.size+1:=by omega
      have vgl2:gl<V.heap.size+1+1:=by omega
      have vgl3:gl<V.heap.size+1+1+1:=by omega
      have vhl1:gh<V.heap.size+1:=by omega
      have vhl2:gh<V.heap.size+1+1:=by omega
      try (have hnb:=(show Blk V X.heap.size 30 #[.int .i64 1,.string cz,.string t] from ((Blk.new X _ _).drew).ext hbo);have nb0:=hnb.cell 0;have nb1:=hnb.cell 1;have nb2:=hnb.cell 2;have nbl:=hnb.lt;have nbl1:X.heap.size<V.heap.size+1:=(by omega);have nbl2:X.heap.size<V.heap.size+1+1:=(by omega);clear hnb)
      clear hbo
      refine hK _ _ ⟨⟨aqKeep HSX.out hv2,fun _=>agKeep HGx.out hbX⟩,?_⟩
      clear hK K
      refine allL [8] (by kernel_rfl) (by simp) ?_
      simp only [List.forall_mem_cons,List.not_mem_nil,false_implies,implies_true,and_true]
      refine stepL rfl (by rfl) (fun K hK=>?_)
      go_simp
      refine hK _ _ ⟨⟨(aqKeep HSX.out (by repeat (first|with_reducible refine Ext2.alloc ?_ _|with_reducible refine Ext2.drew1 ?_|with_reducible refine Ext2.setA ?_ _ _|with_reducible assumption|with_reducible exact Ext2.refl _ _ _))),fun _=>(agKeep HGx.out (by repeat (first|with_reducible refine ext_alloc ?_ _|with_reducible refine Below.drew ?_|with_reducible assumption|with_reducible exact ext_refl _)))⟩,?_⟩
      clear hK K
      refine allL [9] (by kernel_rfl) (by simp) ?_
      simp only [List.forall_mem_cons,List.not_mem_nil,false_implies,implies_true,and_true]
      refine stepL rfl (by rfl) (fun K hK=>?_)
      go_simp
      refine hK _ _ ⟨⟨(aqKeep HSX.out (by repeat (first|with_reducible refine Ext2.alloc ?_ _|with_reducible refine Ext2.drew1 ?_|with_reducible refine Ext2.setA ?_ _ _|with_reducible assumption|with_reducible exact Ext2.refl _ _ _))),fun _=>(agKeep HGx.out (by repeat (first|with_reducible refine ext_alloc ?_ _|with_reducible refine Below.drew ?_|with_reducible assumption|with_reducible exact ext_refl _)))⟩,?_⟩
      clear hK K
      refine allL [16] (by kernel_rfl) (by simp) ?_
      simp only [List.forall_mem_cons,List.not_mem_nil,false_implies,implies_true,and_true]
      refine stepL rfl (by rfl) (fun K hK=>?_)
      go_simp
      refine hK _ _ ⟨⟨(aqKeep HSX.out (by repeat (first|with_reducible refine Ext2.alloc ?_ _|with_reducible refine Ext2.drew1 ?_|with_reducible refine Ext2.setA ?_ _ _|with_reducible assumption|with_reducible exact Ext2.refl _ _ _))),fun _=>(agKeep HGx.out (by repeat (first|with_reducible refine ext_alloc ?_ _|with_reducible refine Below.drew ?_|with_reducible assumption|with_reducible exact ext_refl _)))⟩,?_⟩
      clear hK K
      refine takeF 17 (v:=?_) rfl (by kernel_rfl) (by kernel_rfl) (by kernel_rfl) (by kernel_rfl) (fun _ _ _ h=>h) (Or.inl ⟨by rfl,?_⟩) (aqKeep HSX.out (by repeat (first|with_reducible refine Ext2.alloc ?_ _|with_reducible refine Ext2.drew1 ?_|with_reducible refine Ext2.setA ?_ _ _|with_reducible assumption|with_reducible exact Ext2.refl _ _ _))) (fun _=>(agKeep HGx.out (by repeat (first|with_reducible refine ext_alloc ?_ _|with_reducible refine Below.drew ?_|with_reducible assumption|with_reducible exact ext_refl _)))) ?_
      rotate_left 1
      · (rintro w' ⟨f0,f1,f2,f3,f4,_⟩;go_simp;with_reducible rfl)
      refine takeF 18 (v:=?_) rfl (by kernel_rfl) (by kernel_rfl) (by kernel_rfl) (by kernel_rfl) (fun _ _ _ h=>h) (Or.inl ⟨by rfl,?_⟩) (aqKeep HSX.out (by repeat (first|with_reducible refine Ext2.alloc ?_ _|with_reducible refine Ext2.drew1 ?_|with_reducible refine Ext2.setA ?_ _ _|with_reducible assumption|with_reducible exact Ext2.refl _ _ _))) (fun _=>(agKeep HGx.out (by repeat (first|with_reducible refine ext_alloc ?_ _|with_reducible refine Below.drew ?_|with_reducible assumption|with_reducible exact ext_refl _)))) ?_
      rotate_left 1
      · (rintro w' ⟨f0,f1,f2,f3,f4,_⟩;go_simp;with_reducible rfl)
      refine allL [19] (by kernel_rfl) (by simp) ?_
      simp only [List.forall_mem_cons,List.not_mem_nil,false_implies,implies_true,and_true]
      refine stepL rfl (by rfl) (fun K hK=>?_)
      go_simp
      refine hK _ _ ⟨⟨(aqKeep HSX.out (by repeat (first|with_reducible refine Ext2.alloc ?_ _|with_reducible refine Ext2.drew1 ?_|with_reducible refine Ext2.setA ?_ _ _|with_reducible assumption|with_reducible exact Ext2.refl _ _ _))),fun h=>absurd h (by decide)⟩,?_⟩
      clear hK K
      refine takeF 20 (v:=?_) rfl (by kernel_rfl) (by kernel_rfl) (by kernel_rfl) (by kernel_rfl) (fun _ _ _ h=>h) (Or.inl ⟨by rfl,?_⟩) (aqKeep HSX.out (by repeat (first|with_reducible refine Ext2.alloc ?_ _|with_reducible refine Ext2.drew1 ?_|with_reducible refine Ext2.setA ?_ _ _|with_reducible assumption|with_reducible exact Ext2.refl _ _ _))) (fun h=>absurd h (by decide)) ?_
      rotate_left 1
      · (rintro w' ⟨f0,f1,f2,f3,f4,_⟩;go_simp;with_reducible rfl)
      refine takeF 21 (v:=?_) rfl (by kernel_rfl) (by kernel_rfl) (by kernel_rfl) (by kernel_rfl) (fun _ _ _ h=>h) (Or.inl ⟨by rfl,?_⟩) (aqKeep HSX.out (by repeat (first|with_reducible refine Ext2.alloc ?_ _|with_reducible refine Ext2.drew1 ?_|with_reducible refine Ext2.setA ?_ _ _|with_reducible assumption|with_reducible exact Ext2.refl _ _ _))) (fun h=>absurd h (by decide)) ?_
      rotate_left 1
      · (rintro w' ⟨f0,f1,f2,f3,f4,_⟩;go_simp;with_reducible rfl)
      refine allL [22] (by kernel_rfl) (by simp) ?_
      simp only [List.forall_mem_cons,List.not_mem_nil,false_implies,implies_true,and_true]
      refine stepL rfl (by rfl) (fun K hK=>?_)
      go_simp
      refine hK _ _ ⟨⟨(aqKeep HSX.out (by repeat (first|with_reducible refine Ext2.alloc ?_ _|with_reducible refine Ext2.drew1 ?_|with_reducible refine Ext2.setA ?_ _ _|with_reducible assumption|with_reducible exact Ext2.refl _ _ _))),fun h=>absurd h (by decide)⟩,?_⟩
      clear hK K
      refine doneL (by kernel_rfl) ?_ _
      go_wp2
      go_ret
      refine ⟨rfl,logR_of (by (repeat (first|with_reducible refine Blk.drew ?_|with_reducible refine Blk.alloc ?_ _));exact blk_set2 (HGx.out.ext hbX)) (by first|exact grownCap_ge V.drew 2 1 _|exact grownCap_ge V 2 1 _) (by (repeat (with_reducible refine Blk.drew ?_));exact Blk.new' _ _ _ (by simp)) (by (repeat (first|with_reducible refine Blk.drew ?_|exact Blk.new' _ _ _ (by simp;done)|with_reducible refine Blk.alloc ?_ _));done) (by first|exact grownCap_ge V.drew 1 0 _|exact grownCap_ge V 1 0 _|exact grownCap_ge _ 1 0 _) (HCH.out.ext2 (a:=gl) (a':=gl) (by (repeat (first|with_reducible refine Ext2.alloc ?_ _|with_reducible refine Ext2.drew1 ?_|with_reducible refine Ext2.setA ?_ _ _|with_reducible exact Ext2.refl _ _ _))) HGO.out HGO.out),?_⟩
      refine (Ext2.of_ext (ext_call HE0.out HEx.out)).trans ?_
      repeat (first|with_reducible refine Ext2.alloc ?_ _|with_reducible refine Ext2.drew1 ?_|with_reducible refine Ext2.setA ?_ _ _|with_reducible assumption)
end
section
open Go.RowKit Go.Shelf
theorem logLen (gl n c:Nat) (A:Option Addr) (v:Value) (w:World) (h:Blk w gl 115 #[.slice A n c,v]):Calls Tryz.prog 36 #[.pointer (some ⟨gl,0,none⟩)] w fun e w'=>e=.returned (.int .i64 (n:Int))∧w=w':=by
  have h0:w.cell? ⟨gl,0,none⟩=some (.slice A n c):=h.cell 0
  clear h
  go_enter Tryz.func36,Tryz.ntmps36
  go_wp2
  go_ret
  exact ⟨rfl,rfl⟩
theorem srvLog (gs gl:Nat) (w:World) (h:w.cell? ⟨gs,0,none⟩=some (.pointer (some ⟨gl,0,none⟩))):Calls Tryz.prog 35 #[.pointer (some ⟨gs,0,none⟩)] w fun e w'=>e=.returned (.pointer (some ⟨gl,0,none⟩))∧w=w':=by
  go_enter Tryz.func35,Tryz.ntmps35
  go_wp2
  go_ret
  exact ⟨rfl,rfl⟩
theorem srvPos (gs gl n c:Nat) (A:Option Addr) (v:Value) (w:World) (h:w.cell? ⟨gs,0,none⟩=some (.pointer (some ⟨gl,0,none⟩))) (hl:Blk w gl 115 #[.slice A n c,v]) :
    Calls Tryz.prog 6 #[.pointer (some ⟨gs,0,none⟩)] w fun e w'=>e=.returned (.int .i64 (n:Int))∧w=w':=by
  go_enter Tryz.func6,Tryz.ntmps6
  go_wp2_with (first|(go_at_call 35;refine (srvLog gs gl w h).mono ?_;rintro e w' ⟨rfl,rfl⟩)|(go_at_call 36;refine (logLen gl n c A v w hl).mono ?_;rintro e w' ⟨rfl,rfl⟩))
  go_ret
  exact ⟨rfl,rfl⟩
theorem srvTime (gs n c:Nat) (A:Option Addr) (hn:n≤1000000) (w:World) (h:w.cell? ⟨gs,2,none⟩=some (.slice A n c)):Calls Tryz.prog 32 #[.pointer (some ⟨gs,0,none⟩)] w fun e w'=>e=.returned (.int .i64 ((n:Int)-1))∧w=w':=by
  have e1:IntKind.i64.wrap ((n:Int)-1)=(n:Int)-1:=IntWalk.i64_in _ (by omega)
  go_enter Tryz.func32,Tryz.ntmps32
  go_wp2
  go_ret
  exact ⟨rfl,rfl⟩
theorem srvLagOk (gs:Nat) (n:Int) (u:Value) (h0:0≤n) (hn:n≤10000) (w:World) (h:w.cell? ⟨gs,3,none⟩=some u) (hf:w.frozen? ⟨gs,3,none⟩=false) :
    Calls Tryz.prog 31 #[.pointer (some ⟨gs,0,none⟩),.int .i64 n] w fun e w'=>e=.returned (.int .i64 0)∧w.setCell ⟨gs,3,none⟩ (.int .i64 n)=w':=by
  go_enter Tryz.func31,Tryz.ntmps31
  go_wp2
  go_ret
  exact ⟨rfl,rfl⟩
theorem srvAtNo (gs n c:Nat) (A:Option Addr) (t:Int) (ht:t<0∨(n:Int)≤t) (w:World) (h:w.cell? ⟨gs,2,none⟩=some (.slice A n c)):Calls Tryz.prog 33 #[.pointer (some ⟨gs,0,none⟩),.int .i64 t] w fun e w'=>e=.returned (.int .i64 (-1))∧w=w':=by
  by_cases h0:t<0
  · go_enter Tryz.func33,Tryz.ntmps33
    go_wp2
    go_ret
    exact ⟨rfl,rfl⟩
  · have h1:(n:Int)≤t:=by omega
    go_enter Tryz.func33,Tryz.ntmps33
    go_wp2
    go_ret
    exact ⟨rfl,rfl⟩
theorem srvAtYes (gs n c k gp:Nat) (p:Int) (hk:k<n) (w:World) (h:w.cell? ⟨gs,2,none⟩=some (.slice (some ⟨gp,0,none⟩) n c)) (hp:w.cell? ⟨gp,k,none⟩=some (.int .i64 p)) :
    Calls Tryz.prog 33 #[.pointer (some ⟨gs,0,none⟩),.int .i64 (k:Int)] w fun e w'=>e=.returned (.int .i64 p)∧w=w':=by
  have q0:(0:Int)≤(k:Int):=by omega
  have q1:(k:Int)<(n:Int):=by omega
  have d1:decide ((n:Int)≤(k:Int))=false:=by simp;omega
  go_enter Tryz.func33,Tryz.ntmps33
  go_wp2
  go_ret
  exact ⟨rfl,rfl⟩
end
section
open Go.RowKit Go.Shelf
theorem getNone (gs gm:Nat) (pos:Int) (w:World) (hS:StateIs w false gs gm pos):Calls Tryz.prog 108 #[.pointer (some ⟨gs,0,none⟩),.int .i64 0,.int .i64 5] w fun e w'=>e=.returned (.tuple #[.agg #[.int .i64 0,.int .i64 0,.int .i64 0,.int .i64 0,.int .i64 0],.bool false])∧Below w.heap.size w w':=by
  have HS0:=Lib.hid (StateIs.ext hS (ext_new w (.cells #[.int .i64 0,.int .i64 0,.int .i64 0,.int .i64 0,.int .i64 0] 108)))
  clear hS
  have s0:=HS0.out.1.cell 0
  have gl:=HS0.out.1.lt
  have hlk:=lookup_none (P:=Tryz.prog) (k:=.agg #[.int .i64 0,.int .i64 5]) (w:=w.alloc (.cells #[.int .i64 0,.int .i64 0,.int .i64 0,.int .i64 0,.int .i64 0] 108)) Tryz.underlying95 HS0.out.2 (id_check true _) Tryz.underlying106 (row_zero _)
  go_enter Tryz.func108,Tryz.ntmps108
  go_wp2
  exact bodyPost_ret (v:=.tuple #[.agg #[.int .i64 0,.int .i64 0,.int .i64 0,.int .i64 0,.int .i64 0],.bool false]) (by simp [results,Tryz.results108,go_sem]) rfl ⟨rfl,by repeat (first|with_reducible refine ext_set ?_ (by simp) _|with_reducible refine ext_alloc ?_ _|with_reducible exact ext_refl _)⟩
theorem getOne (gs gm:Nat) (pos:Int) (w:World) (hS:StateIs w true gs gm pos):Calls Tryz.prog 108 #[.pointer (some ⟨gs,0,none⟩),.int .i64 0,.int .i64 5] w fun e w'=>e=.returned (.tuple #[.agg #[.int .i64 0,.int .i64 5,.int .i64 1,.int .i64 2,.int .i64 3],.bool true])∧Below w.heap.size w w':=by
  have HS0:=Lib.hid (StateIs.ext hS (ext_new w (.cells #[.int .i64 0,.int .i64 0,.int .i64 0,.int .i64 0,.int .i64 0] 108)))
  clear hS
  have s0:=HS0.out.1.cell 0
  have gl:=HS0.out.1.lt
  have hlk:=lookup_some (P:=Tryz.prog) (k:=.agg #[.int .i64 0,.int .i64 5]) (v:=.agg #[.int .i64 0,.int .i64 5,.int .i64 1,.int .i64 2,.int .i64 3]) (i:=0) (w:=w.alloc (.cells #[.int .i64 0,.int .i64 0,.int .i64 0,.int .i64 0,.int .i64 0] 108)) Tryz.underlying95 HS0.out.2 (id_check false _) (by kernel_rfl)
  go_enter Tryz.func108,Tryz.ntmps108
  go_wp2
  exact bodyPost_ret (v:=.tuple #[.agg #[.int .i64 0,.int .i64 5,.int .i64 1,.int .i64 2,.int .i64 3],.bool true]) (by simp [results,Tryz.results108,go_sem]) rfl ⟨rfl,by repeat (first|with_reducible refine ext_set ?_ (by simp) _|with_reducible refine ext_alloc ?_ _|with_reducible exact ext_refl _)⟩
end
section
open Go.RowKit Go.Shelf
theorem keep3B {X W:World} {p q r:Addr} {x y z:Value} (h:X.cell? p=some x∧X.cell? q=some y∧X.cell? r=some z) (k:Below X.heap.size X W):W.cell? p=some x∧W.cell? q=some y∧W.cell? r=some z∧Below X.heap.size X W:=
  ⟨cell_ext h.1 k,cell_ext h.2.1 k,cell_ext h.2.2 k,k⟩
theorem blk_head4 {W:World} {g:Nat} {t:TypeId} {a0 a1 a2 a3 a4 a5 a6 a7 a8 a9 u2 u3 u4 u5:Value} {zs:Array Value} (h:Blk W g t (#[a0,a1,a2,a3,a4,a5,a6,a7,a8,a9]++zs)) :
    Blk ((((W.setCell ⟨g,2,none⟩ u2).setCell ⟨g,3,none⟩ u3).setCell ⟨g,4,none⟩ u4).setCell ⟨g,5,none⟩ u5) g t (#[a0,a1,u2,u3,u4,u5,a6,a7,a8,a9]++zs):=by
  have h1:=(((h.set_ 2 u2).set_ 3 u3).set_ 4 u4).set_ 5 u5
  simpa [Array.setIfInBounds_append] using h1
theorem keep3E {X W:World} {p q r:Addr} {x y z:Value} (h:W.cell? p=some x∧W.cell? q=some y∧W.cell? r=some z∧Below X.heap.size X W):Below X.heap.size X W:=h.2.2.2
theorem filled_any (had:Bool) (r0 r1 o0 o1 o2:Int) (gs gl gst b c n cl:Nat) (A:Option Addr) (v:Value) (hn:n≤1000) (w:World) (h0:w.cell? ⟨gs,0,none⟩=some (.pointer (some ⟨gl,0,none⟩))) (h1:w.cell? ⟨gs,1,none⟩=some (.pointer (some ⟨gst,0,none⟩)))
    (hl:Blk w gl 115 #[.slice A n cl,v]) (hB:HeadB w b #[.int .i64 0,.int .i64 5,.bool false,.int .i64 0,.int .i64 0,.int .i64 0,.bool true,.int .i64 1,.int .i64 2,.int .i64 3])
    (hG:∀ W,Below w.heap.size w W→Calls Tryz.prog 108 #[.pointer (some ⟨gst,0,none⟩),.int .i64 0,.int .i64 5] W fun e w'=>e=.returned (.tuple #[.agg #[.int .i64 r0,.int .i64 r1,.int .i64 o0,.int .i64 o1,.int .i64 o2],.bool had])∧Below W.heap.size W w') :
    Calls Tryz.prog 65 #[.pointer (some ⟨gs,0,none⟩),.slice (some ⟨b,0,none⟩) 1 c] w fun e w'=>∃ g d zs,e=.returned (.agg #[.int .i64 ((n:Int)+1),.slice (some ⟨g,0,none⟩) 1 d]) ∧
      Blk w' g 62 (#[.int .i64 0,.int .i64 5,.bool had,.int .i64 o0,.int .i64 o1,.int .i64 o2,.bool true,.int .i64 1,.int .i64 2,.int .i64 3]++zs)∧Below w.heap.size w w':=by
  have e1:IntKind.i64.wrap ((n:Int)+1)=(n:Int)+1:=IntWalk.i64_in _ (by omega)
  obtain ⟨W0,hW0⟩:∃ W0,W0=w.alloc (.cells #[.int .i64 0,.slice none 0 0] 43):=⟨_,rfl⟩
  have HE0:=Lib.hid (show Below w.heap.size w W0 by rw [hW0];exact ext_new _ _)
  have HR0:=Lib.hid (show Blk W0 w.heap.size 43 #[.int .i64 0,.slice none 0 0] by rw [hW0];exact Blk.new _ _ _)
  have HW0:=Lib.hid hW0
  have H0:=Lib.hid (cell_ext h0 HE0.out)
  have H1:=Lib.hid (cell_ext h1 HE0.out)
  have HL:=Lib.hid (hl.ext HE0.out)
  have HB:=Lib.hid (hB.ext HE0.out)
  have HG:=Lib.hid hG
  clear hW0 h0 h1 hl hB hG
  go_enter Tryz.func65,Tryz.ntmps65
  go_upto_region 1 with (fail)
  rw [← HW0.out]
  go_wp2_with fail
  refine (srvPos gs gl n cl A v W0 H0.out HL.out).mono ?_
  rintro e w' ⟨rfl,hw'⟩
  subst w'
  go_wp2_with fail
  refine (cloneChgB b c W0 HB.out).mono ?_
  rintro e W1 ⟨g,d,zs,rfl,hg,hb,hb1⟩
  have HG1:=Lib.hid hb
  have HE1:=Lib.hid hb1
  have hge:=hg
  clear hb hb1 hg
  go_wp2
  obtain ⟨X,hX⟩:∃ X,X=W1.alloc (.cells #[.int .i64 ((n:Int)+1),.slice (some ⟨g,0,none⟩) 1 d] 43):=⟨_,rfl⟩
  rw [← hX]
  have HRX:=Lib.hid (show Blk X W1.heap.size 43 #[.int .i64 ((n:Int)+1),.slice (some ⟨g,0,none⟩) 1 d] by rw [hX];exact Blk.new _ _ _)
  have HGX:=Lib.hid (show Blk X g 62 (#[.int .i64 0,.int .i64 5,.bool false,.int .i64 0,.int .i64 0,.int .i64 0,.bool true,.int .i64 1,.int .i64 2,.int .i64 3]++zs) by rw [hX];exact HG1.out.alloc _)
  have HEX:=Lib.hid (show Below w.heap.size w X by rw [hX];exact ext_alloc (ext_call HE0.out HE1.out) _)
  have HXW:=Lib.hid (show Below W0.heap.size W0 X by rw [hX];exact ext_alloc HE1.out _)
  have h0X:=cell_ext H0.out (show Below W0.heap.size W0 X by rw [hX];exact ext_alloc HE1.out _)
  have h1X:=cell_ext H1.out (show Below W0.heap.size W0 X by rw [hX];exact ext_alloc HE1.out _)
  have hgX:g<W1.heap.size:=HG1.out.lt
  clear hX HG1 HE1
  have x0:=HRX.out.cell 0
  have x1:=HRX.out.cell 1
  have HHX:HeadB X g #[.int .i64 0,.int .i64 5,.bool false,.int .i64 0,.int .i64 0,.int .i64 0,.bool true,.int .i64 1,.int .i64 2,.int .i64 3]:=.of2 HGX.out
  have c0:=HHX.cell 0
  have c1:=HHX.cell 1
  have HK:=Lib.hid (show X.cell? ⟨gs,1,none⟩=some (.pointer (some ⟨gst,0,none⟩))∧X.cell? ⟨g,0,none⟩=some (.int .i64 0)∧X.cell? ⟨g,1,none⟩=some (.int .i64 5) from ⟨h1X,c0,c1⟩)
  refine wp_loop_rounds 2 ?_
  rw [rounds_succ]
  go_upto_region 6 with (fail)
  go_region_held3 (fun w'=>w'.cell? ⟨gs,1,none⟩=some (.pointer (some ⟨gst,0,none⟩))∧w'.cell? ⟨g,0,none⟩=some (.int .i64 0)∧w'.cell? ⟨g,1,none⟩=some (.int .i64 5)∧Below X.heap.size X w')
    (first|with_reducible assumption|exact keep3B HK.out (by repeat (first|with_reducible refine ext_alloc ?_ _|with_reducible refine Below.drew ?_|with_reducible assumption|with_reducible exact ext_refl _|refine ext_set ?_ (Nat.le_refl _) _)))
    (first|(go_at_call 108;(with_reducible refine (HG.out _ ?_).mono ?_);(exact ext_call HEX.out (keep3E (by assumption)));rintro e Z ⟨rfl,hb'⟩;have hXZ:=ext_call (keep3E (by assumption)) hb';try (have hbx:=(show Blk Z X.heap.size 108 #[.int .i64 0,.int .i64 0,.int .i64 0,.int .i64 0,.int .i64 0] from ((Blk.new X _ _).drew).ext hb');have bx0:=hbx.cell 0;have bf0:=hbx.frozen 0;have bx1:=hbx.cell 1;have bf1:=hbx.frozen 1;have bx2:=hbx.cell 2;have bf2:=hbx.frozen 2;have bx3:=hbx.cell 3;have bf3:=hbx.frozen 3;have bx4:=hbx.cell 4;have bf4:=hbx.frozen 4;have HBX:=Lib.hid hbx;clear hbx)))
  all_goals
    clear h0X h1X x0 x1 c0 c1 HHX
    first
    | (generalize hV:(World.setCell (World.setCell (World.setCell (World.setCell (World.setCell Z ⟨X.heap.size,0,none⟩ (.int .i64 r0)) ⟨X.heap.size,1,none⟩ (.int .i64 r1)) ⟨X.heap.size,2,none⟩ (.int .i64 o0)) ⟨X.heap.size,3,none⟩ (.int .i64 o1)) ⟨X.heap.size,4,none⟩ (.int .i64 o2))=V
       have HBv:=Lib.hid (show Blk V X.heap.size 108 #[.int .i64 r0,.int .i64 r1,.int .i64 o0,.int .i64 o1,.int .i64 o2] by subst hV;exact (((((HBX.out.set_ 0 _).set_ 1 _).set_ 2 _).set_ 3 _).set_ 4 _))
       have HEv:=Lib.hid (show Below X.heap.size X V by subst hV;exact (ext_set (ext_set (ext_set (ext_set (ext_set hXZ (Nat.le_refl _) _) (Nat.le_refl _) _) (Nat.le_refl _) _) (Nat.le_refl _) _) (Nat.le_refl _) _))
       clear bx0 bf0 bx1 bf1 bx2 bf2 bx3 bf3 bx4 bf4 hV HBX hb' hXZ
       obtain ⟨rb,hrr⟩:∃ rb,rb=X.heap.size:=⟨_,rfl⟩
       rw [← hrr] at HBv ⊢
       have hrb:X.heap.size≤rb:=by omega)
    | (generalize hV:World.alloc Z (.cells #[.int .i64 r0,.int .i64 r1,.int .i64 o0,.int .i64 o1,.int .i64 o2] 108)=V
       have HBv:=Lib.hid (show Blk V Z.heap.size 108 #[.int .i64 r0,.int .i64 r1,.int .i64 o0,.int .i64 o1,.int .i64 o2] by subst hV;exact Blk.new _ _ _)
       have HEv:=Lib.hid (show Below X.heap.size X V by subst hV;exact ext_alloc hXZ _)
       have hrb:X.heap.size≤Z.heap.size:=hXZ.size
       clear hV hb' hXZ
       generalize hrr:Z.heap.size=rb at HBv hrb ⊢)
    clear hrr
    have hxg:g<X.heap.size:=HGX.out.lt
    have hne:¬ rb=g:=by omega
    have hne':¬ g=rb:=by omega
    clear hxg
    have HGv:=Lib.hid (HGX.out.ext HEv.out)
    have HRv:=Lib.hid (HRX.out.ext HEv.out)
    have hgh:HeadB V g #[.int .i64 0,.int .i64 5,.bool false,.int .i64 0,.int .i64 0,.int .i64 0,.bool true,.int .i64 1,.int .i64 2,.int .i64 3]:=.of2 HGv.out
    have c2:=hgh.cell 2
    have c3:=hgh.cell 3
    have c4:=hgh.cell 4
    have c5:=hgh.cell 5
    have f2:=HGv.out.frozen 2
    have f3:=HGv.out.frozen 3
    have f4:=HGv.out.frozen 4
    have f5:=HGv.out.frozen 5
    have y2:=HBv.out.cell 2
    have y3:=HBv.out.cell 3
    have y4:=HBv.out.cell 4
    clear hgh
    go_upto_region 7 with (fail)
    go_region
    have hg1:w.heap.size<W0.heap.size:=HR0.out.lt
    have hg2:W1.heap.size≠g:=by omega
    have hg3:w.heap.size≠g:=by omega
    have HGu:=Lib.hid (Blk.drew (blk_head4 (u2:=.bool had) (u3:=.int .i64 o0) (u4:=.int .i64 o1) (u5:=.int .i64 o2) HGv.out))
    have HRu:=Lib.hid (Blk.drew ((((HRv.out.far hg2 (.bool had) (p:=⟨g,2,none⟩)).far hg2 (.int .i64 o0) (p:=⟨g,3,none⟩)).far hg2 (.int .i64 o1) (p:=⟨g,4,none⟩)).far hg2 (.int .i64 o2) (p:=⟨g,5,none⟩)))
    generalize hU:((((V.setCell ⟨g,2,none⟩ (.bool had)).setCell ⟨g,3,none⟩ (.int .i64 o0)).setCell ⟨g,4,none⟩ (.int .i64 o1)).setCell ⟨g,5,none⟩ (.int .i64 o2)).drew=U at HGu HRu ⊢
    have HEu:=Lib.hid (show Below w.heap.size w U by rw [← hU];exact (ext_set (ext_set (ext_set (ext_set (ext_call HEX.out HEv.out) (Nat.le_of_lt (Nat.lt_of_lt_of_le hg1 hge)) _) (Nat.le_of_lt (Nat.lt_of_lt_of_le hg1 hge)) _) (Nat.le_of_lt (Nat.lt_of_lt_of_le hg1 hge)) _) (Nat.le_of_lt (Nat.lt_of_lt_of_le hg1 hge)) _).drew)
    have HZu:=Lib.hid (show Blk U w.heap.size 43 #[.int .i64 0,.slice none 0 0] by
      have h1:Blk X w.heap.size 43 #[.int .i64 0,.slice none 0 0]:=HR0.out.ext (HXW.out)
      rw [← hU]
      exact Blk.drew ((((h1.ext HEv.out).far hg3 (.bool had) (p:=⟨g,2,none⟩)).far hg3 (.int .i64 o0) (p:=⟨g,3,none⟩)).far hg3 (.int .i64 o1) (p:=⟨g,4,none⟩) |>.far hg3 (.int .i64 o2) (p:=⟨g,5,none⟩)))
    clear hU c2 c3 c4 c5 f2 f3 f4 f5 y2 y3 y4
    have x0:=HRu.out.cell 0
    have x1:=HRu.out.cell 1
    have z0:=HZu.out.cell 0
    have z1:=HZu.out.cell 1
    have zf0:=HZu.out.frozen 0
    have zf1:=HZu.out.frozen 1
    go_wp2
    rw [rounds_succ]
    go_wp2
    have hBf:=(HZu.out.set_ 0 (.int .i64 ((n:Int)+1))).set_ 1 (.slice (some ⟨g,0,none⟩) 1 d)
    have y0:=hBf.cell 0;have y1:=hBf.cell 1
    refine bodyPost_ret (v:=.agg #[.int .i64 ((n:Int)+1),.slice (some ⟨g,0,none⟩) 1 d]) (by simp [results,Tryz.results65,go_sem,y0,y1]) rfl ⟨g,d,zs,rfl,?_,?_⟩
    · exact (HGu.out.far hg3.symm (p:=⟨w.heap.size,0,none⟩) _).far hg3.symm (p:=⟨w.heap.size,1,none⟩) _
    · exact ext_set (ext_set HEu.out (Nat.le_refl _) _) (Nat.le_refl _) _
end
end Go.Proofs.YtnajpjnnlocfgaaGreatDoor
