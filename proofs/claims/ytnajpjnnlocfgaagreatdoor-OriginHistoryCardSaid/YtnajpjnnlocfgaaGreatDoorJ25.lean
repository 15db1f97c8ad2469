/-
  statetree.orders, summaries, Root at any state of at most 60 valid rows: the digest of the rows.
-/
import Derived.Test.YtnajpjnnlocfgaaGreatDoorJ24
import Derived.Test.YtnajpjnnlocfgaaGreatDoorJ9
import Derived.Test.YtnajpjnnlocfgaaGreatDoorJ3
set_option linter.unusedSimpArgs false
set_option linter.unusedVariables false
set_option maxHeartbeats 4000000
set_option maxRecDepth 100000
namespace Go.Proofs.YtnajpjnnlocfgaaGreatDoor
open Go.RowKit Go.Shelf
section
attribute [local go_sem] Oper.semAt_some
def OrdCS (rs:List RowT) (Bs gs gm:Nat) (pos:Int) (W:World):Prop:=W.cell? ⟨Bs,0,none⟩=some (.pointer (some ⟨gs,0,none⟩))∧StateR W gs gm pos rs
def OrdMS (rs:List RowT) (k:Nat) (xs:Array Value) (W:World):Prop:=∃ v1 v2,xs=#[.agg #[v1,v2]]∧OrderS rs ((k / 4:Nat):Int) (k % 4) W v1 v2
theorem ordersS_in (n:Nat) (hn:1≤n) (rs:List RowT) (hrs:∀ r ∈ rs,r.ok) (hsz:rs.length≤1000) (hap:Apart rs) (l Bs gs gm:Nat) (pos:Int) (J:Nat→World→Prop) (hC:∀ k W,J k W→OrdCS rs Bs gs gm pos W) (hA:∀ k A B,J k A→Below A.heap.size A B→J k B)
    (hY:∀ k xs W1,k<16→J k W1→OrdMS rs k xs W1→YieldAt Fence.wide (n-1) Tryz.prog l xs W1 fun e W'=>e=.returned (.bool true)∧J (k+1) W')
    (W:World) (h0:J 0 W) :
    CallsIn Fence.wide n Tryz.prog 127 #[.func (.yield l) #[] #[],.pointer (some ⟨Bs,0,none⟩)] W (OrdPost J):=by
  have HC:=Lib.hid hC
  have HA:=Lib.hid hA
  have HY:=Lib.hid hY
  clear hC hA hY
  refine callsIn_of_wp Tryz.func127 rfl trivial ?_ rfl
  simp only [Tryz.ntmps127,List.size_toArray,List.length_cons,List.length_nil,Nat.reduceAdd,Nat.reduceSub,Array.replicate_succ,Array.replicate_zero,List.push_toArray,List.append_toArray,List.nil_append,List.cons_append]
  gi_wp2
  gi_loopw [5] (fun i wr=>∃ t:Nat,t≤4∧i=.int .i64 (t:Int)∧J (4*t) wr) (fun i _=>(4-intOf i).toNat)
  case atStart=>exact ⟨0,Nat.zero_le _,by simp,h0⟩
  case round=>
    obtain ⟨t,ht,rfl,hJt⟩:=hrel
    by_cases hlt:t<4
    · have hlt':(t:Int)<4:=by omega
      gi_wp2
      gi_loopw [8] (fun i wr=>∃ c:Nat,c≤4∧i=.int .i64 (c:Int)∧J (4*t+c) wr) (fun i _=>(4-intOf i).toNat)
      case atStart=>exact ⟨0,Nat.zero_le _,by simp,hJt⟩
      case round=>
        obtain ⟨c,hc,rfl,hJc⟩:=hrel
        by_cases hlc:c<4
        · have hlc':(c:Int)<4:=by omega
          have HJc:=Lib.hid hJc
          have cs:=(HC.out _ _ hJc).1
          clear hJc
          gi_wp2_with fail
          refine ⟨trivial,(callsIn_wide.2 (orderS rs hrs gs gm c pos (t:Int) hlc wr (HC.out _ _ HJc.out).2 hsz hap)).mono ?_⟩
          rintro e W1 ⟨v1,v2,rfl,hO1,hb1⟩
          obtain ⟨fn,tmps,assign,body,hy,hR⟩:=HY.out (4*t+c) #[.agg #[v1,v2]] W1 (by omega) (HA.out _ _ _ HJc.out hb1) ⟨v1,v2,rfl,by rw [show (4*t+c) / 4=t by omega,show (4*t+c) % 4=c by omega];exact hO1⟩
          clear hO1 hb1 cs
          gi_wp2
          refine hR.mono ?_
          rintro e W3 ⟨rfl,hJ3⟩
          have HJ3:=Lib.hid hJ3
          clear hJ3
          gi_wp2
          go_roundw
          case rel=>exact ⟨c+1,by omega,by go_num,HJ3.out⟩
          case measure=>simp [intOf];omega
        · have hlc':¬ (c:Int)<4:=by omega
          have HJt:=Lib.hid (show J (4*(t+1)) wr by rw [show 4*(t+1)=4*t+c by omega];exact hJc)
          clear hJc
          gi_wp2
          go_roundw
          case rel=>exact ⟨t+1,by omega,by go_num,HJt.out⟩
          case measure=>simp [intOf];omega
    · have hlt':¬ (t:Int)<4:=by omega
      have HJt:=Lib.hid (show J 16 wr by rw [show 16=4*t by omega];exact hJt)
      clear hJt
      gi_wp2
      go_end0
      exact ⟨⟨_,rfl⟩,HJt.out⟩
theorem ordersS_seq (n:Nat) (hn:1≤n) (rs:List RowT) (hrs:∀ r ∈ rs,r.ok) (hsz:rs.length≤1000) (hap:Apart rs) (Bs gs gm:Nat) (pos:Int) :
    SeqMem n Tryz.prog 127 #[.pointer (some ⟨Bs,0,none⟩)] 16 (OrdCS rs Bs gs gm pos) (OrdMS rs):=
  fun l J W hC hA hY h0=>ordersS_in n hn rs hrs hsz hap l Bs gs gm pos J hC hA hY W h0
end
section
attribute [local go_sem] run_semAt
attribute [local go_sem high] app_sem
theorem OwnP.rowsL {B:Nat} {v:Value} {l:List RowT}:OwnP B (fun W=>RowsL W v l):=fun _ X Y row hs hg hr=>by
  obtain ⟨A,c,rfl,h⟩:=hs
  refine ⟨A,c,rfl,fun h0=>?_⟩
  obtain ⟨g,hA,hlt,hc⟩:=h h0
  refine ⟨g,hA,Nat.lt_of_lt_of_le hlt hg.size,fun j r hj i hi=>?_⟩
  have h1:=hc j r hj i hi
  rw [List.getElem?_eq_getElem (show i<(encR r).length from hi)] at h1 ⊢
  exact cell_kept h1 hg (fun r e=>(hr r e).2)
theorem OwnP.orderS {B:Nat} {rs:List RowT} {t:Int} {j:Nat} {v1 v2:Value}:OwnP B (fun W=>OrderS rs t j W v1 v2):=OwnP.and OwnP.rowsL OwnP.strs
theorem orderS_slices {rs:List RowT} {t:Int} {j:Nat} {W:World} {v1 v2:Value} (h:OrderS rs t j W v1 v2):∃ A1 n1 c1 A2 n2 c2,v1=.slice A1 n1 c1∧v2=.slice A2 n2 c2:=by
  obtain ⟨⟨A,c,rfl,_⟩,⟨A2,c2,rfl,_⟩⟩:=h
  exact ⟨_,_,_,_,_,_,rfl,rfl⟩
def sumF1 (rs:List RowT) (k:Nat):ByteArray:=byteS (2*(ordS rs ((k / 4:Nat):Int) (k % 4)).length)++rootF (ordS rs ((k / 4:Nat):Int) (k % 4))
def sumsF (rs:List RowT):List ByteArray:=(List.range 16).map (sumF1 rs)
def stRootF (rs:List RowT):ByteArray:=rootF (sumsF rs)
theorem sumF1_size (rs:List RowT) (k:Nat):(sumF1 rs k).size≤40:=by
  unfold sumF1
  rw [ByteArray.size_append,rootF_size,byteS_size]
  omega
def SumsS (rs:List RowT) (w:World) (gs gm:Nat) (pos:Int) (k:Nat) (W:World):Prop:=
  (∃ L:List ByteArray,L=(List.range k).map (sumF1 rs)∧∃ v,Boxed W w.heap.size 44 v∧W.ownsRow w.heap.size 9 1 v k (L.map Value.string)∧True)∧Below w.heap.size w W∧Blk W (w.heap.size+1) 33 #[.pointer (some ⟨gs,0,none⟩)]∧StateR W gs gm pos rs∧RoundOK W
theorem SumsS.own (rs:List RowT) (w:World) (gs gm:Nat) (pos:Int) (k B:Nat) (hB:w.heap.size≤B) (hg:gm<B):OwnP B (SumsS rs w gs gm pos k):=
  OwnP.and (fun _ X Y row hs h1 h2=>by
      obtain ⟨L,hL,hv⟩:=hs
      exact ⟨L,hL,(Own.from (holdsRow_own w.heap.size w.heap.size 44 9 1 (fun _:Unit=>k) (fun _:Unit=>L.map Value.string) (fun _ _=>True)) B) () X Y row hv h1 h2⟩)
    (OwnP.and (OwnP.below (Nat.le_refl _) hB) (OwnP.and OwnP.blk (OwnP.and (OwnP.stateR hg) OwnP.round)))
theorem sumsS_round {rs:List RowT} {w W W1 W2 W':World} {gs gm k B:Nat} {pos:Int} {v:Value} (hS:StateR w gs gm pos rs) (hR:RoundOK w) (hI:Below w.heap.size w W1∧Blk W1 (w.heap.size+1) 33 #[.pointer (some ⟨gs,0,none⟩)]∧StateR W1 gs gm pos rs∧RoundOK W1)
    (h1:Below W.heap.size W W1) (h2:Below W1.heap.size W1 W2) (hk:KeepsOthers W2 W') (hb:Below w.heap.size W2 W') (L:List ByteArray) (hL:L=(List.range (k+1)).map (sumF1 rs)) (hv:Boxed W' w.heap.size 44 v) (hr:W'.ownsRow w.heap.size 9 1 v (k+1) (L.map Value.string))
    (ho:Blk W' (w.heap.size+1) 33 #[.pointer (some ⟨gs,0,none⟩)]):KeepsFrom B W W'∧SumsS rs w gs gm pos (k+1) W':=by
  have hE:Below w.heap.size w W':=(ext_call hI.1 h2).trans hb
  exact ⟨(((keeps_below h1).trans (keeps_below h2)).trans hk).from _,⟨L,hL,v,hv,hr,trivial⟩,hE,ho,hS.ext hE,hR.below hE⟩
theorem summariesS (rs:List RowT) (hrs:∀ r ∈ rs,r.ok) (hsz:rs.length≤60) (hap:Apart rs) (gs gm:Nat) (pos:Int) (w:World) (hS:StateR w gs gm pos rs) (hR:RoundOK w) :
    Calls Tryz.prog 40 #[.pointer (some ⟨gs,0,none⟩)] w fun e w'=>∃ v,e=.returned v∧Strs (fun b=>w.heap.size≤b) w' v (sumsF rs)∧Below w.heap.size w w':=by
  have HS:=Lib.hid hS
  have HR:=Lib.hid hR
  have hgm:=hS.2.lt
  obtain ⟨is,his,hzs0,hzs1,hzs2⟩:=info_parts str_info
  clear hS hR
  refine (callsIn_wide (n:=3)).1 (callsIn_of_wp_marks Tryz.func40 rfl trivial (wpIn_wide.2 ?_) rfl)
  simp only [Tryz.ntmps40,List.size_toArray,List.length_cons,List.length_nil,Nat.reduceAdd,Nat.reduceSub,Array.replicate_succ,Array.replicate_zero,List.push_toArray,List.append_toArray,List.nil_append,List.cons_append]
  go_wp2_with (go_at_call 75;refine (orders_any gs _).mono ?_;rintro e W2 ⟨rfl,rfl⟩)
  have hE0:Below w.heap.size w ((w.alloc (.cells #[.slice none 0 0] 44)).alloc (.cells #[.pointer (some ⟨gs,0,none⟩)] 33)):=ext_alloc (ext_new _ _) _
  have hI0:SumsS rs w gs gm pos 0 ((w.alloc (.cells #[.slice none 0 0] 44)).alloc (.cells #[.pointer (some ⟨gs,0,none⟩)] 33)):=
    ⟨⟨[],rfl,_,(Boxed.new _ _ _).alloc _,World.ownsRow_nil _ _ _ _,trivial⟩,hE0,Blk.new' _ _ _ (by simp),HS.out.ext hE0,HR.out.below hE0⟩
  refine (wpIn_wide (n:=3)).1 ?_
  refine' wpIn_mem_box2 (by omega) (gf:=127) (lb:=#[.pointer (some ⟨w.heap.size+1,0,none⟩)]) (by simp [Act.eval]) (enters_of Tryz.func127 (by kernel_rfl) rfl)
    (M:=fun k v1 v2 W=>OrderS rs ((k / 4:Nat):Int) (k % 4) W v1 v2) (ordersS_seq 2 (by omega) rs hrs (by omega) hap (w.heap.size+1) gs gm pos) rfl
    (SumsS rs w gs gm pos) (fun k=>SumsS.own rs w gs gm pos k _ (by simp;omega) (by simp;omega)) (fun k W h=>⟨h.2.2.1.cell 0,h.2.2.2.1⟩) hI0 (fun k v1 v2=>OwnP.orderS) (fun k v1 v2 W h=>orderS_slices h) 162 _ ?assign ?body ?done
  case assign=>
    intro l h A1 n1 c1 A2 n2 c2 W K hh hK
    gi_wp2
    rw [← hh]
    exact hK
  case body=>
    rintro l h k A1 n1 c1 A n0 c W hk hsz' hh hB ⟨-,hstr⟩ ⟨⟨L,hLl,v,hv,hrow,_⟩,hb,hcs,hst,hro⟩
    have hSUM:sumF1 rs k=byteS (2*(ordS rs ((k / 4:Nat):Int) (k % 4)).length)++rootF (ordS rs ((k / 4:Nat):Int) (k % 4)):=rfl
    have hsl:=ordS_length rs ((k / 4:Nat):Int) (k % 4)
    have hss:=ordS_size rs ((k / 4:Nat):Int) (k % 4)
    obtain ⟨ss,hss9⟩:∃ ss,ss=ordS rs ((k / 4:Nat):Int) (k % 4):=⟨_,rfl⟩
    rw [← hss9] at hstr hSUM hsl hss
    clear hss9
    have HStr:=Lib.hid hstr
    have hE1:ss.length<64:=by omega
    have HEl:=Lib.hid (show ∀ x ∈ ss,x.size≤100000 by intro x hx;have:=hss x hx;omega)
    have HLL:=Lib.hid hLl
    have HLen:=Lib.hid (show L.length=k by rw [hLl];simp)
    obtain rfl:n0=ss.length:=by
      obtain ⟨A',c',h',_⟩:=hstr
      injection h'
    obtain ⟨n,hn⟩:∃ n,n=ss.length:=⟨_,rfl⟩
    rw [← hn] at HStr hE1 hB hSUM ⊢
    have HSUM:=Lib.hid hSUM
    clear hSUM
    have HN:=Lib.hid hn
    clear hn hstr hsl hss hLl
    have HB:=Lib.hid hB
    have HV:=Lib.hid hv
    have HRow:=Lib.hid hrow
    have HI:=Lib.hid (And.intro hb (And.intro hcs (And.intro hst hro)))
    have h0:=hB.cell 0
    have h1:=hB.cell 1
    have hl:=hB.lt
    clear hB hv hrow hb hcs hst hro
    gi_wp2_with fail
    refine ⟨trivial,(CallsIn.inRound l (callsIn_wide.2 (putInt_any n (by omega) W))).mono ?_⟩
    rintro e W1 ⟨rfl,hb1⟩
    have HB1:=Lib.hid (HB.out.ext hb1)
    have HV1:=Lib.hid (HV.out.kept (below_grown hb1) (by simp))
    have HRow1:=Lib.hid (own_below HRow.out hb1)
    have HI1:=Lib.hid (show Below w.heap.size w W1∧Blk W1 (w.heap.size+1) 33 #[.pointer (some ⟨gs,0,none⟩)]∧StateR W1 gs gm pos rs∧RoundOK W1 from ⟨ext_call HI.out.1 hb1,HI.out.2.1.ext hb1,HI.out.2.2.1.ext hb1,HI.out.2.2.2.below hb1⟩)
    have HK1:=Lib.hid hb1
    have HRoot:=Lib.hid (show ∀ X:World,Below W1.heap.size W1 X→Calls Tryz.prog 39 #[.slice A n c] X fun e w'=>e=.returned (.string (rootF ss))∧Below X.heap.size X w' from
      fun X hX=>root_any (fun _=>True) _ _ X ((HStr.out.below HK1.out).below hX) (by rw [← HN.out];omega) HEl.out (HI1.out.2.2.2.below hX))
    have hrz:=rootF_size ss
    generalize rootF ss=rt at *
    have hb9:=byteS_size (2*n)
    have hsum:(byteS (2*n)).size+rt.size≤9223372036854775807:=by rw [byteS_size];omega
    generalize byteS (2*n)=s1 at *
    have HSUM2:=Lib.hid HSUM.out
    have hcat:=fun W:World=>run_string_add_sum (P:=Tryz.prog) (w:=W) s1 rt hsum
    have HT40:=Lib.hid (show (s1++rt).size≤40 by rw [ByteArray.size_append];omega)
    clear h0 h1 hl hb1 hrz
    have h1:=HB1.out.cell 1
    have hl:=HB1.out.lt
    have hv:=HV1.out.cell
    have hvf:=HV1.out.frozen
    have hvl:=HV1.out.lt
    gi_wp2
    have hz1:w.heap.size≤W1.heap.size:=HI1.out.1.size
    gi_region_with (refine ⟨trivial,(CallsIn.inRound l (callsIn_wide.2 (HRoot.out _ ?_))).mono ?_⟩;(exact (ext_refl _).drew);rintro e W2 ⟨rfl,hb2⟩;obtain ⟨hok,g3,cap3,W3,hav,haw,hv3,hv4,hr4,hk4,hb4,ho4⟩:=sums_after (s1++rt) (HV1.out.kept (below_grown (undrew hb2)) (by simp)) (own_below HRow1.out (undrew hb2)) (Nat.le_trans hz1 (undrew hb2).size) (Nat.le_refl _) (Nat.lt_trans hk (by decide));have c2:=(cell_ext hv (undrew hb2));have hvl2:w.heap.size<W2.heap.size:=lt_of_cell c2;have c3:=hv3.cell;have f3:=hv3.frozen;have HV4:=Lib.hid hv4;have HR4:=Lib.hid hr4;have HK4:=Lib.hid hk4;have HB4:=Lib.hid hb4;have HO4:=Lib.hid ho4;have HB2:=Lib.hid (undrew hb2);clear hb2 hv3 hv4 hr4 hk4 hb4 ho4)
    all_goals
      refine sumsS_round HS.out HR.out HI1.out HK1.out HB2.out HK4.out HB4.out (L++[s1++rt]) (by rw [List.range_succ,List.map_append,← HLL.out,List.map_singleton,HSUM.out]) HV4.out ?_ (HO4.out _ _ _ (HI1.out.2.1.ext HB2.out) (by decide) (by omega))
      rw [List.map_append]
      exact HR4.out
  case done=>
    rintro D W hD ⟨⟨L,hLl,v,hv,hrow,_⟩,hb,hcs,hst,hro⟩ hK
    obtain rfl:L=sumsF rs:=hLl
    have hLl:(sumsF rs).length=16:=by simp [sumsF]
    have HLL:=Lib.hid hLl
    clear hLl
    have hvc:=hv.cell
    have HRow:=Lib.hid hrow
    have HBe:=Lib.hid hb
    clear hrow hb hcs hst hro
    go_wp2
    refine ⟨by simp,.inl ⟨_,_,rfl,run_takeDeferred hK,?_⟩⟩
    refine ⟨_,results_tmp rfl _ _ _,_,rfl,?_,?_⟩
    · obtain ⟨g,cap,rfl⟩:=ownsRow_succ HRow.out
      refine ⟨_,cap,by rw [HLL.out];rfl,?_,fun _=>⟨g,0,rfl,?_,fun j x hx=>?_⟩⟩
      · rw [HLL.out];exact own_cap HRow.out
      · exact (HRow.out.lt g rfl).1
      · have h1:=HRow.out.cells (g:=g) rfl j (.string x) (by rw [List.getElem?_map,hx];rfl)
        rw [add_lit0] at h1
        rw [Nat.zero_add]
        refine cell_kept h1 (grownBy_putObj' W D _) (fun r e=>?_)
        injection e with e
        subst e
        exact ⟨_,hK,rfl⟩
    · exact ext_put HBe.out (by simp at hD;omega) _
end
theorem stateRootS (rs:List RowT) (hrs:∀ r ∈ rs,r.ok) (hsz:rs.length≤60) (hap:Apart rs) (gs gm:Nat) (pos:Int) (w:World) (hS:StateR w gs gm pos rs) (hR:RoundOK w) :
    Calls Tryz.prog 10 #[.pointer (some ⟨gs,0,none⟩)] w fun e w'=>e=.returned (.string (stRootF rs))∧Below w.heap.size w w':=by
  have HS:=Lib.hid (summariesS rs hrs hsz hap gs gm pos w hS hR)
  have HR:=Lib.hid hR
  obtain ⟨sf,hsf⟩:∃ sf,sf=stRootF rs:=⟨_,rfl⟩
  obtain ⟨L,hL⟩:∃ L,L=sumsF rs:=⟨_,rfl⟩
  have HL1:=Lib.hid (show L.length≤10000 by rw [hL];simp [sumsF])
  have HL2:=Lib.hid (show ∀ x ∈ L,x.size≤100000 by rw [hL];intro x hx;obtain ⟨k,_,rfl⟩:=List.mem_map.1 hx;have:=sumF1_size rs k;omega)
  have HSF:=Lib.hid (show rootF L=sf by rw [hL,hsf];rfl)
  rw [← hsf]
  rw [← hL] at HS
  clear hS hR hrs hsz hsf hL
  go_enter Tryz.func10,Tryz.ntmps10
  go_wp2_with fail
  refine HS.out.mono ?_
  rintro e W1 ⟨v,rfl,hs1,hb1⟩
  have hrt:=root_any _ v _ W1 hs1 HL1.out HL2.out (HR.out.below hb1)
  rw [HSF.out] at hrt
  have HRT:=Lib.hid hrt
  have HB1:=Lib.hid hb1
  clear hrt
  clear hs1 hb1
  go_wp2_with fail
  refine HRT.out.mono ?_
  rintro e W2 ⟨rfl,hb2⟩
  go_wp2
  go_ret
  exact ⟨rfl,ext_call HB1.out hb2⟩
end Go.Proofs.YtnajpjnnlocfgaaGreatDoor
