/-
  package store: chosen and Range at any state: the rows of the range, in order.
-/
import Derived.Test.YtnajpjnnlocfgaaGreatDoorJ22
import Derived.Test.YtnajpjnnlocfgaaGreatDoorJ9
set_option linter.unusedSimpArgs false
set_option linter.unusedVariables false
set_option maxHeartbeats 4000000
set_option maxRecDepth 100000
namespace Go.Proofs.YtnajpjnnlocfgaaGreatDoor
open Go.RowKit Go.Shelf
attribute [local go_sem ↓] app_exec app_sem Go.wp_at_zero Go.wp_at_succ
def decV:Value→RowT
  | .agg #[.int _ t,.int _ k,.int _ a,.int _ b,.int _ c]=>⟨t,k,a,b,c⟩
  | _=>zeroR
theorem decV_val (r:RowT):decV (.agg #[.int .i64 r.t,.int .i64 r.k,.int .i64 r.a,.int .i64 r.b,.int .i64 r.c])=r:=rfl
def leftR (es:Array MapEntry) (seen:Array Nat) (t:Int) (j:Nat) (lo hi:Int):List RowT:=((leftOf es seen).toList.map fun e=>decV e.val).filter fun r=>hitR r t j lo hi
theorem leftR_start {es:Array MapEntry} {rs:List RowT} {t:Int} {j:Nat} {lo hi:Int} (h:es.toList.map (fun e=>(e.key,e.val))=rs.map (fun r=>(r.keyV,r.val))):([]++leftR es #[] t j lo hi).Perm (rs.filter fun r=>hitR r t j lo hi):=by
  have h1:es.toList.map (fun e=>decV e.val)=rs:=by
    have h2:=congrArg (List.map fun p:Value × Value=>decV p.2) h
    rw [List.map_map,List.map_map] at h2
    have h3:rs.map ((fun p:Value × Value=>decV p.2) ∘ fun r=>(r.keyV,r.val))=rs:=by
      conv=>rhs;rw [← List.map_id rs]
      exact List.map_congr_left fun r _=>decV_val r
    rw [h3] at h2
    exact h2
  have h4:(leftOf es #[]).toList=es.toList:=by simp [leftOf]
  rw [List.nil_append,leftR,h4,h1]
theorem leftR_none {es:Array MapEntry} {seen:Array Nat} {t:Int} {j:Nat} {lo hi:Int} (h:(leftOf es seen).size=0):leftR es seen t j lo hi=[]:=by
  have h1:leftOf es seen=#[]:=Array.eq_empty_of_size_eq_zero h
  rw [leftR,h1]
  rfl
theorem leftOf_perm {es:Array MapEntry} {seen:Array Nat} {e:MapEntry} (hn:(es.toList.map (·.born)).Nodup) (he:e ∈ (leftOf es seen).toList):(leftOf es seen).toList.Perm (e::(leftOf es (seen.push e.born)).toList):=by
  unfold leftOf at *
  rw [Array.toList_filter] at *
  rw [Array.toList_filter]
  generalize es.toList=l at *
  induction l with
  | nil=>simp at he
  | cons x l ih=>
    rw [List.map_cons,List.nodup_cons] at hn
    have hother:∀ y ∈ l,y.born=e.born→¬ e=x:=fun y hy h1 h2=>by subst h2;exact hn.1 (List.mem_map.2 ⟨y,hy,h1⟩)
    by_cases hx:e=x
    · subst hx
      have h1:(!seen.contains e.born)=true:=(List.mem_filter.1 he).2
      rw [List.filter_cons,if_pos h1,List.filter_cons,if_neg (by simp)]
      refine List.Perm.cons e ?_
      rw [List.filter_congr (fun y hy=>?_)]
      have h3:y.born≠e.born:=fun h4=>hother y hy h4 rfl
      simp [h3]
    · have he2:e ∈ l.filter (fun e => !seen.contains e.born):=by
        rw [List.filter_cons] at he
        split at he
        · rcases List.mem_cons.1 he with h|h
          · exact absurd h hx
          · exact h
        · exact he
      have ih2:=ih hn.2 he2
      have hb:x.born≠e.born:=fun h4=>hn.1 (List.mem_map.2 ⟨e,(List.mem_filter.1 he2).1,h4.symm⟩)
      by_cases hc:(!seen.contains x.born)=true
      · have hc2:(!(seen.push e.born).contains x.born)=true:=by simp at hc ⊢;exact ⟨hc,hb⟩
        rw [List.filter_cons,if_pos hc,List.filter_cons,if_pos hc2]
        exact (List.Perm.cons x ih2).trans (List.Perm.swap e x _)
      · have hc2:¬ (!(seen.push e.born).contains x.born)=true:=by
          intro h;apply hc;simp at h ⊢;exact h.1
        rw [List.filter_cons,if_neg hc,List.filter_cons,if_neg hc2]
        exact ih2
theorem leftR_push {es:Array MapEntry} {seen:Array Nat} {e:MapEntry} {r:RowT} {t:Int} {j:Nat} {lo hi:Int} (hn:(es.toList.map (·.born)).Nodup) (he:e ∈ (leftOf es seen).toList) (hv:e.val=.agg #[.int .i64 r.t,.int .i64 r.k,.int .i64 r.a,.int .i64 r.b,.int .i64 r.c]) :
    (leftR es seen t j lo hi).Perm (if hitR r t j lo hi=true then r::leftR es (seen.push e.born) t j lo hi else leftR es (seen.push e.born) t j lo hi):=by
  have h1:=((leftOf_perm hn he).map fun e=>decV e.val).filter fun r=>hitR r t j lo hi
  rw [List.map_cons,hv,decV_val,List.filter_cons] at h1
  exact h1
theorem chosenS (rs:List RowT) (gs gm b1 b2 b3 b4 j:Nat) (pos t lo hi:Int) (hj:j<4) (w:World) (hS:StateR w gs gm pos rs) (hsz:rs.length≤1000) (hap:Apart rs) (hB:Boxes w b1 b2 b3 b4 j t lo hi) :
    Calls Tryz.prog 210 #[.pointer (some ⟨gs,0,none⟩),.int .i64 (j:Int),.func (.func 211) #[] #[.pointer (some ⟨b1,0,none⟩),.pointer (some ⟨b2,0,none⟩),.pointer (some ⟨b3,0,none⟩),.pointer (some ⟨b4,0,none⟩)]] w
      fun e w'=>∃ v,e=.returned v∧RowsL w' v (selF rs t j lo hi)∧Below w.heap.size w w':=by
  obtain ⟨hst,es,c,hm,hnd,hlt,hmap⟩:=hS
  have hes:es.size=rs.length:=by
    have:=congrArg List.length hmap
    simpa using this
  have hmf:∀ (fn:Fn) (first cap:Array Value) (w:World),(Instr.makeFunc fn first cap).run Tryz.prog w=.ok (.func fn first cap) w:=fun _ _ _ _=>rfl
  have hE0:=ext_new w (.cells #[.int .i64 (j:Int)] 3)
  have s0:=(hst.ext hE0).cell 0
  have hrg:=range_map (P:=Tryz.prog) Tryz.underlying95 (hm.ext hE0)
  have HM:=Lib.hid hm
  have HB:=Lib.hid hB
  have HMAP:=Lib.hid hmap
  have HND:=Lib.hid hnd
  have HLT:=Lib.hid hlt
  have HES:=Lib.hid hes
  have HAP:=Lib.hid hap
  have hgm:=hm.lt
  have hgs:=hst.lt
  clear hst hm hnd hlt hmap hB hE0 hap
  go_enter Tryz.func210,Tryz.ntmps210
  go_wp2
  generalize hW1:(w.alloc (.cells #[.int .i64 (j:Int)] 3)).alloc (.mapIter (some gm) c #[] c)=W1
  have HE1:=Lib.hid (show Below w.heap.size w W1 by subst hW1;exact ext_alloc (ext_new _ _) _)
  have HI1:=Lib.hid (show W1.heap[w.heap.size+1]? = some (.mapIter (some gm) c #[] c) by
    subst hW1
    rw [← World.size_alloc w (.cells #[.int .i64 (j:Int)] 3)];exact World.alloc_heap_new _ _)
  have HC1:=Lib.hid (show Blk W1 w.heap.size 3 #[.int .i64 (j:Int)] by subst hW1;exact (Blk.new _ _ _).alloc _)
  have hs1:W1.heap.size=w.heap.size+2:=by subst hW1;simp
  clear hW1 s0 hrg
  go_loopw [7,9] (fun z _ W=>∃ (seen:Array Nat) (l:List RowT),W.ownsRow (w.heap.size+2) 108 5 z l.length (rc l)∧(l++leftR es seen t j lo hi).Perm (rs.filter fun r=>hitR r t j lo hi)∧l.length+(leftOf es seen).size≤es.size∧W.heap[w.heap.size+1]? = some (.mapIter (some gm) c seen c)∧Blk W w.heap.size 3 #[.int .i64 (j:Int)]∧Below w.heap.size w W) (fun _ _ W=>leftN (w.heap.size+1) es W)
  case atStart=>
    exact ⟨#[],[],World.ownsRow_nil _ _ _ _,leftR_start HMAP.out,by simpa [leftOf] using Array.size_filter_le,HI1.out,HC1.out,HE1.out⟩
  case round=>
    obtain ⟨seen,l,ho,hin,hcnt,hit,hcb,hE⟩:=hrel
    have HO:=Lib.hid ho
    have HIN:=Lib.hid hin
    have HCNT:=Lib.hid hcnt
    have HE:=Lib.hid hE
    have HCB:=Lib.hid hcb
    have HIT:=Lib.hid hit
    have hws:=hE.size
    have hsz2:w.heap.size+2≤wr.heap.size:=by have:=(Array.getElem?_eq_some_iff.1 hit).1;omega
    have hmw:=HM.out.ext hE
    rcases run_next_at (P:=Tryz.prog) wr 0 (w.heap.size+1) gm c c seen es c hit hmw HLT.out (Nat.le_refl _) with ⟨h0,hrun⟩|⟨e,he,w1,hw1,hrun⟩
    · have hnx:∀ t,(Instr.next (.pointer (some ⟨w.heap.size+1,0,none⟩)) false t).run Tryz.prog wr=.ok (.tuple #[.bool false]) wr:=fun t=>hrun
      have HIN2:=Lib.hid (show l.Perm (rs.filter fun r=>hitR r t j lo hi) by have h9:=HIN.out;rw [leftR_none h0,List.append_nil] at h9;exact h9)
      clear hin hcnt hE hcb hit hrun hmw h0
      have HLEN:=Lib.hid (show l.length≤rs.length by have:=HCNT.out;have:=HES.out;omega)
      by_cases hl0:l.length=0
      · obtain ⟨A,cc,hsh⟩:=own_shape ho
        subst hsh
        have HL0:=Lib.hid hl0
        rw [hl0] at ho
        clear ho
        rw [hl0]
        go_wp2_with (go_at_call 232;refine (sort_none _ _ _ _).mono ?_;rintro e w' ⟨⟨u,rfl⟩,rfl⟩)
        go_ret
        refine ⟨_,rfl,?_,HE.out⟩
        have hl9:=List.eq_nil_of_length_eq_zero HL0.out
        have hs9:selF rs t j lo hi=[]:=by
          rw [← selF_eq (l:=l) HAP.out HIN2.out (by rw [hl9];exact List.Pairwise.nil)]
          exact hl9
        rw [hs9]
        exact ⟨A,cc,rfl,fun h=>absurd h (by simp)⟩
      · obtain ⟨g,cap,cur,hsh,hg,hblk⟩:=own_blk ho (by omega)
        subst hsh
        have HR:=Lib.hid (show RowsC wr g l from fun jj r hr i hi=>by
          have h1:=rc_at l jj r hr i hi
          rw [List.getElem?_eq_getElem (show i<(encR r).length from hi)] at h1 ⊢
          have h2:=ho.cells (g:=g) rfl _ _ h1
          rw [add_lit0] at h2
          exact h2)
        have HBLK:=Lib.hid hblk
        have HNE:=Lib.hid (show w.heap.size≠g by omega)
        have HGG:=Lib.hid hg
        clear ho hblk hg
        have HL0:=Lib.hid hl0
        clear hl0
        go_wp2_with (go_at_call 232;refine (sortRowsS l g cap j w.heap.size hj wr (HCB.out.cell 0) HNE.out HR.out (fun i=>HBLK.out.frozen i) HBLK.out.lt (by have:=HLEN.out;omega)).mono ?_;rintro e w' ⟨⟨u,rfl⟩,l',hp,hso,hr',hsw,hbw⟩;have HSO:=Lib.hid hso;have HSW:=Lib.hid hsw;clear hsw;have HP:=Lib.hid hp;have HR':=Lib.hid hr';have HBW:=Lib.hid hbw;clear hp hr' hbw hso)
        go_ret
        have hE9:=HBW.out w HE.out (by have:=HGG.out;omega)
        have hlen:=HP.out.length_eq
        have hs9:=selF_eq (l:=l') HAP.out (HP.out.trans HIN2.out) HSO.out
        refine ⟨_,rfl,?_,hE9⟩
        rw [← hs9]
        refine ⟨some ⟨g,0,none⟩,cap,by rw [hlen];rfl,fun _=>⟨g,rfl,?_,HR'.out⟩⟩
        have h9:=HSW.out
        have:=HBLK.out.lt
        omega
    · obtain ⟨r,hr,hkey,hval⟩:=entry_row HMAP.out (by have h1:=he;unfold leftOf at h1;simp at h1;simpa using h1.1:e ∈ es.toList)
      have HR:=Lib.hid hr
      obtain ⟨W1,hW1⟩:∃ W1,W1=w1.putObj (w.heap.size+1) (.mapIter (some gm) c (seen.push e.born) c):=⟨_,rfl⟩
      have hrun':∀ t,(Instr.next (.pointer (some ⟨w.heap.size+1,0,none⟩)) false t).run Tryz.prog wr=.ok (.tuple #[.bool true,r.keyV,.agg #[.int .i64 r.t,.int .i64 r.k,.int .i64 r.a,.int .i64 r.b,.int .i64 r.c]]) W1:=fun t=>by
        rw [hW1,← hkey,← hval]
        exact hrun
      have hE1':Below w.heap.size w w1:=by rcases hw1 with rfl|rfl;exact hE;exact hE.drew
      have ho1:w1.ownsRow (w.heap.size+2) 108 5 u7 l.length (rc l):=by rcases hw1 with rfl|rfl;exact ho;exact ho
      have hi1:w.heap.size+1<w1.heap.size:=by rcases hw1 with rfl|rfl;exact (Array.getElem?_eq_some_iff.1 hit).1;exact (Array.getElem?_eq_some_iff.1 hit).1
      have hc1:Blk w1 w.heap.size 3 #[.int .i64 (j:Int)]:=by rcases hw1 with rfl|rfl;exact hcb;exact hcb
      have HEW:=Lib.hid (show Below w.heap.size w W1 by rw [hW1];exact ext_put hE1' (by omega) _)
      have HOW:=Lib.hid (show W1.ownsRow (w.heap.size+2) 108 5 u7 l.length (rc l) by rw [hW1];exact iter_step ho1 (by omega))
      have HIW:=Lib.hid (show W1.heap[w.heap.size+1]? = some (.mapIter (some gm) c (seen.push e.born) c) by rw [hW1];exact World.putObj_heap_same hi1)
      have HCW:=Lib.hid (show Blk W1 w.heap.size 3 #[.int .i64 (j:Int)] by rw [hW1];exact hc1.putObj _ (by omega))
      have HLF:=Lib.hid (leftOf_push es seen e he)
      have HLP:=Lib.hid (leftR_push (t:=t) (j:=j) (lo:=lo) (hi:=hi) HND.out he hval)
      have hmem:e ∈ es.toList:=by have h1:=he;unfold leftOf at h1;simp at h1;simpa using h1.1
      have hent:=run_entry_at (P:=Tryz.prog) W1 (w.heap.size+1) gm c seen es c e HIW.out (HM.out.ext HEW.out) hmem HND.out
      rw [hkey,hval] at hent
      have HX:=Lib.hid (fun W:World=>isInR r b1 b2 b3 b4 j t lo hi hj W)
      have HRW:=Lib.hid (show leftN (w.heap.size+1) es wr=(leftOf es seen).size by unfold leftN;rw [hit])
      have HRC:=Lib.hid (rc_append l r)
      obtain ⟨r0,r1,r2,r3,r4⟩:=r
      dsimp only at hrun' hent HX
      have hs3:w.heap.size+2≤W1.heap.size:=by have:=(Array.getElem?_eq_some_iff.1 HIW.out).1;omega
      clear ho hin hcnt hE hcb hit hrun hmw hkey hval hE1' ho1 hi1 hc1 hW1 hw1 hmem he hr
      have HBX:=Lib.hid (HB.out.ext HEW.out)
      have HRX:=Lib.hid (Blk.new W1 108 #[.int .i64 r0,.int .i64 r1,.int .i64 r2,.int .i64 r3,.int .i64 r4])
      go_wp2_with fail
      refine (HX.out _ (HBX.out.ext (ext_new _ _))).mono ?_
      rintro e' W3 ⟨rfl,hb3⟩
      have hX3:=HRX.out.ext hb3
      have x0:=hX3.cell 0;have x1:=hX3.cell 1;have x2:=hX3.cell 2;have x3:=hX3.cell 3;have x4:=hX3.cell 4
      have xl:=hX3.lt
      have HE3:=Lib.hid (ext_call (ext_alloc HEW.out (.cells #[.int .i64 r0,.int .i64 r1,.int .i64 r2,.int .i64 r3,.int .i64 r4] 108)) hb3)
      have HI3:=Lib.hid (heap_ext (heap_ext HIW.out (ext_new W1 (.cells #[.int .i64 r0,.int .i64 r1,.int .i64 r2,.int .i64 r3,.int .i64 r4] 108))) hb3)
      have HC3:=Lib.hid ((HCW.out.alloc (.cells #[.int .i64 r0,.int .i64 r1,.int .i64 r2,.int .i64 r3,.int .i64 r4] 108)).ext hb3)
      have HO3:=Lib.hid (own_ext (HOW.out.alloc (.cells #[.int .i64 r0,.int .i64 r1,.int .i64 r2,.int .i64 r3,.int .i64 r4] 108)) hb3)
      have hs4:w.heap.size+2≤W3.heap.size:=by have:=hb3.size;simp at this;omega
      clear hb3 hX3 hrun' hent HBX HRX HIW HCW HOW
      obtain ⟨hb,hbb⟩:∃ hb,hb=hitR ⟨r0,r1,r2,r3,r4⟩ t j lo hi:=⟨_,rfl⟩
      rw [← hbb]
      have HBB:=Lib.hid hbb
      clear hbb
      cases hb with
      | false=>
        go_wp2
        go_roundw
        case rel=>exact ⟨seen.push e.born,l,HO3.out,by have h9:=HLP.out;rw [if_neg (by rw [← HBB.out];decide)] at h9;exact (List.Perm.append_left l h9.symm).trans HIN.out,by have:=HCNT.out;have:=HLF.out;omega,HI3.out,HC3.out,HE3.out⟩
        case measure=>
          have h9:leftN (w.heap.size+1) es W3=(leftOf es (seen.push e.born)).size:=by unfold leftN;rw [HI3.out]
          rw [h9,HRW.out]
          exact HLF.out
      | true=>
        obtain ⟨ha,W4,hW4,v4,hv4,ho4,hg4⟩:=appRow W3 (w.heap.size+2) hs4 u7 l.length (rc l) HO3.out (by have:=HCNT.out;have:=HES.out;omega) ⟨r0,r1,r2,r3,r4⟩
        dsimp only at ha hW4 hv4 hg4
        have HO4:=Lib.hid ho4
        have hown:u7.ownBlock=none∨∃ g,u7.ownBlock=some g∧w.heap.size+2≤g:=by
          rcases HO3.out.2 with ⟨h1,_⟩|⟨g,cap,cur,h1,h2,_⟩
          · exact .inl (by rw [h1];rfl)
          · exact .inr ⟨g,by rw [h1];rfl,h2⟩
        have HE4:=Lib.hid ((ext_alloc HE3.out (.cells #[.int .i64 r0,.int .i64 r1,.int .i64 r2,.int .i64 r3,.int .i64 r4] 108)).grown hg4 (ext_alloc HE3.out (.cells #[.int .i64 r0,.int .i64 r1,.int .i64 r2,.int .i64 r3,.int .i64 r4] 108)).size (fun k e=>by rcases hown with h|⟨g,h,h2⟩ <;> rw [h] at e;cases e;have e2:=Option.some.inj e;omega))
        have HC4:=Lib.hid ((HC3.out.alloc (.cells #[.int .i64 r0,.int .i64 r1,.int .i64 r2,.int .i64 r3,.int .i64 r4] 108)).grown hg4 (by rcases hown with h|⟨g,h,h2⟩ <;> rw [h];simp;intro h3;have h4:=Option.some.inj h3;omega))
        have HI4:=Lib.hid (show W4.heap[w.heap.size+1]? = some (.mapIter (some gm) c (seen.push e.born) c) by
          rw [hg4.block (w.heap.size+1) (by simp;omega) (by rcases hown with h|⟨g,h,h2⟩ <;> rw [h];simp;intro h3;have h4:=Option.some.inj h3;omega)]
          exact heap_ext HI3.out (ext_new W3 _))
        clear ho4 hg4 hown
        go_wp2
        go_roundw
        case rel=>exact ⟨seen.push e.born,l++[⟨r0,r1,r2,r3,r4⟩],by rw [HRC.out,List.length_append];exact HO4.out,by have h9:=HLP.out;rw [if_pos HBB.out.symm] at h9;rw [List.append_assoc,List.singleton_append];exact (List.Perm.append_left l h9.symm).trans HIN.out,by have:=HCNT.out;have:=HLF.out;simp;omega,HI4.out,HC4.out,HE4.out⟩
        case measure=>
          have h9:leftN (w.heap.size+1) es W4=(leftOf es (seen.push e.born)).size:=by unfold leftN;rw [HI4.out]
          rw [h9,HRW.out]
          exact HLF.out
theorem rangeS (rs:List RowT) (gs gm j:Nat) (pos t lo hi:Int) (hj:j<4) (w:World) (hS:StateR w gs gm pos rs) (hsz:rs.length≤1000) (hap:Apart rs) :
    Calls Tryz.prog 171 #[.pointer (some ⟨gs,0,none⟩),.int .i64 t,.int .i64 (j:Int),.int .i64 lo,.int .i64 hi] w
      fun e w'=>∃ v,e=.returned v∧RowsL w' v (selF rs t j lo hi)∧Below w.heap.size w w':=by
  have hmf:∀ (fn:Fn) (first cap:Array Value) (w:World),(Instr.makeFunc fn first cap).run Tryz.prog w=.ok (.func fn first cap) w:=fun _ _ _ _=>rfl
  have HS:=Lib.hid hS
  clear hS
  have l1:decide ((j:Int)<0)=false:=decide_eq_false (by omega)
  have l2:decide (4≤(j:Int))=false:=decide_eq_false (by omega)
  go_enter Tryz.func171,Tryz.ntmps171
  go_wp2_with fail
  generalize hW1:World.alloc (((w.alloc (.cells #[.int .i64 t] 3)).alloc (.cells #[.int .i64 (j:Int)] 3)).alloc (.cells #[.int .i64 lo] 3)) (.cells #[.int .i64 hi] 3)=W1
  have hE1:Below w.heap.size w W1:=by subst hW1;exact ext_alloc (ext_alloc (ext_alloc (ext_new _ _) _) _) _
  have hB1:Boxes W1 (w.heap.size+1) w.heap.size (w.heap.size+1+1) (w.heap.size+1+1+1) j t lo hi:=by
    subst hW1
    exact ⟨((Blk.new' _ _ _ (by simp)).alloc _).alloc _,(((Blk.new' _ _ _ (by simp)).alloc _).alloc _).alloc _,(Blk.new' _ _ _ (by simp)).alloc _,Blk.new' _ _ _ (by simp)⟩
  refine (chosenS rs gs gm _ _ _ _ j pos t lo hi hj W1 (HS.out.ext hE1) hsz hap hB1).mono ?_
  rintro e W2 ⟨v,rfl,hr,hb2⟩
  have HE2:=Lib.hid (ext_call hE1 hb2)
  have HR2:=Lib.hid hr
  clear hW1 hE1 hB1 hb2 hr
  go_wp2
  go_ret
  exact ⟨_,rfl,HR2.out,HE2.out⟩
end Go.Proofs.YtnajpjnnlocfgaaGreatDoor
