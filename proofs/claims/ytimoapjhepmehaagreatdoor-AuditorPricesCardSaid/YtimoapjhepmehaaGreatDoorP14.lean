/-
  Part 14 of 54: the contracts that the proof of the last part uses; each stands under its own head.
-/
import Derived.Test.YtimoapjhepmehaaGreatDoorP5
import Derived.Test.YtimoapjhepmehaaGreatDoorP6
import Derived.Test.YtimoapjhepmehaaGreatDoorP7
import Derived.LoopN
import Derived.Test.YtimoapjhepmehaaGreatDoorP9
import Derived.BigQuiet
import Derived.Deep.RegionHeld3
import Derived.StillTailTactics
import Derived.Deep.DeepAppendRoom
import Derived.ArgAppend
import Derived.Test.YtimoapjhepmehaaGreatDoorP11
set_option linter.unusedSimpArgs false
set_option linter.unusedVariables false
set_option maxHeartbeats 4000000
set_option maxRecDepth 100000
namespace Go.Proofs.YtimoapjhepmehaaGreatDoor
section
open Go.RowKit
attribute [local go_sem ↓] Go.wp_at_zero Go.wp_at_succ
theorem within1_out (n lo hi:Int) (bl bh:Nat) (w:World) (hl:w.cell? ⟨bl,0,none⟩=some (.int .i64 lo)) (hh:w.cell? ⟨bh,0,none⟩=some (.int .i64 hi)) (h1:n<lo∨hi<n) :
    Calls Tryz.prog 198 #[.int .i64 n,.pointer (some ⟨bl,0,none⟩),.pointer (some ⟨bh,0,none⟩)] w fun e w'=>e=.returned (.bool true)∧w=w':=by
  by_cases h:n<lo
  · exact within1_low n lo hi bl bh w hl h
  · have d1:decide (n<lo)=false:=decide_eq_false h
    have d2:decide (hi<n)=true:=decide_eq_true (by omega)
    clear h1
    go_enter Tryz.func198,Tryz.ntmps198
    go_wp2
    go_ret
    exact ⟨rfl,rfl⟩
theorem indexIn_no (b off c:Nat) (l:List Int) (lo hi:Int) (bl bh:Nat) (w:World) (hl:w.cell? ⟨bl,0,none⟩=some (.int .i64 lo)) (hh:w.cell? ⟨bh,0,none⟩=some (.int .i64 hi)) (hc:IntsAt w b off l) (hn:l.length≤100000) (hin:inF lo hi l=false) :
    Calls Tryz.prog 226 #[.slice (some ⟨b,off,none⟩) l.length c,.func (.func 198) #[] #[.pointer (some ⟨bl,0,none⟩),.pointer (some ⟨bh,0,none⟩)]] w fun e w'=>(∃ k:Nat,k≤100000∧e=.returned (.int .i64 (k:Int)))∧w=w':=by
  have HC:=Lib.hid hc
  have HI:=Lib.hid hin
  have HL:=Lib.hid hl
  have HH:=Lib.hid hh
  clear hc hin hl hh
  go_enter Tryz.func226,Tryz.ntmps226
  go_wp2
  go_loop [8] (fun i=>∃ k:Nat,k≤l.length∧i=.int .i64 k∧inF lo hi (l.take k)=true) (fun i=>l.length-(intOf i).toNat)
  case atStart=>exact ⟨0,Nat.zero_le _,rfl,rfl⟩
  case round=>
    obtain ⟨k,hk,rfl,hin⟩:=hrel
    have HK:=Lib.hid hin
    clear hin
    by_cases hlt:k<l.length
    · have hcell:=HC.out k l[k] (List.getElem?_eq_getElem hlt)
      obtain ⟨x,hxe⟩:∃ x,x=l[k]:=⟨_,rfl⟩
      rw [← hxe] at hcell
      have HX:=Lib.hid (show l.take (k+1)=l.take k++[x] by rw [hxe];exact List.take_succ_eq_append_getElem hlt)
      clear hxe
      by_cases hx:lo≤x∧x≤hi
      · obtain ⟨hx1,hx2⟩:=hx
        go_wp2_with (go_at_call 198;refine (within1_in _ _ _ _ _ _ HL.out HH.out hx1 hx2).mono ?_;rintro e w' ⟨rfl,rfl⟩)
        go_round
        case rel=>
          refine ⟨k+1,by omega,by go_num,?_⟩
          have h9:=HK.out
          rw [HX.out]
          unfold inF at h9 ⊢
          rw [List.all_append,h9]
          simp [hx1,hx2]
        case measure=>simp [intOf];omega
      · have hx':x<lo∨hi<x:=by omega
        go_wp2_with (go_at_call 198;refine (within1_out _ _ _ _ _ _ HL.out HH.out hx').mono ?_;rintro e w' ⟨rfl,rfl⟩)
        go_ret
        exact ⟨⟨k,by omega,rfl⟩,rfl⟩
    · have h9:=HK.out
      rw [List.take_of_length_le (by omega)] at h9
      have h8:=HI.out
      rw [h9] at h8
      cases h8
theorem within_any (b off c:Nat) (l:List Int) (lo hi:Int) (w:World) (hc:IntsAt w b off l) (hb:b<w.heap.size) (hn:l.length≤100000) :
    Calls Tryz.prog 170 #[.int .i64 lo,.int .i64 hi,.slice (some ⟨b,off,none⟩) l.length c] w fun e w'=>e=.returned (.bool (inF lo hi l))∧Below w.heap.size w w':=by
  cases hin:inF lo hi l with
  | true=>exact within_yes b off c l lo hi w hc hb hn hin
  | false=>
    have hmf:∀ (fn:Fn) (first cap:Array Value) (w:World),(Instr.makeFunc fn first cap).run Tryz.prog w=.ok (.func fn first cap) w:=fun _ _ _ _=>rfl
    have hbl:Below w.heap.size w ((w.alloc (.cells #[.int .i64 lo] 3)).alloc (.cells #[.int .i64 hi] 3)):=((Below.refl _ _).alloc (Nat.le_refl _) _).alloc (by simp) _
    have HI:=Lib.hid (indexIn_no b off c l lo hi w.heap.size (w.heap.size+1) ((w.alloc (.cells #[.int .i64 lo] 3)).alloc (.cells #[.int .i64 hi] 3)) (cell_al ((Blk.new _ _ _).cell 0) _) ((Blk.new' _ _ _ (by simp)).cell 0) (fun j x hx=>(hbl.cell (p:=⟨b,off+j,none⟩) hb).trans (hc j x hx)) hn hin)
    have HB:=Lib.hid hbl
    clear hc hin hbl
    go_enter Tryz.func170,Tryz.ntmps170
    go_wp2_with (first
      | (go_at_call 197;go_in)
      | (go_at_call 226;refine HI.out.mono ?_;rintro e w' ⟨⟨k,hk,rfl⟩,hw'⟩;subst w';have hk0:(0:Int)≤(k:Int):=Int.natCast_nonneg k))
    go_ret
    exact ⟨rfl,HB.out⟩
def okB (r:RowT):Bool:=inF 0 3 [r.t] && inF 1 1000000 [r.k] && inF (-1000000000) 1000000000 [r.a,r.b,r.c]
theorem okB_iff (r:RowT):okB r=true↔r.ok:=by
  unfold okB inF RowT.ok
  simp
  omega
theorem rowValid_any (r:RowT) (w:World) :
    Calls Tryz.prog 156 #[.agg #[.int .i64 r.t,.int .i64 r.k,.int .i64 r.a,.int .i64 r.b,.int .i64 r.c]] w fun e w'=>e=.returned (.bool (okB r))∧Below w.heap.size w w':=by
  obtain ⟨t,k,a,b,c⟩:=r
  have K1:=Lib.hid (fun (b c:Nat) (W:World) (h:IntsAt W b 0 [t]) (hb:b<W.heap.size)=>within_any b 0 c [t] 0 3 W h hb (by simp))
  have K2:=Lib.hid (fun (b c:Nat) (W:World) (h:IntsAt W b 0 [k]) (hb:b<W.heap.size)=>within_any b 0 c [k] 1 1000000 W h hb (by simp))
  have K3:=Lib.hid (fun (g d:Nat) (W:World) (h:IntsAt W g 2 [a,b,c]) (hb:g<W.heap.size)=>within_any g 2 d [a,b,c] (-1000000000) 1000000000 W h hb (by simp))
  simp only [okB]
  generalize inF 0 3 [t]=b1 at *
  generalize inF 1 1000000 [k]=b2 at *
  generalize inF (-1000000000) 1000000000 [a,b,c]=b3 at *
  have HB0:=Lib.hid (Blk.new w 67 #[.int .i64 t,.int .i64 k,.int .i64 a,.int .i64 b,.int .i64 c])
  go_enter Tryz.func156,Tryz.ntmps156
  go_wp2_with fail
  refine (K1.out (w.heap.size+1) 1 _ (.of_blk (Blk.new' _ _ _ (by simp)) 0 [t] rfl) (by simp)).mono ?_
  rintro e W1 ⟨rfl,hb1⟩
  have hB1:=(HB0.out.alloc (.cells #[.int .i64 t] 3)).ext hb1
  have c1:=hB1.cell 1
  have HB1:=Lib.hid hB1
  have HL1:=Lib.hid (ext_call (ext_alloc (ext_new w _) _) hb1)
  clear hb1 hB1
  cases b1
  · go_wp2
    go_ret
    exact ⟨rfl,HL1.out⟩
  go_wp2_with fail
  refine (K2.out W1.heap.size 1 _ (.of_blk (Blk.new _ _ _) 0 [k] rfl) (by simp)).mono ?_
  rintro e W2 ⟨rfl,hb2⟩
  have HB2:=Lib.hid ((HB1.out.alloc (.cells #[.int .i64 k] 3)).ext hb2)
  have HL2:=Lib.hid (ext_call (ext_alloc HL1.out _) hb2)
  clear hb2 c1
  cases b2
  · go_wp2
    go_ret
    exact ⟨rfl,HL2.out⟩
  go_wp2_with fail
  refine (K3.out w.heap.size 3 _ (.of_blk HB2.out 2 [a,b,c] rfl) HB2.out.lt).mono ?_
  rintro e W3 ⟨rfl,hb3⟩
  go_wp2
  go_ret
  exact ⟨by simp,ext_call HL2.out hb3⟩
def soundB (t k:Int) (there:Bool) (a b c:Int):Bool:=if there then okB ⟨t,k,a,b,c⟩ else decide (a=0) && decide (b=0) && decide (c=0)
def validC (x:ChgT):Bool:=x.turns && soundB x.t x.k x.had x.o1 x.o2 x.o3 && soundB x.t x.k x.has x.n1 x.n2 x.n3
theorem soundB_iff (t k:Int) (there:Bool) (a b c:Int):soundB t k there a b c=true↔(there=true→RowT.ok ⟨t,k,a,b,c⟩)∧(there=false→a=0∧b=0∧c=0):=by
  cases there <;> simp [soundB,okB_iff,and_assoc]
theorem zero_bounds:((-1000000000:Int)≤0∧(0:Int)≤1000000000)∧((-1000000000:Int)≤0∧(0:Int)≤1000000000)∧((-1000000000:Int)≤0∧(0:Int)≤1000000000):=by omega
theorem validC_iff (x:ChgT):validC x=true↔x.turns=true∧x.ok:=by
  unfold validC
  rw [Bool.and_eq_true,Bool.and_eq_true,soundB_iff,soundB_iff]
  obtain ⟨t,k,had,o1,o2,o3,has,n1,n2,n3⟩:=x
  dsimp only
  constructor
  · rintro ⟨⟨ht,ho1,ho2⟩,hn1,hn2⟩
    refine ⟨ht,?_⟩
    cases had with
    | false=>
      obtain ⟨rfl,rfl,rfl⟩:=ho2 rfl
      cases has with
      | false=>simp [ChgT.turns] at ht
      | true=>
        obtain ⟨h1,h2,h3,h4,h5⟩:=hn1 rfl
        exact ⟨⟨h1,h2⟩,fun _=>⟨rfl,rfl,rfl⟩,fun h=>(by cases h),zero_bounds,h3,h4,h5⟩
    | true=>
      obtain ⟨h1,h2,h3,h4,h5⟩:=ho1 rfl
      cases has with
      | false=>
        obtain ⟨rfl,rfl,rfl⟩:=hn2 rfl
        exact ⟨⟨h1,h2⟩,fun h=>(by cases h),fun _=>⟨rfl,rfl,rfl⟩,⟨h3,h4,h5⟩,zero_bounds⟩
      | true=>
        obtain ⟨_,_,h6,h7,h8⟩:=hn1 rfl
        exact ⟨⟨h1,h2⟩,fun h=>(by cases h),fun h=>(by cases h),⟨h3,h4,h5⟩,h6,h7,h8⟩
  · rintro ⟨ht,⟨h1,h2⟩,h3,h4,h5,h6⟩
    exact ⟨⟨ht,fun _=>⟨h1,h2,h5⟩,h3⟩,fun _=>⟨h1,h2,h6⟩,h4⟩
end
section
open Go.RowKit Go.Shelf
attribute [local go_sem] run_semAt
attribute [local go_sem high] app_sem
theorem wpIn_mem_str {n:Nat} {P:Program} {g:Operand} {ps:Array Tmp} {assign body:Code} {Q:Exit→Act→World→Prop} {a:Act} {w:World}
    (h1:1≤n) {gf:Nat} {lb:Array Value} (hg:a.eval g=.func (.func gf) #[] lb) (eg:∀ args w,(callFunc gf args).run P w=.ok (.enter gf args) w)
    {N:Nat} {C:World→Prop} (enc:Nat→ByteArray) (hseq:SeqMem (n-1) P gf lb N C (fun k xs _=>xs=#[.string (enc k)])) (hps:ps.size=1)
    (I:Nat→World→Prop) (hI:∀ k,OwnP w.heap.size (I k)) (hC:∀ k W,I k W→C W) (h0:I 0 w) (Fr:ByteArray→Act)
    (hassign:∀ (l:Nat) (s:ByteArray) (W:World) (K:Act→World→Prop),K (Fr s) W →
      assign.wpIn (Fence.wide.inRound l) (n-1-1) P (Exit.then K (fun _ _ _=>False)) { tmps:=(ps.zip #[.string s]).foldl (fun t (p,v)=>t.setIfInBounds p v) a.tmps,defers:=[] } W)
    (hbody:∀ (l k:Nat) (s:ByteArray) (W:World),k<N→s=enc k→w.heap.size≤W.heap.size→I k W→body.wpIn (Fence.wide.inRound l) (n-1-1) P (OncePost w.heap.size (I (k+1)) W) (Fr s) W)
    (hdone:∀ (D:Nat) (W:World),w.heap.size≤D→I N W→W.heap[D]? = some (.deferred (some []))→Q .normal { a with defers:={ target:=.collected D,args:=#[] }::a.defers } W) :
    (Code.rangeFunc g ps assign body).wpIn Fence.wide n P Q a w:=
  wpIn_mem h1 hg eg hseq (fun k xs W h=>by rw [h,hps];rfl) I hI hC h0 (fun k a' _=>a'=Fr (enc k)) (fun _ _=>OwnP.pure _)
    (fun l k xs W K _ _ hI' hm hK=>by subst hm;exact hassign l (enc k) W K (hK _ _ (KeepsFrom.refl _ _) hI' rfl))
    (fun l k a' W hk hsz hI' hA=>by subst hA;exact hbody l k (enc k) W hk rfl hsz hI') hdone
def AllPost (N:Nat) (J:Nat→World→Prop) (e:Ending) (W':World):Prop:=(∃ v,e=.returned v)∧J N W'
theorem all_iter (gl:Nat) (w:World) :
    Calls Tryz.prog 75 #[.pointer (some ⟨gl,0,none⟩)] w fun e w'=>
      e=.returned (.func (.func 130) #[] #[.pointer (some ⟨w.heap.size,0,none⟩)])∧w.alloc (.cells #[.pointer (some ⟨gl,0,none⟩)] 76)=w':=by
  have hmf:∀ (fn:Fn) (first cap:Array Value) (w:World),(Instr.makeFunc fn first cap).run Tryz.prog w=.ok (.func fn first cap) w:=fun _ _ _ _=>rfl
  go_enter Tryz.func75,Tryz.ntmps75
  go_wp2
  go_ret
  exact ⟨rfl,rfl⟩
end
section
open Go.RowKit Go.Shelf
attribute [local go_sem ↓] Go.wp_at_zero Go.wp_at_succ
attribute [local go_sem] Oper.semAt_some
end
section
open Go.RowKit Go.Shelf
attribute [local go_sem ↓] Go.wp_at_zero Go.wp_at_succ
attribute [local go_sem] Oper.semAt_some
theorem side_info:(Tryz.prog.info? 203).map (fun i=>(i.zero,i.size,i.bytes))=some (some (.agg #[.string ⟨#[]⟩,.bool false]),2,24):=by kernel_rfl
theorem cell_two_new (w:World) (x y:Value) (t:TypeId):∀ j u,[x,y][j]? = some u→(w.alloc (.cells #[x,y] t)).cell? ((⟨w.heap.size,0,none⟩:Addr).add j)=some u:=fun j u hu=>by
  have hB:=Blk.new w t #[x,y]
  match j,hu with
  | 0,hu=>simp at hu;subst hu;exact hB.cell 0
  | 1,hu=>simp at hu;subst hu;exact hB.cell 1
end
section
open Go.RowKit Go.Shelf
attribute [local go_sem ↓] app_exec app_sem Go.wp_at_zero Go.wp_at_succ
theorem own_cells2 {W:World} {B e sz n:Nat} {v:Value} {xs:List Value} (h:W.ownsRow B e sz v n xs) (h0:0<n):∃ g cap,v=.slice (some ⟨g,0,none⟩) n cap∧B≤g∧g<W.heap.size∧n≤cap∧∀ (i:Nat) (u:Value),xs[i]? = some u→W.cell? ⟨g,i,none⟩=some u:=by
  obtain ⟨_,h2⟩:=h
  rcases h2 with ⟨_,h3⟩|⟨g,cap,cur,h3,h4,h5,h6,_,h8,h9⟩
  · omega
  refine ⟨g,cap,h3,h4,(Array.getElem?_eq_some_iff.1 h5).1,h6,fun i u hu=>?_⟩
  have hb:Blk W g e cur:=h5
  rw [hb.cell]
  rw [← h9,List.getElem?_take] at hu
  split at hu
  · simpa using hu
  · cases hu
theorem app_execB {P:Program} {w:World} {ρ:Operand→Value} {d:Option Tmp} {s x:Operand} {t ty:TypeId} {p:String} {af:Array Edge} {g:Option (Nat × Bool)} (h:AppOK P w t ty (ρ s) (ρ x)) :
    (execOp ρ { dst:=d,op:=.call { callee:=.builtin .append,args:=#[s,x],argTypes:=#[t,t] },type:=ty,pos:=p,after:=af,guard:=g }).run P w=.ok (.value (appV P w t ty (ρ s) (ρ x))) (appW P w t ty (ρ s) (ρ x)):=app_exec h
attribute [local go_sem high] app_execB
theorem own_extB {W W':World} {base n sz:Nat} {e:TypeId} {v:Value} {xs:List Value} (h:W.ownsRow base e sz v n xs) (k:Below W.heap.size W W'):W'.ownsRow base e sz v n xs:=by
  refine ⟨h.1,?_⟩
  rcases h.2 with hn'|⟨g,cap,cur,h1,h2,h3,h4⟩
  · exact .inl hn'
  · exact .inr ⟨g,cap,cur,h1,h2,(k.block g (Array.getElem?_eq_some_iff.1 h3).1).trans h3,h4⟩
end
section
open Go.RowKit Go.Shelf
theorem wpIn_mem_box {n:Nat} {P:Program} {g:Operand} {ps:Array Tmp} {assign body:Code} {Q:Exit→Act→World→Prop} {a:Act} {w:World}
    (h1:1≤n) {gf:Nat} {lb:Array Value} (hg:a.eval g=.func (.func gf) #[] lb) (eg:∀ args w,(callFunc gf args).run P w=.ok (.enter gf args) w)
    {N:Nat} {C:World→Prop} {vals:Nat→Array Value} (hseq:SeqMem (n-1) P gf lb N C (fun k xs _=>xs=vals k)) (hps:∀ k,(vals k).size=ps.size)
    (I:Nat→World→Prop) (hI:∀ k,OwnP w.heap.size (I k)) (hC:∀ k W,I k W→C W) (h0:I 0 w) (t:TypeId) (cs:Nat→Array Value) (Fr:Nat→Nat→Act)
    (hassign:∀ (l h k:Nat) (W:World) (K:Act→World→Prop),h=W.heap.size→K (Fr k h) (W.alloc (.cells (cs k) t)) →
      assign.wpIn (Fence.wide.inRound l) (n-1-1) P (Exit.then K (fun _ _ _=>False)) { tmps:=(ps.zip (vals k)).foldl (fun t (p,v)=>t.setIfInBounds p v) a.tmps,defers:=[] } W)
    (hbody:∀ (l h k:Nat) (W:World),k<N→w.heap.size≤W.heap.size→w.heap.size≤h→Blk W h t (cs k)→I k W→body.wpIn (Fence.wide.inRound l) (n-1-1) P (OncePost w.heap.size (I (k+1)) W) (Fr k h) W)
    (hdone:∀ (D:Nat) (W:World),w.heap.size≤D→I N W→W.heap[D]? = some (.deferred (some []))→Q .normal { a with defers:={ target:=.collected D,args:=#[] }::a.defers } W) :
    (Code.rangeFunc g ps assign body).wpIn Fence.wide n P Q a w:=
  wpIn_mem h1 hg eg hseq (fun k xs W h=>by rw [h];exact hps k) I hI hC h0 (fun k a' W=>∃ h,w.heap.size≤h∧a'=Fr k h∧Blk W h t (cs k))
    (fun k a' _ X Y row hs hg hr=>by
      obtain ⟨h,hh,ha,hB⟩:=hs
      exact ⟨h,hh,ha,OwnP.blk (B:=w.heap.size) () X Y row hB hg hr⟩)
    (fun l k xs W K hk hsz hI' hm hK=>by
      subst hm
      exact hassign l W.heap.size k W K rfl (hK _ _ ((KeepsOthers.alloc W _).from _) (OwnFrom.alloc (s:=()) (hI k) _ hI') ⟨_,hsz,rfl,Blk.new _ _ _⟩))
    (fun l k a' W hk hsz hI' hA=>by
      obtain ⟨h,hh,rfl,hB⟩:=hA
      exact hbody l h k W hk hsz hh hB hI') hdone
def sdAt (ys:List (ByteArray × Bool)) (k:Nat):ByteArray × Bool:=ys.getD (ys.length-1-k) (⟨#[]⟩,false)
def sdIx (ys:List (ByteArray × Bool)) (k:Nat):Int:=(ys.length:Int)-1-(k:Int)
def sdVals (ys:List (ByteArray × Bool)) (k:Nat):Array Value:=#[.int .i64 (sdIx ys k),.agg #[.string (sdAt ys k).1,.bool (sdAt ys k).2]]
theorem sdAt_eq {ys:List (ByteArray × Bool)} {k:Nat} (h:k<ys.length):ys[ys.length-1-k]? = some (sdAt ys k):=by
  unfold sdAt
  rw [List.getD_eq_getElem?_getD,List.getElem?_eq_getElem (by omega)]
  rfl
def accM (f:ByteArray × Bool→ByteArray→ByteArray) (ys:List (ByteArray × Bool)) (z:ByteArray) (k:Nat):ByteArray:=(ys.drop (ys.length-k)).foldr f z
theorem accM_zero (f:ByteArray × Bool→ByteArray→ByteArray) (ys:List (ByteArray × Bool)) (z:ByteArray):accM f ys z 0=z:=by simp [accM]
theorem accM_all (f:ByteArray × Bool→ByteArray→ByteArray) (ys:List (ByteArray × Bool)) (z:ByteArray):accM f ys z ys.length=ys.foldr f z:=by simp [accM]
theorem accM_succ (f:ByteArray × Bool→ByteArray→ByteArray) {ys:List (ByteArray × Bool)} {k:Nat} (h:k<ys.length) (z:ByteArray):accM f ys z (k+1)=f (sdAt ys k) (accM f ys z k):=by
  unfold accM
  have h1:ys.length-(k+1)<ys.length:=by omega
  rw [List.drop_eq_getElem_cons h1,List.foldr_cons,show ys.length-(k+1)+1=ys.length-k by omega]
  congr 1
  have h2:=sdAt_eq h
  rw [show ys.length-1-k=ys.length-(k+1) by omega,List.getElem?_eq_getElem h1] at h2
  exact Option.some.inj h2
def BkC (Bs:Nat) (A:Option Addr) (c:Nat) (ys:List (ByteArray × Bool)) (W:World):Prop:=
  W.cell? ⟨Bs,0,none⟩=some (.slice A ys.length c)∧(0<ys.length→∃ b off,A=some ⟨b,off,none⟩∧∀ j x,ys[j]? = some x→SideAt W b (off+j*2) x)
section
attribute [local go_sem ↓] Go.wp_at_zero Go.wp_at_succ
attribute [local go_sem] Oper.semAt_some
theorem backM_in (n:Nat) (hn:1≤n) (l Bs:Nat) (A:Option Addr) (c:Nat) (ys:List (ByteArray × Bool)) (hN:ys.length≤1000000) (J:Nat→World→Prop) (hC:∀ k W,J k W→BkC Bs A c ys W)
    (hY:∀ k xs W1,k<ys.length→J k W1→xs=sdVals ys k→YieldAt Fence.wide (n-1) Tryz.prog l xs W1 fun e W'=>e=.returned (.bool true)∧J (k+1) W') (W:World) (h0:J 0 W) :
    CallsIn Fence.wide n Tryz.prog 169 #[.func (.yield l) #[] #[],.pointer (some ⟨Bs,0,none⟩)] W fun e W'=>(∃ v,e=.returned v)∧J ys.length W':=by
  have HC:=Lib.hid hC
  have HY:=Lib.hid hY
  have H0:=Lib.hid h0
  have hBs:=(hC 0 W h0).1
  clear hC hY h0
  refine callsIn_of_wp Tryz.func169 rfl trivial ?_ rfl
  simp only [Tryz.ntmps169,List.size_toArray,List.length_cons,List.length_nil,Nat.reduceAdd,Nat.reduceSub,Array.replicate_succ,Array.replicate_zero,List.push_toArray,List.append_toArray,List.nil_append,List.cons_append]
  gi_wp2
  gi_loopw [3] (fun i wr=>∃ k:Nat,k≤ys.length∧i=.int .i64 ((ys.length:Int)-1-(k:Int))∧J k wr) (fun i _=>(intOf i+1).toNat)
  case atStart=>exact ⟨0,Nat.zero_le _,by simp,H0.out⟩
  case round=>
    obtain ⟨k,hk,rfl,hJ⟩:=hrel
    have HJ:=Lib.hid hJ
    obtain ⟨cs,hc⟩:=HC.out _ _ hJ
    clear hJ H0 hBs
    by_cases hlt:k<ys.length
    · obtain ⟨b,off,rfl,hcell⟩:=hc (by omega)
      obtain ⟨q,hq⟩:∃ q,q=ys.length-1-k:=⟨_,rfl⟩
      have hqi:(ys.length:Int)-1-(k:Int)=(q:Int):=by omega
      have hql:q<ys.length:=by omega
      obtain ⟨x,hx⟩:∃ x,x=sdAt ys k:=⟨_,rfl⟩
      have hxq:=sdAt_eq hlt
      rw [← hx,← hq] at hxq
      obtain ⟨cx,cx'⟩:=hcell q x hxq
      obtain ⟨fn,tmps,assign,body,hy,hR⟩:=HY.out k _ wr hlt HJ.out rfl
      unfold sdVals sdIx at hy
      rw [← hx,hqi] at hy
      rw [hqi]
      have HQI:=Lib.hid hqi
      clear hq hqi hx hxq hcell hc
      have b0:(0:Int)≤(q:Int):=by omega
      have b1:(q:Int)<(ys.length:Int):=by omega
      gi_wp2
      refine hR.mono ?_
      rintro e W3 ⟨rfl,hJ3⟩
      have HJ3:=Lib.hid hJ3
      clear hJ3 hR hy
      gi_wp2
      go_roundw
      case rel=>
        refine ⟨k+1,by omega,?_,HJ3.out⟩
        have:=HQI.out
        have e:(q:Int)-1=(ys.length:Int)-1-((k+1:Nat):Int):=by omega
        rw [← e]
      case measure=>simp [intOf]
    · have HK:=Lib.hid (show k=ys.length by omega)
      have hneg:¬ (0:Int)≤(ys.length:Int)-1-(k:Int):=by omega
      gi_wp2
      go_end0
      have h9:=HJ.out
      rw [HK.out] at h9
      exact ⟨⟨_,rfl⟩,h9⟩
end
theorem backM_seq (n:Nat) (hn:1≤n) (Bs:Nat) (A:Option Addr) (c:Nat) (ys:List (ByteArray × Bool)) (hN:ys.length≤1000000) :
    SeqMem n Tryz.prog 169 #[.pointer (some ⟨Bs,0,none⟩)] ys.length (BkC Bs A c ys) (fun k xs _=>xs=sdVals ys k):=
  fun l J W hC _ hY h0=>backM_in n hn l Bs A c ys hN J hC hY W h0
theorem BkC.ext {Bs:Nat} {A:Option Addr} {c:Nat} {ys:List (ByteArray × Bool)} {W W':World} (h:BkC Bs A c ys W) (k:Below W.heap.size W W'):BkC Bs A c ys W':=
  ⟨cell_ext h.1 k,fun h0=>by obtain ⟨b,off,hA,hc⟩:=h.2 h0;exact ⟨b,off,hA,fun j x hx=>⟨cell_ext (hc j x hx).1 k,cell_ext (hc j x hx).2 k⟩⟩⟩
theorem BkC.set {Bs g:Nat} {A:Option Addr} {c:Nat} {ys:List (ByteArray × Bool)} {W:World} (h:BkC Bs A c ys W) (h1:g≠Bs) (h2:∀ b o,A=some ⟨b,o,none⟩→g≠b) (v:Value):BkC Bs A c ys (W.setCell ⟨g,0,none⟩ v):=
  ⟨(World.cell?_setCell_other W _ _ _ (by intro e;injection e with e _ _;exact h1 e)).trans h.1,fun h0=>by
    obtain ⟨b,off,hA,hc⟩:=h.2 h0
    exact ⟨b,off,hA,fun j x hx=>⟨(World.cell?_setCell_other W _ _ _ (by intro e;injection e with e _ _;exact h2 b off hA e)).trans (hc j x hx).1,(World.cell?_setCell_other W _ _ _ (by intro e;injection e with e _ _;exact h2 b off hA e)).trans (hc j x hx).2⟩⟩⟩
theorem OwnP.bkC {B Bs:Nat} {A:Option Addr} {c:Nat} {ys:List (ByteArray × Bool)}:OwnP B (BkC Bs A c ys):=fun _ X Y row hs hg hr=>
  ⟨cell_kept hs.1 hg (fun r e=>(hr r e).2),fun h0=>by obtain ⟨b,off,hA,hc⟩:=hs.2 h0;exact ⟨b,off,hA,fun j x hx=>⟨cell_kept (hc j x hx).1 hg (fun r e=>(hr r e).2),cell_kept (hc j x hx).2 hg (fun r e=>(hr r e).2)⟩⟩⟩
def sdC (xs:List (ByteArray × Bool)):List Value:=xs.flatMap fun x=>[.string x.1,.bool x.2]
theorem sdC_append (xs ys:List (ByteArray × Bool)):sdC (xs++ys)=sdC xs++sdC ys:=List.flatMap_append
theorem sdC_at:∀ (xs:List (ByteArray × Bool)) (j:Nat) (x:ByteArray × Bool),xs[j]? = some x→(sdC xs)[j*2]? = some (.string x.1)∧(sdC xs)[j*2+1]? = some (.bool x.2)
  | [],_,_,h=>by cases h
  | y::ys,0,x,h=>by obtain rfl:y=x:=Option.some.inj h;exact ⟨rfl,rfl⟩
  | y::ys,j+1,x,h=>by
    have h1:=sdC_at ys j x h
    rw [show (j+1)*2=j*2+2 by omega]
    exact h1
theorem bkC_of {B Bs c:Nat} {A:Option Addr} {ys:List (ByteArray × Bool)} {W:World} (h:W.ownsRow B 203 2 (.slice A ys.length c) ys.length (sdC ys)) (hb:W.cell? ⟨Bs,0,none⟩=some (.slice A ys.length c)):BkC Bs A c ys W:=
  ⟨hb,fun h0=>by
    obtain ⟨g,cap,hsh,-,-,-,hc⟩:=own_cells2 h h0
    injection hsh with hA _ _
    refine ⟨g,0,hA,fun j x hx=>?_⟩
    have h1:=sdC_at ys j x hx
    rw [Nat.zero_add]
    exact ⟨hc _ _ h1.1,hc _ _ h1.2⟩⟩
theorem own_lt {B sz n c:Nat} {A:Option Addr} {e:TypeId} {xs:List Value} {W:World} (h:W.ownsRow B e sz (.slice A n c) n xs) (b o:Nat) (hA:A=some ⟨b,o,none⟩):B≤b∧b<W.heap.size:=by
  rcases h.2 with ⟨h1,_⟩|⟨g,cap,cur,h1,h2,h3,_⟩
  · injection h1 with h1 _ _
    rw [hA] at h1
    cases h1
  · injection h1 with h1 _ _
    rw [hA] at h1
    injection h1 with h1
    injection h1 with h1 _ _
    subst h1
    exact ⟨h2,(Array.getElem?_eq_some_iff.1 h3).1⟩
end
section
open Go.RowKit Go.Shelf
attribute [local go_sem ↓] app_exec app_sem Go.wp_at_zero Go.wp_at_succ
attribute [local go_sem] Oper.semAt_some
theorem appSide (W:World) (base:Nat) (hb:base≤W.heap.size) (v:Value) (n:Nat) (xs:List Value) (hown:W.ownsRow base 203 2 v n xs) (hn:n≤1000000) (s:ByteArray) (f:Bool) :
    AppOK Tryz.prog (W.alloc (.cells #[.string s,.bool f] 203)) 199 199 v (.slice (some ⟨W.heap.size,0,none⟩) 1 1)∧∃ W',appW Tryz.prog (W.alloc (.cells #[.string s,.bool f] 203)) 199 199 v (.slice (some ⟨W.heap.size,0,none⟩) 1 1)=W' ∧
      ∃ v',appV Tryz.prog (W.alloc (.cells #[.string s,.bool f] 203)) 199 199 v (.slice (some ⟨W.heap.size,0,none⟩) 1 1)=v'∧W'.ownsRow base 203 2 v' (n+1) (xs++[.string s,.bool f])∧(W.alloc (.cells #[.string s,.bool f] 203)).grownBy W' v.ownBlock:=by
  obtain ⟨is,his,hzs0,hzs1,hzs2⟩:=info_parts side_info
  obtain ⟨h1,h2,h3⟩:=app_own (P:=Tryz.prog) (w:=W.alloc (.cells #[.string s,.bool f] 203)) base 199 199 203 is (.agg #[.string ⟨#[]⟩,.bool false]) 2 24 Tryz.underlying199 his hzs0 hzs1 hzs2 rfl (by decide) v n xs (hown.alloc _) ⟨W.heap.size,0,none⟩ 1 1 [.string s,.bool f] rfl (cell_two_new _ _ _ _) (by simp [Value.oneCell']) (by unfold maxLen;omega) (by omega) (by simp;omega)
  exact ⟨h1,_,rfl,_,rfl,h2,h3⟩
theorem wayL_sizes:∀ (f:Nat) (l:List ByteArray) (i:Nat) (x:ByteArray × Bool),x ∈ wayL f l i→x.1.size=32
  | 0,_,_,_,h=>by cases h
  | f + 1, l, i, x, h => by
    unfold wayL at h
    split at h
    · cases h
    · split at h
      · rcases List.mem_cons.1 h with rfl|h
        · exact rootF_size _
        · exact wayL_sizes f _ _ x h
      · rcases List.mem_cons.1 h with rfl|h
        · exact rootF_size _
        · exact wayL_sizes f _ _ x h
theorem accM_size (ys:List (ByteArray × Bool)) (z:ByteArray) (hz:z.size=32):∀ k,k≤ys.length→(accM joinW ys z k).size=32
  | 0,_=>by rw [accM_zero];exact hz
  | k+1,h=>by rw [accM_succ joinW (by omega)];exact joinF_size _ _ _
theorem allF_of (l:List ByteArray) (h:∀ x ∈ l,x.size=32):allF l=true:=by
  unfold allF
  rw [Bool.not_eq_true']
  refine List.any_eq_false.2 fun x hx=>?_
  simp [oddF,h x hx]
theorem wayL_length:∀ (f:Nat) (l:List ByteArray) (i:Nat),(wayL f l i).length≤f
  | 0,_,_=>Nat.le_refl _
  | f + 1, l, i => by
    unfold wayL
    split
    · exact Nat.zero_le _
    · split
      · exact Nat.succ_le_succ (wayL_length f _ _)
      · exact Nat.succ_le_succ (wayL_length f _ _)
theorem verify_any (S:Nat→Prop) (v:Value) (root s:ByteArray) (L:List ByteArray) (I:Nat) (w:World) (hL:L.length≤1000) (hI:L[I]? = some s) (hv:Strs S w v (((wayL L.length L I).map (·.1)).reverse)) (hSB:∀ b,S b→b<w.heap.size) (hs:s.size≤500000) (hR:RoundOK w) :
    Calls Tryz.prog 64 #[.string root,.int .i64 (L.length:Int),.int .i64 (I:Int),.string s,v] w fun e w'=>e=.returned (.bool ((rootF L).toList == root.toList))∧Below w.heap.size w w':=by
  have hIL:=(List.getElem?_eq_some_iff.1 hI).1
  have HRT:=Lib.hid (wayL_root L.length L I s (Nat.le_refl _) hL hI)
  have HSZ:=Lib.hid (wayL_sizes L.length L I)
  have hall:allF (((wayL L.length L I).map (·.1)).reverse)=true:=allF_of _ (fun x hx=>by
    obtain ⟨y,hy,rfl⟩:=List.mem_map.1 (List.mem_reverse.1 hx)
    exact HSZ.out y hy)
  obtain ⟨W0,hW0⟩:∃ W0,W0=wayL L.length L I:=⟨_,rfl⟩
  rw [← hW0] at hall hv HRT HSZ
  have hwl:W0.length≤1000:=by
    rw [hW0]
    exact Nat.le_trans (wayL_length _ _ _) hL
  have HAll:=Lib.hid (all_any S v ((W0.map (·.1)).reverse) w hv (by simp;omega))
  have HLf:=Lib.hid (fun (W:World) (h:RoundOK W)=>leaf_any s W h hs)
  have hl32:(leafF s).size=32:=leafF_size s
  generalize leafF s=lf at *
  obtain ⟨rt,hrt⟩:∃ rt,rt=rootF L:=⟨_,rfl⟩
  rw [← hrt] at HRT ⊢
  have HSB:=Lib.hid hSB
  have HR:=Lib.hid hR
  have HV:=Lib.hid hv
  have HW0:=Lib.hid hW0
  have hr1:=hR.lt
  obtain ⟨A,c,hv1,hc,_⟩:=hv
  have hvv:v=.slice A W0.length c:=by simpa using hv1
  clear hv1
  subst hvv
  have d0:decide ((I:Int)<0)=false:=decide_eq_false (by omega)
  have d1:decide ((L.length:Int)≤(I:Int))=false:=decide_eq_false (by omega)
  have d2:decide (L.length≤I)=false:=decide_eq_false (by omega)
  clear hR hSB hW0 hrt
  refine (callsIn_wide (n:=3)).1 (callsIn_of_wp_marks Tryz.func64 rfl trivial (wpIn_wide.2 ?_) rfl)
  simp only [Tryz.ntmps64,List.size_toArray,List.length_cons,List.length_nil,Nat.reduceAdd,Nat.reduceSub,Array.replicate_succ,Array.replicate_zero,List.push_toArray,List.append_toArray,List.nil_append,List.cons_append]
  go_wp2_with fail
  refine HAll.out.mono ?_
  rintro e W1 ⟨rfl,rfl⟩
  rw [hall]
  go_wp2
  go_loopw [1,2,4,11,12,13,14,15] (fun nv iv pv ov _ _ _ _ W=>∃ (f i:Nat) (cur:List ByteArray) (way rest:List (ByteArray × Bool)),cur.length≤f∧cur.length≤1000∧nv=.int .i64 (cur.length:Int)∧iv=.int .i64 (i:Int)∧i<cur.length∧W0=way++rest∧rest=wayL f cur i∧Strs S W pv ((rest.map (·.1)).reverse)∧W.ownsRow w.heap.size 203 2 ov way.length (sdC way)∧Below w.heap.size w W) (fun nv _ _ _ _ _ _ _ _=>(intOf nv).toNat)
  case atStart=>exact ⟨L.length,I,L,[],W0,Nat.le_refl _,hL,rfl,rfl,hIL,rfl,HW0.out,HV.out,World.ownsRow_nil _ _ _ _,ext_refl _⟩
  case round=>
    obtain ⟨f,i,cur,way,rest,hf,h17,rfl,rfl,hi,hsplit,hrest,hs,hown,hE⟩:=hrel
    have HO:=Lib.hid hown
    have HE:=Lib.hid hE
    have HS:=Lib.hid hs
    have HSP:=Lib.hid hsplit
    have hwr:way.length+rest.length≤1000:=by rw [hsplit,List.length_append] at hwl;exact hwl
    clear hown hE hsplit
    by_cases h1:cur.length≤1
    · have hr0:rest=[]:=by
        rw [hrest]
        cases f with
        | zero=>rfl
        | succ f=>unfold wayL;rw [if_pos h1]
      subst hr0
      clear hrest
      have HW:=Lib.hid (show W0=way by have:=HSP.out;rwa [List.append_nil] at this)
      obtain ⟨Ap,cp,hpv,-,-⟩:=id HS.out
      have hpv:u4=.slice Ap 0 cp:=hpv
      subst hpv
      obtain ⟨Aw,cw,hwv⟩:=own_shape HO.out
      subst hwv
      have d3:decide ((1:Int)<(cur.length:Int))=false:=decide_eq_false (by omega)
      have hRw:=HR.out.below HE.out
      go_wp2_with fail
      refine (HLf.out wr hRw).mono ?_
      rintro e W1 ⟨rfl,hb1⟩
      have HB1:=Lib.hid (ext_call HE.out hb1)
      have hz1:=HB1.out.size
      have hR1:=hRw.below hb1
      have HO1:=Lib.hid (own_extB HO.out hb1)
      clear hb1
      go_wp2_with (go_at_call 114;refine (backS_any _ _ _ _).mono ?_;rintro e W2 ⟨rfl,rfl⟩)
      obtain ⟨g0,hg0⟩:∃ g0,g0=W1.heap.size:=⟨_,rfl⟩
      have hsz:((W1.alloc (.cells #[.string lf] 9)).alloc (.cells #[.slice Aw way.length cw] 199)).heap.size=W1.heap.size+2:=by simp
      have hE2:Below W1.heap.size W1 ((W1.alloc (.cells #[.string lf] 9)).alloc (.cells #[.slice Aw way.length cw] 199)):=ext_alloc (ext_new _ _) _
      have hB0:Blk ((W1.alloc (.cells #[.string lf] 9)).alloc (.cells #[.slice Aw way.length cw] 199)) g0 9 #[.string lf]:=by rw [hg0];exact (Blk.new _ _ _).alloc _
      have hbk:BkC (g0+1) Aw cw way ((W1.alloc (.cells #[.string lf] 9)).alloc (.cells #[.slice Aw way.length cw] 199)):=bkC_of (own_extB HO1.out hE2) (by rw [hg0];have h:=cell_new1 (W1.alloc (.cells #[.string lf] 9)) (.slice Aw way.length cw) 199;rw [World.size_alloc] at h;exact h)
      have hAne:∀ b o,Aw=some ⟨b,o,none⟩→g0≠b:=fun b o h=>by have:=own_lt HO1.out b o h;omega
      have hbl:Below w.heap.size w ((W1.alloc (.cells #[.string lf] 9)).alloc (.cells #[.slice Aw way.length cw] 199)):=ext_call HB1.out hE2
      have hR2:=hR1.below hE2
      have HANE:=Lib.hid hAne
      have HWSZ:=Lib.hid (show ∀ x ∈ way,x.1.size=32 by rw [← HW.out];exact HSZ.out)
      clear hE2 hAne hR1
      generalize ((W1.alloc (.cells #[.string lf] 9)).alloc (.cells #[.slice Aw way.length cw] 199))=W2 at *
      refine (wpIn_wide (n:=3)).1 ?_
      refine' wpIn_mem_box (by omega) (gf:=169) (lb:=#[.pointer (some ⟨W1.heap.size+1,0,none⟩)]) (by simp [Act.eval]) (enters_of Tryz.func169 (by kernel_rfl) rfl)
        (backM_seq 2 (by omega) (W1.heap.size+1) Aw cw way (by omega)) (fun _=>rfl)
        (fun k W=>(Blk W g0 9 #[.string (accM joinW way lf k)]∧RoundOK W)∧BkC (g0+1) Aw cw way W∧Below w.heap.size w W)
        (fun k=>OwnP.and (OwnP.and OwnP.blk OwnP.round) (OwnP.and OwnP.bkC (OwnP.below (Nat.le_refl _) (by omega)))) (fun k W h=>by have:=h.2.1;rwa [hg0] at this) ⟨⟨by rw [accM_zero];exact hB0,hR2⟩,hbk,hbl⟩
        203 (fun k=>#[.string (sdAt way k).1,.bool (sdAt way k).2]) _ ?assign ?body ?done
      case assign=>
        intro l h k W K hh hK
        unfold sdVals
        gi_wp2
        rw [← hh]
        exact hK
      case body=>
        rintro l h k W hkN hszW hh hB ⟨⟨hO,hRo⟩,hbk,hb⟩
        obtain ⟨acc,hacc⟩:∃ acc,acc=accM joinW way lf k:=⟨_,rfl⟩
        have hac:acc.size=32:=by rw [hacc];exact accM_size way lf hl32 k (by omega)
        have HACC:=Lib.hid (accM_succ joinW hkN lf)
        rw [← hacc] at HACC hO
        obtain ⟨⟨y,f2⟩,hx⟩:∃ x,x=sdAt way k:=⟨_,rfl⟩
        have hy32:y.size=32:=by
          have:=HWSZ.out (sdAt way k) (List.mem_of_getElem? (sdAt_eq hkN))
          rw [← hx] at this
          exact this
        rw [← hx] at HACC hB ⊢
        dsimp only at hB ⊢
        have c0:W.cell? ⟨W1.heap.size,0,none⟩=some (.string acc):=by rw [← hg0];exact hO.cell 0
        have c1:W.cell? ⟨h,0,none⟩=some (.string y):=hB.cell 0
        have c2:W.cell? ⟨h,1,none⟩=some (.bool f2):=hB.cell 1
        have HRo:=Lib.hid hRo
        have HO:=Lib.hid hO
        have HBe:=Lib.hid hb
        have HBK:=Lib.hid hbk
        clear hRo hb hO hB hacc hx hbk
        gi_wp2_with fail
        refine ⟨trivial,(CallsIn.inRound l (callsIn_wide.2 (join_any y acc f2 W HRo.out (by omega) (by omega)))).mono ?_⟩
        rintro e W' ⟨rfl,hb'⟩
        have hB':=HO.out.below hb' HO.out.lt
        have c1:W'.cell? ⟨W1.heap.size,0,none⟩=some (.string acc):=by rw [← hg0];exact hB'.cell 0
        have f1:W'.frozen? ⟨W1.heap.size,0,none⟩=false:=by rw [← hg0];exact hB'.frozen 0
        have HB':=Lib.hid hB'
        have hg0w:w.heap.size≤g0:=by omega
        clear hB'
        gi_wp2
        rw [← hg0]
        refine ⟨(KeepsOthers.trans ⟨hb'.size,fun k o hk _=>(hb'.block k (Array.getElem?_eq_some_iff.1 hk).1).trans hk⟩ (KeepsOthers.setCell _ _ _)).from _,⟨?_,?_⟩,(HBK.out.ext hb').set (by omega) HANE.out _,(HBe.out.trans (hb'.mono HBe.out.size)).setCell hg0w _⟩
        · rw [HACC.out]
          exact HB'.out.set_ 0 _
        · exact (HRo.out.below hb').keep fun p hp=>World.cell?_of_block (Below.heap_setCell _ _ _ _ (by rw [hp];show _≠g0;omega))
      case done=>
        rintro D W hD ⟨⟨hB,hRo⟩,hbk,hb⟩ hK
        rw [accM_all,← HW.out,HRT.out] at hB
        have c0:W.cell? ⟨W1.heap.size,0,none⟩=some (.string rt):=by rw [← hg0];exact hB.cell 0
        have HBE:=Lib.hid hb
        clear hB hb
        go_wp2
        refine ⟨by simp,.inl ⟨_,_,rfl,run_takeDeferred hK,?_⟩⟩
        refine ⟨_,results_tmp rfl _ _ _,?_,?_⟩
        · rfl
        · exact HBE.out.grown (grownBy_putObj' W D _) HBE.out.size (fun k e=>by injection e with e;omega)
    · have hb:=leftF_bounds cur.length (by omega) (by omega)
      obtain ⟨k,hk⟩:∃ k,k=leftF cur.length:=⟨_,rfl⟩
      have HLF:=Lib.hid (fun W:World=>left_any cur.length W (by omega) (by omega))
      rw [← hk] at hb HLF
      have HKE:=Lib.hid hk
      clear hk
      obtain ⟨f',rfl⟩:∃ f',f=f'+1:=⟨f-1,by omega⟩
      have hrest2:∃ x,∃ tl,rest=x::tl∧x.2=decide (k≤i)∧tl=(if k≤i then wayL f' (cur.drop k) (i-k) else wayL f' (cur.take k) i):=by
        rw [hrest]
        conv=>enter [1,x,1,tl,1];unfold wayL
        rw [if_neg h1,← HKE.out]
        by_cases hik:i<k
        · rw [if_pos hik,if_neg (by omega)]
          exact ⟨_,_,rfl,(decide_eq_false (by omega)).symm,rfl⟩
        · rw [if_neg hik,if_pos (by omega)]
          exact ⟨_,_,rfl,(decide_eq_true (by omega)).symm,rfl⟩
      obtain ⟨⟨d,fl⟩,tl,hrt2,hfl,htl⟩:=hrest2
      dsimp only at hfl
      subst hrt2
      clear hrest
      have hsp:(((((d,fl)::tl).map (·.1)).reverse).length)=tl.length+1:=by simp
      have HTK:=Lib.hid (take_any S u4 ((((d,fl)::tl).map (·.1)).reverse) wr HS.out (by rw [hsp];rw [List.length_cons] at hwr;omega))
      have hlast:(((((d,fl)::tl).map (·.1)).reverse).getLast?.getD ⟨#[]⟩)=d:=by simp
      have hdrop:((((d,fl)::tl).map (·.1)).reverse).dropLast=(tl.map (·.1)).reverse:=by simp
      have hne:((((d,fl)::tl).map (·.1)).reverse).isEmpty=false:=by simp
      unfold TakePost at HTK
      rw [hlast,hdrop,hne] at HTK
      obtain ⟨Ap,cp,hpv,-,-⟩:=id HS.out
      rw [hsp] at hpv
      subst hpv
      have d3:decide ((1:Int)<(cur.length:Int))=true:=decide_eq_true (by omega)
      have HFL:=Lib.hid hfl
      have HTL:=Lib.hid htl
      clear hlast hdrop hne hsp hfl hs htl
      go_wp2_with fail
      refine HTK.out.mono ?_
      rintro e W1 ⟨v',rfl,hv',hb1⟩
      have HV1:=Lib.hid hv'
      have HB1:=Lib.hid hb1
      obtain ⟨A',c',hva0,-,-⟩:=hv'
      have hva:v'=.slice A' tl.length c':=by simpa using hva0
      clear hva0
      subst hva
      clear hb1
      go_wp2_with fail
      refine (HLF.out _).mono ?_
      rintro e w' ⟨rfl,hw'⟩
      subst w'
      have ho1:=own_extB HO.out HB1.out
      have hz1:=(ext_call HE.out HB1.out).size
      by_cases hik:k≤i
      · have d4:decide ((k:Int)≤(i:Int))=true:=decide_eq_true (by omega)
        have q4:(k:Int)≤(i:Int):=by omega
        have hfl:fl=true:=by rw [HFL.out];exact decide_eq_true hik
        have HT2:=Lib.hid (show tl=wayL f' (cur.drop k) (i-k) by rw [HTL.out,if_pos hik])
        subst hfl
        have e5:IntKind.i64.wrap ((i:Int)-(k:Int))=((i-k:Nat):Int):=by rw [IntWalk.i64_in _ (by omega)];omega
        have e6:IntKind.i64.wrap ((cur.length:Int)-(k:Int))=((cur.length-k:Nat):Int):=by rw [IntWalk.i64_in _ (by omega)];omega
        obtain ⟨ha,W4,hW4,v4,hv4,ho4,hg4⟩:=appSide W1 w.heap.size hz1 u11 way.length (sdC way) ho1 (by omega) d true
        have HO4:=Lib.hid ho4
        have HE4:=Lib.hid (show Below w.heap.size w W4 from (ext_alloc (ext_call HE.out HB1.out) (.cells #[.string d,.bool true] 203)).grown hg4 (by simp;omega) (fun g hg=>(ho1.lt g hg).1))
        have HP4:=Lib.hid (show Strs S W4 _ ((tl.map (·.1)).reverse) from Strs.ownGrown (HV1.out.below (ext_new W1 (.cells #[.string d,.bool true] 203))) hg4 HSB.out (fun g hg=>(ho1.lt g hg).1))
        clear ho4 hg4 ho1
        go_wp2
        go_roundw
        case rel=>exact ⟨f',i-k,cur.drop k,way++[(d,true)],tl,(by first|(rw [List.length_drop];omega)|(rw [List.length_take];omega)),(by first|(rw [List.length_drop];omega)|(rw [List.length_take];omega)),by rw [List.length_drop],by go_num,(by first|(rw [List.length_drop];omega)|(rw [List.length_take];omega)),by rw [HSP.out,List.append_assoc];rfl,HT2.out,HP4.out,by rw [List.length_append,List.length_singleton,sdC_append];exact HO4.out,HE4.out⟩
        case measure=>simp [intOf];omega
      · have d4:decide ((k:Int)≤(i:Int))=false:=decide_eq_false (by omega)
        have hfl:fl=false:=by rw [HFL.out];exact decide_eq_false hik
        have HT2:=Lib.hid (show tl=wayL f' (cur.take k) i by rw [HTL.out,if_neg hik])
        subst hfl
        obtain ⟨ha,W4,hW4,v4,hv4,ho4,hg4⟩:=appSide W1 w.heap.size hz1 u11 way.length (sdC way) ho1 (by omega) d false
        have HO4:=Lib.hid ho4
        have HE4:=Lib.hid (show Below w.heap.size w W4 from (ext_alloc (ext_call HE.out HB1.out) (.cells #[.string d,.bool false] 203)).grown hg4 (by simp;omega) (fun g hg=>(ho1.lt g hg).1))
        have HP4:=Lib.hid (show Strs S W4 _ ((tl.map (·.1)).reverse) from Strs.ownGrown (HV1.out.below (ext_new W1 (.cells #[.string d,.bool false] 203))) hg4 HSB.out (fun g hg=>(ho1.lt g hg).1))
        clear ho4 hg4 ho1
        go_wp2
        go_roundw
        case rel=>exact ⟨f',i,cur.take k,way++[(d,false)],tl,(by first|(rw [List.length_drop];omega)|(rw [List.length_take];omega)),(by first|(rw [List.length_drop];omega)|(rw [List.length_take];omega)),by rw [List.length_take,Nat.min_eq_left (by omega)],by go_num,(by first|(rw [List.length_drop];omega)|(rw [List.length_take];omega)),by rw [HSP.out,List.append_assoc];rfl,HT2.out,HP4.out,by rw [List.length_append,List.length_singleton,sdC_append];exact HO4.out,HE4.out⟩
        case measure=>simp [intOf];omega
end
end Go.Proofs.YtimoapjhepmehaaGreatDoor
