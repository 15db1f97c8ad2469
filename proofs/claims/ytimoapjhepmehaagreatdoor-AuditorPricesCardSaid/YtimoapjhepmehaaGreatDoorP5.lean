/-
  Part 5 of 54: the contracts that the proof of the last part uses; each stands under its own head.
-/
import Derived.Test.YtimoapjhepmehaaGreatDoorP2
import Derived.Test.YtimoapjhepmehaaGreatDoorP3
import Derived.ChangeKeysEq
import Derived.LoopN
import Derived.WalkMore
import Derived.Deep.RegionHeld3
import Derived.StillTailTactics
import Derived.BigRegion
import Derived.Deep.RegionWith
import Derived.OrdersHeld
import Derived.Test.YtimoapjhepmehaaGreatDoorP1
import Derived.Lib.ConvBytes
import Derived.Laws.Closers25
import Derived.BigQuiet
import Derived.Shelf.Strings.BuilderK
import Derived.Lib.FrozenHead2
import Derived.Lib.OthersKept
import Derived.Shelf.RegionOpen
import Derived.Maps.RangeRun
set_option linter.unusedSimpArgs false
set_option linter.unusedVariables false
set_option maxHeartbeats 4000000
set_option maxRecDepth 100000
namespace Go.Proofs.YtimoapjhepmehaaGreatDoor
section
open Go.RowKit Go.Shelf
attribute [local go_sem] Oper.semAt_some
attribute [local go_sem ↓] Go.wp_at_zero Go.wp_at_succ
def OnePost (J Jx:List Unit→World→Prop) (e:Ending) (W':World):Prop:=(∃ v,e=.returned v)∧(J [()] W'∨∃ pre,Jx pre W')
theorem and127 (z:Nat) (hz:z<128):bits BinOp.and IntKind.u64 (z:Int) 127=(z:Int):=by
  have h:∀ z:Fin 128,bits BinOp.and IntKind.u64 ((z.1:Nat):Int) 127=((z.1:Nat):Int):=by decide +kernel
  exact h ⟨z,hz⟩
theorem groups1_in (n:Nat) (hn:1≤n) (l Bz z:Nat) (hz:z<128) (J Jx:List Unit→World→Prop)
    (hY:∀ pre x W,J pre W→pre.length<1→YieldAt Fence.wide (n-1) Tryz.prog l #[.int .u8 (z:Int),.bool true] W fun e W'=>
      (e=.returned (.bool true)∧J (pre++[x]) W'∧True)∨(e=.returned (.bool false)∧Jx (pre++[x]) W'))
    (W:World) (hBz:W.cell? ⟨Bz,0,none⟩=some (.int .u64 (z:Int))) (h0:J [] W) :
    CallsIn Fence.wide n Tryz.prog 194 #[.func (.yield l) #[] #[],.pointer (some ⟨Bz,0,none⟩)] W (OnePost J Jx):=by
  refine callsIn_of_wp Tryz.func194 rfl trivial ?_ rfl
  simp only [Tryz.ntmps194,List.size_toArray,List.length_cons,List.length_nil,Nat.reduceAdd,Nat.reduceSub,Array.replicate_succ,Array.replicate_zero,List.push_toArray,List.append_toArray,List.nil_append,List.cons_append]
  obtain ⟨fn,tmps,assign,body,hy,hR⟩:=hY [] () W h0 (by simp)
  have hz':(z:Int)<128:=by omega
  gi_wp2
  refine wpIn_loop_rounds 1 ?_
  rw [roundsIn_succ]
  have hand:=and127 z hz
  have hmod:(z:Int) % 256=(z:Int):=by omega
  gi_wp2
  refine hR.mono ?_
  rintro e W3 (⟨rfl,hJ3,hk3⟩|⟨rfl,hJx3⟩)
  · gi_wp2
    refine bodyPost_ret (results_none rfl _ _ _) rfl ?_
    exact ⟨⟨_,rfl⟩,.inl hJ3⟩
  · gi_wp2
    refine bodyPost_ret (results_none rfl _ _ _) rfl ?_
    exact ⟨⟨_,rfl⟩,.inr ⟨_,hJx3⟩⟩
theorem groups_stops (n:Nat) (hn:1≤n) (Bz z:Nat) (hz:z<128) (w:World) (hBz:w.cell? ⟨Bz,0,none⟩=some (.int .u64 (z:Int))) :
    SeqStopsK Fence.wide n Tryz.prog 194 #[.pointer (some ⟨Bz,0,none⟩)] (fun _:Unit=>#[.int .u8 (z:Int),.bool true])
      (fun _ _=>True) (fun ys=>ys=[()]) (fun _=>True) 1 w:=fun l J Jx W hW hJ _ hY h0=>by
  refine (groups1_in n hn l Bz z hz J Jx hY W ((hW.cell (p:=⟨Bz,0,none⟩) (lt_of_cell hBz)).trans hBz) h0).mono ?_
  rintro e W' ⟨he,hj|⟨pre,hj⟩⟩
  · exact ⟨he,.inl ⟨_,rfl,hj⟩⟩
  · exact ⟨he,.inr ⟨_,trivial,hj⟩⟩
theorem groups_any (z:Nat) (w:World) :
    Calls Tryz.prog 157 #[.int .u64 (z:Int)] w fun e w'=>
      e=.returned (.func (.func 194) #[] #[.pointer (some ⟨w.heap.size,0,none⟩)])∧w.alloc (.cells #[.int .u64 (z:Int)] 257)=w':=by
  have hmf:∀ (fn:Fn) (first cap:Array Value) (w:World),(Instr.makeFunc fn first cap).run Tryz.prog w=.ok (.func fn first cap) w:=fun _ _ _ _=>rfl
  go_enter Tryz.func157,Tryz.ntmps157
  go_wp2
  go_ret
  exact ⟨rfl,rfl⟩
theorem u8_infoR:(Tryz.prog.info? 5).map (fun i=>(i.zero,i.size,i.bytes))=some (some (.int .u8 0),1,1):=by kernel_rfl
theorem xor0 (n:Nat) (hn:n<64):bits BinOp.xor IntKind.u64 ((n:Int)*2) 0=((2*n:Nat):Int):=by
  have h:∀ z:Fin 64,bits BinOp.xor IntKind.u64 (((z.1:Nat):Int)*2) 0=((2*z.1:Nat):Int):=by decide +kernel
  exact h ⟨n,hn⟩
def byteS (n:Nat):ByteArray:=⟨#[UInt8.ofNat n]⟩
theorem putInt_any (n:Nat) (hn:n<64) (w:World) :
    Calls Tryz.prog 104 #[.int .i64 (n:Int)] w fun e w'=>e=.returned (.tuple #[.string (byteS (2*n)),.int .i64 0])∧Below w.heap.size w w':=by
  have q0:(n:Int)<64:=by omega
  obtain ⟨ib,hib,hzb0,hzb1,hzb2⟩:=info_parts u8_infoR
  have hdiv:(n:Int) / 9223372036854775808=0:=by omega
  obtain ⟨z,hz⟩:∃ z,z=2*n:=⟨_,rfl⟩
  have hxor:bits BinOp.xor IntKind.u64 ((n:Int)*2) 0=(z:Int):=by rw [hz];exact xor0 n hn
  have hz128:z<128:=by omega
  have HZ:=Lib.hid hz
  clear hz
  have l1:decide ((n:Int) < -4611686018427387903)=false:=decide_eq_false (by omega)
  have l2:decide (4611686018427387903<(n:Int))=false:=decide_eq_false (by omega)
  refine (callsIn_wide (n:=3)).1 (callsIn_of_wp_marks Tryz.func104 rfl trivial (wpIn_wide.2 ?_) rfl)
  simp only [Tryz.ntmps104,List.size_toArray,List.length_cons,List.length_nil,Nat.reduceAdd,Nat.reduceSub,Array.replicate_succ,Array.replicate_zero,List.push_toArray,List.append_toArray,List.nil_append,List.cons_append]
  go_wp2_with (go_at_call 157;refine (groups_any _ _).mono ?_;rintro e W2 ⟨rfl,rfl⟩)
  obtain ⟨B,hB⟩:∃ B,B=w.heap.size:=⟨_,rfl⟩
  have hI0:(∃ v,Boxed ((w.alloc (.cells #[.slice none 0 0] 213)).alloc (.cells #[.int .u64 (z:Int)] 257)) w.heap.size 213 v∧((w.alloc (.cells #[.slice none 0 0] 213)).alloc (.cells #[.int .u64 (z:Int)] 257)).ownsRow w.heap.size 5 1 v ([]:List Unit).length (([]:List Unit).map fun _=>Value.int .u8 (z:Int))∧True)∧Below w.heap.size w ((w.alloc (.cells #[.slice none 0 0] 213)).alloc (.cells #[.int .u64 (z:Int)] 257)):=
    ⟨⟨_,(Boxed.new _ _ _).alloc _,World.ownsRow_nil _ _ _ _,trivial⟩,((Below.refl _ _).alloc (Nat.le_refl _) _).alloc (by simp) _⟩
  refine (wpIn_wide (n:=3)).1 ?_
  refine' wpIn_rangeFunc_ownF rfl (by omega) (gf:=194) (lb:=#[.pointer (some ⟨w.heap.size+1,0,none⟩)]) (by simp [Act.eval]) trivial (enters_of Tryz.func194 (by kernel_rfl) rfl)
    (groups_stops 2 (by omega) (w.heap.size+1) z hz128 _ (by have h:=(Boxed.new (w.alloc (.cells #[.slice none 0 0] 213)) 257 (.int .u64 (z:Int))).cell;rw [World.size_alloc] at h;exact h))
    (fun _ _=>trivial) (fun _ _ _ _ _ _ _ _=>trivial) (Below.refl _ _) (fun _=>rfl)
    (fun (pre:List Unit) W=>(∃ v,Boxed W w.heap.size 213 v∧W.ownsRow w.heap.size 5 1 v pre.length (pre.map fun _=>Value.int .u8 (z:Int))∧True)∧Below w.heap.size w W) (fun _ _ _=>False)
    (OwnFrom.and (Own.from (holdsRow_own w.heap.size w.heap.size 213 5 1 (fun pre:List Unit=>pre.length) (fun pre:List Unit=>pre.map fun _=>Value.int .u8 (z:Int)) (fun _ _=>True)) _) (ownFrom_below (Nat.le_refl _) (by simp;omega)))
    (fun _ _ _ _ _ hs _ _=>hs) hI0 _ ?assign ?body ?done ?stop
  case assign=>
    intro l x W K hK
    gi_wp2
    exact hK
  case body=>
    rintro l pre x W ⟨⟨v,hv,hrow,_⟩,hb⟩ hlen
    obtain rfl:pre=[]:=by
      cases pre with
      | nil=>rfl
      | cons a t=>simp at hlen
    have hvc:=hv.cell
    have hbs:=hb.size
    gi_wp2_with (gi_at_builtin;refine wpListIn_append_own _ rfl (.tmp 27) (.tmp 29) 213 rfl w.heap.size 5 ib (.int .u8 0) 1 1 Tryz.underlying213 hib hzb0 hzb1 hzb2 rfl (by decide) _ _ _ rfl (hrow.alloc _) ⟨W.heap.size,0,none⟩ 1 1 [.int .u8 (z:Int)] rfl rfl (cell_one_new _ _ _) (by simp [Value.oneCell']) (by unfold maxLen;simp) (by simp) (by simp;omega) ?_;intro v' w1 hown' hgrow _;obtain ⟨g',cap',rfl⟩:=ownsRow_succ hown';obtain ⟨hv1,hv2,hr2,hk2,hb2⟩:=hv.appended (by decide) hrow hbs (Nat.le_refl _) hown' hgrow;have hc1:=hv1.cell;have hf1:=hv1.frozen)
    exact ⟨hk2,trivial,⟨_,hv2,hr2,trivial⟩,hb.trans hb2⟩
  case done=>
    rintro D ys' W hD rfl ⟨⟨v,hv,hrow,_⟩,hb⟩ hK
    obtain ⟨g,cg,rfl⟩:=ownsRow_succ hrow
    have hvc:=hv.cell
    have hcv:(convert 213 9 (.slice (some ⟨g,0,none⟩) 1 cg)).run Tryz.prog W=.ok (.string (byteS z)) W:=by
      rw [run_convert_bytes_string W 213 9 5 _ 1 cg Tryz.underlying213 Tryz.underlying5 Tryz.underlying9]
      have h:=run_loadCells_list (P:=Tryz.prog) W ⟨g,0,none⟩ ([(z:Int)].map (Value.int .u8)) (fun j x hx=>by
        match j,hx with
        | 0,hx=>simp at hx;subst hx;exact hrow.cells (g:=g) rfl 0 _ rfl)
      exact run_bytesToString W _ 1 cg [(z:Int)] h
    go_wp2
    refine ⟨by simp,.inl ⟨_,_,rfl,run_takeDeferred hK,?_⟩⟩
    refine ⟨_,results_tmp2 rfl _ _ _,?_,?_⟩
    · rw [← HZ.out];rfl
    · exact hb.grown (grownBy_putObj' W D _) hb.size (fun k e=>by injection e with e;simp at hD;omega)
  case stop=>
    rintro D c pre W _ _ h _
    exact h.elim
end
section
open Go.RowKit
attribute [local go_sem ↓] Go.wp_at_zero Go.wp_at_succ
structure HeadB (w:World) (b:Nat) (cs:Array Value):Prop where
  lt:b<w.heap.size
  cells:∀ i,i<cs.size→w.cell? ⟨b,i,none⟩=cs[i]?
section
variable {w W:World} {b:Nat} {cs zs:Array Value} {t:TypeId}
end
theorem chg_size:(Tryz.prog.info? 72).map (·.size)=some 10:=by kernel_rfl
end
section
open Go.RowKit
attribute [local go_sem ↓] Go.wp_at_zero Go.wp_at_succ
structure ChgT where
  t:Int
  k:Int
  had:Bool
  o1:Int
  o2:Int
  o3:Int
  has:Bool
  n1:Int
  n2:Int
  n3:Int
def ChgT.arr (c:ChgT):Array Value:=#[.int .i64 c.t,.int .i64 c.k,.bool c.had,.int .i64 c.o1,.int .i64 c.o2,.int .i64 c.o3,.bool c.has,.int .i64 c.n1,.int .i64 c.n2,.int .i64 c.n3]
def ChgT.val (c:ChgT):Value:=.agg c.arr
def ChgT.ok (c:ChgT):Prop:=((0≤c.t∧c.t≤3)∧(1≤c.k∧c.k≤1000000))∧(c.had=false→c.o1=0∧c.o2=0∧c.o3=0)∧(c.has=false→c.n1=0∧c.n2=0∧c.n3=0) ∧
  ((-1000000000≤c.o1∧c.o1≤1000000000)∧(-1000000000≤c.o2∧c.o2≤1000000000)∧(-1000000000≤c.o3∧c.o3≤1000000000))∧((-1000000000≤c.n1∧c.n1≤1000000000)∧(-1000000000≤c.n2∧c.n2≤1000000000)∧(-1000000000≤c.n3∧c.n3≤1000000000))
def ChgT.turns (c:ChgT):Bool:=(c.had != c.has) || (c.had && !(decide (c.o1=c.n1) && decide (c.o2=c.n2) && decide (c.o3=c.n3)))
theorem int_infoP:(Tryz.prog.info? 3).map (fun i=>(i.zero,i.size,i.bytes))=some (some (.int .i64 0),1,8):=by kernel_rfl
theorem eq3 (a b c x y z:Int) (W:World):(Op.equalIn 10000 62 (.agg #[.int .i64 a,.int .i64 b,.int .i64 c]) (.agg #[.int .i64 x,.int .i64 y,.int .i64 z])).run Tryz.prog W=.ok (decide (a=x) && decide (b=y) && decide (c=z)) W:=by
  obtain ⟨is,his,_,_,_⟩:=info_parts int_infoP
  have hc:Tryz.prog.cellsOf 3=1:=by kernel_rfl
  have hl:List.range 3=[0,1,2]:=by decide
  have hp:∀ (k:Nat) (a:Array Value) (n:Int),a[k]? = some (.int .i64 n)→(part 3 a k).run Tryz.prog W=.ok (.int .i64 n) W:=fun k a n h=>run_part_plain W (by kernel_rfl) h
  have he:∀ m n:Int,(Op.equalIn 9999 3 (.int .i64 m) (.int .i64 n)).run Tryz.prog W=.ok (m == n) W:=fun m n=>by
    rw [show 9999=9998+1 from rfl,run_equalIn_int (k':=.i64) W 9998 _ _ _ _ Tryz.underlying3]
  refine (run_equalIn_array (d:=9999) W #[.int .i64 a,.int .i64 b,.int .i64 c] #[.int .i64 x,.int .i64 y,.int .i64 z] Tryz.underlying62 his).trans ?_
  rw [hc,hl]
  by_cases h1:a=x <;> by_cases h2:b=y <;> by_cases h3:c=z <;> simp [Op.eqItems,hp 0 _ a,hp 0 _ x,hp 1 _ b,hp 1 _ y,hp 2 _ c,hp 2 _ z,he,h1,h2,h3]
theorem soundNo (c:ChgT) (w:World):Calls Tryz.prog 199 #[.agg #[.int .i64 c.t,.int .i64 c.k,.bool c.had,.int .i64 c.o1,.int .i64 c.o2,.int .i64 c.o3,.bool c.has,.int .i64 c.n1,.int .i64 c.n2,.int .i64 c.n3],.bool false,.agg #[.int .i64 0,.int .i64 0,.int .i64 0]] w fun e w'=>e=.returned (.bool true)∧Below w.heap.size w w':=by
  obtain ⟨t,k,had,o1,o2,o3,has,n1,n2,n3⟩:=c
  have heq:∀ W:World,(Op.equalIn 10000 62 (.agg #[.int .i64 0,.int .i64 0,.int .i64 0]) (.agg #[.int .i64 0,.int .i64 0,.int .i64 0])).run Tryz.prog W=.ok true W:=fun _=>by kernel_rfl
  go_enter Tryz.func199,Tryz.ntmps199
  go_wp2_with (go_at_call 118;refine (half_no _ _ _ _ _ _ _ _ _ _ _ _ _ _).mono ?_;rintro e W1 ⟨rfl,hb1⟩;have hB1:=(((Blk.new' (w.alloc (.cells #[.int .i64 t,.int .i64 k,.bool had,.int .i64 o1,.int .i64 o2,.int .i64 o3,.bool has,.int .i64 n1,.int .i64 n2,.int .i64 n3] 72)) 62 #[.int .i64 0,.int .i64 0,.int .i64 0] (b:=w.heap.size+1) (by simp)))).ext hb1;have c0:=hB1.cell 0;have c1:=hB1.cell 1;have c2:=hB1.cell 2;have l1:=hB1.lt;have HL1:=Lib.hid (ext_call (ext_alloc (ext_new w _) _) hb1);clear hb1 hB1)
  go_ret
  exact ⟨rfl,ext_alloc HL1.out _⟩
theorem soundYes (c:ChgT) (a1 a2 a3:Int) (w:World) (hr:RowT.ok ⟨c.t,c.k,a1,a2,a3⟩):Calls Tryz.prog 199 #[.agg #[.int .i64 c.t,.int .i64 c.k,.bool c.had,.int .i64 c.o1,.int .i64 c.o2,.int .i64 c.o3,.bool c.has,.int .i64 c.n1,.int .i64 c.n2,.int .i64 c.n3],.bool true,.agg #[.int .i64 a1,.int .i64 a2,.int .i64 a3]] w fun e w'=>e=.returned (.bool true)∧Below w.heap.size w w':=by
  obtain ⟨t,k,had,o1,o2,o3,has,n1,n2,n3⟩:=c
  have HR:=Lib.hid (fun W:World=>rowValid_yes ⟨t,k,a1,a2,a3⟩ W hr)
  clear hr
  go_enter Tryz.func199,Tryz.ntmps199
  go_wp2_with (first
    | (go_at_call 118;refine (half_yes _ _ _ _ _ _ _ _ _ _ _ _ _ _).mono ?_;rintro e W1 ⟨rfl,hb1⟩;have HL1:=Lib.hid (ext_call (ext_alloc (ext_new w _) _) hb1);clear hb1)
    | (go_at_call 156;refine (HR.out _).mono ?_;rintro e W2 ⟨rfl,hb2⟩;have HL2:=Lib.hid (ext_call (ext_alloc HL1.out _) hb2);clear hb2))
  go_ret
  exact ⟨rfl,HL2.out⟩
theorem sound_old (c:ChgT) (hc:c.ok) (w:World):Calls Tryz.prog 199 #[.agg #[.int .i64 c.t,.int .i64 c.k,.bool c.had,.int .i64 c.o1,.int .i64 c.o2,.int .i64 c.o3,.bool c.has,.int .i64 c.n1,.int .i64 c.n2,.int .i64 c.n3],.bool c.had,.agg #[.int .i64 c.o1,.int .i64 c.o2,.int .i64 c.o3]] w fun e w'=>e=.returned (.bool true)∧Below w.heap.size w w':=by
  obtain ⟨⟨h1,h2⟩,h3,h4,h5,h6⟩:=hc
  cases hh:c.had
  · obtain ⟨e1,e2,e3⟩:=h3 hh
    have:=soundNo c w
    rw [hh,e1,e2,e3] at this
    rw [e1,e2,e3]
    exact this
  · have:=soundYes c c.o1 c.o2 c.o3 w ⟨h1,h2,h5.1,h5.2.1,h5.2.2⟩
    rw [hh] at this
    exact this
theorem sound_new (c:ChgT) (hc:c.ok) (w:World):Calls Tryz.prog 199 #[.agg #[.int .i64 c.t,.int .i64 c.k,.bool c.had,.int .i64 c.o1,.int .i64 c.o2,.int .i64 c.o3,.bool c.has,.int .i64 c.n1,.int .i64 c.n2,.int .i64 c.n3],.bool c.has,.agg #[.int .i64 c.n1,.int .i64 c.n2,.int .i64 c.n3]] w fun e w'=>e=.returned (.bool true)∧Below w.heap.size w w':=by
  obtain ⟨⟨h1,h2⟩,h3,h4,h5,h6⟩:=hc
  cases hh:c.has
  · obtain ⟨e1,e2,e3⟩:=h4 hh
    have:=soundNo c w
    rw [hh,e1,e2,e3] at this
    rw [e1,e2,e3]
    exact this
  · have:=soundYes c c.n1 c.n2 c.n3 w ⟨h1,h2,h6.1,h6.2.1,h6.2.2⟩
    rw [hh] at this
    exact this
theorem validChange_any (c:ChgT) (hc:c.ok) (w:World):Calls Tryz.prog 171 #[.agg #[.int .i64 c.t,.int .i64 c.k,.bool c.had,.int .i64 c.o1,.int .i64 c.o2,.int .i64 c.o3,.bool c.has,.int .i64 c.n1,.int .i64 c.n2,.int .i64 c.n3]] w fun e w'=>e=.returned (.bool c.turns)∧Below w.heap.size w w':=by
  have HO:=Lib.hid (fun W:World=>sound_old c hc W)
  have HN:=Lib.hid (fun W:World=>sound_new c hc W)
  obtain ⟨b,hb⟩:∃ b,b=c.turns:=⟨_,rfl⟩
  rw [← hb]
  clear hc
  obtain ⟨t,k,had,o1,o2,o3,has,n1,n2,n3⟩:=c
  have heq:=fun W:World=>eq3 o1 o2 o3 n1 n2 n3 W
  have HB0:=Lib.hid (Blk.new w 72 #[.int .i64 t,.int .i64 k,.bool had,.int .i64 o1,.int .i64 o2,.int .i64 o3,.bool has,.int .i64 n1,.int .i64 n2,.int .i64 n3])
  simp only [ChgT.turns] at hb
  dsimp only at HO HN ⊢
  generalize (decide (o1=n1) && decide (o2=n2) && decide (o3=n3))=q at hb heq
  have HT:=Lib.hid (fun W1:World=>fun (hb1:Below (w.alloc (.cells #[.int .i64 t,.int .i64 k,.bool had,.int .i64 o1,.int .i64 o2,.int .i64 o3,.bool has,.int .i64 n1,.int .i64 n2,.int .i64 n3] 72)).heap.size (w.alloc (.cells #[.int .i64 t,.int .i64 k,.bool had,.int .i64 o1,.int .i64 o2,.int .i64 o3,.bool has,.int .i64 n1,.int .i64 n2,.int .i64 n3] 72)) W1)=>And.intro (HB0.out.ext hb1) (ext_call (ext_new w _) hb1))
  cases had <;> cases has <;> cases q <;> simp only [Bool.false_bne,Bool.true_bne,Bool.not_true,Bool.not_false,Bool.or_true,Bool.or_false,Bool.true_or,Bool.false_or,Bool.and_true,Bool.and_false,Bool.false_and,Bool.true_and,bne_self_eq_false] at hb <;> subst hb <;> go_enter Tryz.func171,Tryz.ntmps171 <;> (go_wp2_with fail) <;>
    first
    | (go_ret;exact ⟨rfl,ext_new w _⟩)
    | (refine (HO.out _).mono ?_
       rintro e W1 ⟨rfl,hb1⟩
       have hB1:=(HT.out _ hb1).1
       have c0:=hB1.cell 0;have c1:=hB1.cell 1;have c2:=hB1.cell 2;have c3:=hB1.cell 3;have c4:=hB1.cell 4;have c5:=hB1.cell 5;have c6:=hB1.cell 6;have c7:=hB1.cell 7;have c8:=hB1.cell 8;have c9:=hB1.cell 9
       have HL1:=Lib.hid (HT.out _ hb1).2
       clear hb1 hB1
       go_wp2_with fail
       refine (HN.out _).mono ?_
       rintro e W2 ⟨rfl,hb2⟩
       go_wp2
       go_ret
       exact ⟨rfl,ext_call HL1.out hb2⟩)
end
section
open Go.RowKit
attribute [local go_sem ↓] Go.wp_at_zero Go.wp_at_succ
theorem within1_low (n lo hi:Int) (bl bh:Nat) (w:World) (hl:w.cell? ⟨bl,0,none⟩=some (.int .i64 lo)) (h1:n<lo) :
    Calls Tryz.prog 198 #[.int .i64 n,.pointer (some ⟨bl,0,none⟩),.pointer (some ⟨bh,0,none⟩)] w fun e w'=>e=.returned (.bool true)∧w=w':=by
  have d1:decide (n<lo)=true:=decide_eq_true h1
  go_enter Tryz.func198,Tryz.ntmps198
  go_wp2
  go_ret
  exact ⟨rfl,rfl⟩
theorem indexIn_low (b c:Nat) (n lo hi:Int) (bl bh:Nat) (w:World) (hl:w.cell? ⟨bl,0,none⟩=some (.int .i64 lo)) (hc:w.cell? ⟨b,0,none⟩=some (.int .i64 n)) (h1:n<lo) :
    Calls Tryz.prog 226 #[.slice (some ⟨b,0,none⟩) 1 c,.func (.func 198) #[] #[.pointer (some ⟨bl,0,none⟩),.pointer (some ⟨bh,0,none⟩)]] w fun e w'=>e=.returned (.int .i64 0)∧w=w':=by
  go_enter Tryz.func226,Tryz.ntmps226
  go_wp2
  refine wp_loop_rounds 1 ?_
  rw [rounds_succ]
  go_wp2_with (go_at_call 198;refine (within1_low _ _ hi _ _ _ hl h1).mono ?_;rintro e w' ⟨rfl,rfl⟩)
  go_ret
  exact ⟨rfl,rfl⟩
theorem within_low (b c:Nat) (n lo hi:Int) (w:World) (hc:w.cell? ⟨b,0,none⟩=some (.int .i64 n)) (h1:n<lo) :
    Calls Tryz.prog 170 #[.int .i64 lo,.int .i64 hi,.slice (some ⟨b,0,none⟩) 1 c] w fun e w'=>e=.returned (.bool false)∧Below w.heap.size w w':=by
  have hmf:∀ (fn:Fn) (first cap:Array Value) (w:World),(Instr.makeFunc fn first cap).run Tryz.prog w=.ok (.func fn first cap) w:=fun _ _ _ _=>rfl
  have hbl:Below w.heap.size w ((w.alloc (.cells #[.int .i64 lo] 3)).alloc (.cells #[.int .i64 hi] 3)):=((Below.refl _ _).alloc (Nat.le_refl _) _).alloc (by simp) _
  have HI:=Lib.hid (indexIn_low b c n lo hi w.heap.size (w.heap.size+1) ((w.alloc (.cells #[.int .i64 lo] 3)).alloc (.cells #[.int .i64 hi] 3)) (cell_al ((Blk.new _ _ _).cell 0) _) (cell_ext hc hbl) h1)
  have HB:=Lib.hid hbl
  clear hc h1 hbl
  go_enter Tryz.func170,Tryz.ntmps170
  go_wp2_with (first
    | (go_at_call 197;go_in)
    | (go_at_call 226;refine HI.out.mono ?_;rintro e w' ⟨rfl,rfl⟩))
  go_ret
  exact ⟨rfl,HB.out⟩
def ChgsAt (w:World) (v:Value) (l:List ChgT):Prop:=
  ∃ A c,v=.slice A l.length c∧l.length≤c∧(0<l.length→∃ b off,A=some ⟨b,off,none⟩∧∀ (j:Nat) (x:ChgT),l[j]? = some x→∀ i,i<10→w.cell? ⟨b,off+j*10+i,none⟩=x.arr[i]?)
theorem ChgsAt.ext {w W:World} {v:Value} {l:List ChgT} (h:ChgsAt w v l) (k:Below w.heap.size w W):ChgsAt W v l:=by
  obtain ⟨A,c,rfl,hc,h⟩:=h
  refine ⟨A,c,rfl,hc,fun h0=>?_⟩
  obtain ⟨b,off,hA,hcell⟩:=h h0
  refine ⟨b,off,hA,fun j x hx i hi=>?_⟩
  have h1:=hcell j x hx i hi
  rw [Array.getElem?_eq_getElem (show i<x.arr.size from hi)] at h1 ⊢
  exact cell_ext h1 k
theorem ChgsAt.at_ {w:World} {v:Value} {l:List ChgT} (h:ChgsAt w v l) {j:Nat} {x:ChgT} (hj:l[j]? = some x):∃ b off c,v=.slice (some ⟨b,off,none⟩) l.length c∧l.length≤c∧∀ i,i<10→w.cell? ⟨b,off+j*10+i,none⟩=x.arr[i]? := by
  obtain ⟨A,c,rfl,hc,h⟩:=h
  have hlt:=(List.getElem?_eq_some_iff.1 hj).1
  obtain ⟨b,off,rfl,hcell⟩:=h (by omega)
  exact ⟨b,off,c,rfl,hc,hcell j x hj⟩
structure ChgsOK (l:List ChgT):Prop where
  few:l.length≤8
  ok:∀ x ∈ l,x.ok
  asc:∀ (j:Nat) (a b:ChgT),l[j]? = some a→l[j+1]? = some b→a.t<b.t∨(a.t=b.t∧a.k<b.k)
def validF (l:List ChgT):Bool := !l.isEmpty && l.all ChgT.turns
def noChg:ChgT:=⟨-1,0,false,0,0,0,false,0,0,0⟩
def lastC (l:List ChgT):Nat→ChgT
  | 0=>noChg
  | k+1=>l.getD k noChg
theorem validRecord_any (p:Int) (hp:1≤p∧p≤10000) (l:List ChgT) (v:Value) (w:World) (hv:ChgsAt w v l) (hl:ChgsOK l):Calls Tryz.prog 117 #[.agg #[.int .i64 p,v]] w fun e w'=>e=.returned (.bool (validF l))∧Below w.heap.size w w':=by
  have I1:=Lib.hid (show inF 1 10000 [p]=true by simp [inF,hp.1,hp.2])
  have HV:=Lib.hid hv
  have HL:=Lib.hid hl
  obtain ⟨A,c,rfl,hc,-⟩:=hv
  have HB0:=Lib.hid (Blk.new w 75 #[.int .i64 p,.slice A l.length c])
  have hfew:=hl.few
  clear hl
  go_enter Tryz.func117,Tryz.ntmps117
  go_wp2_with fail
  refine (within_yes (w.heap.size+1) 0 1 [p] 1 10000 _ (.of_blk (Blk.new' _ _ _ (by simp)) 0 [p] rfl) (by simp) (by simp) I1.out).mono ?_
  rintro e W1 ⟨rfl,hb1⟩
  have hB1:=(HB0.out.alloc _).ext hb1
  have c1:=hB1.cell 1
  have HB1:=Lib.hid hB1
  have HL1:=Lib.hid (ext_call (ext_alloc (ext_new w _) _) hb1)
  clear hb1 hB1
  go_wp2_with fail
  by_cases h0:l.length=0
  · refine (within_low W1.heap.size 1 (l.length:Int) 1 8 _ ((Blk.new _ _ _).cell 0) (by omega)).mono ?_
    rintro e W2 ⟨rfl,hb2⟩
    have hF:=Lib.hid (show validF l=false by rw [List.length_eq_zero_iff] at h0;rw [h0];rfl)
    go_wp2
    go_ret
    exact ⟨by rw [hF.out];rfl,ext_call (ext_alloc HL1.out _) hb2⟩
  refine (within_yes W1.heap.size 0 1 [(l.length:Int)] 1 8 _ (.of_blk (Blk.new _ _ _) 0 [(l.length:Int)] rfl) (by simp) (by simp) (by simp [inF];omega)).mono ?_
  rintro e W2 ⟨rfl,hb2⟩
  have hB2:=(HB1.out.alloc _).ext hb2
  have c1:=hB2.cell 1
  have l1:=hB2.lt
  have HL2:=Lib.hid (ext_call (ext_alloc HL1.out _) hb2)
  clear hb2 hB2
  go_wp2
  have HB3:=Lib.hid (Blk.new W2 72 #[.int .i64 (-1),.int .i64 0,.bool false,.int .i64 0,.int .i64 0,.int .i64 0,.bool false,.int .i64 0,.int .i64 0,.int .i64 0])
  have HL3:=Lib.hid (ext_alloc HL2.out (.cells #[.int .i64 (-1),.int .i64 0,.bool false,.int .i64 0,.int .i64 0,.int .i64 0,.bool false,.int .i64 0,.int .i64 0,.int .i64 0] 72))
  have HS:=Lib.hid (HL2.out.size)
  generalize hbl:W2.heap.size=bl at *
  generalize W2.alloc (.cells #[.int .i64 (-1),.int .i64 0,.bool false,.int .i64 0,.int .i64 0,.int .i64 0,.bool false,.int .i64 0,.int .i64 0,.int .i64 0] 72)=W3 at *
  clear c1 l1 HL2 HL1 HB1 HB0
  go_loopw [5,23] (fun _ i W=>∃ k:Nat,k≤l.length∧i=.int .i64 k∧Blk W bl 72 (lastC l k).arr∧(∀ j x,j<k→l[j]? = some x→x.turns=true)∧Below w.heap.size w W) (fun _ i _=>l.length-(intOf i).toNat)
  case atStart=>exact ⟨0,Nat.zero_le _,rfl,HB3.out,fun j x hj=>by omega,HL3.out⟩
  case round=>
    obtain ⟨k,hk,rfl,hb,ht,hE⟩:=hrel
    have HE:=Lib.hid hE
    have HT:=Lib.hid ht
    clear hE ht
    by_cases hlt:k<l.length
    · obtain ⟨x,hx⟩:∃ x,l[k]? = some x:=⟨_,List.getElem?_eq_getElem hlt⟩
      obtain ⟨b,off,c',hA,_,hc9⟩:=(HV.out.ext HE.out).at_ hx
      injection hA with hA hn' hc'
      subst hA;subst hc'
      clear hn'
      have c0:=hc9 0 (by omega)
      have c1:=hc9 1 (by omega)
      have c2:=hc9 2 (by omega)
      have c3:=hc9 3 (by omega)
      have c4:=hc9 4 (by omega)
      have c5:=hc9 5 (by omega)
      have c6:=hc9 6 (by omega)
      have c7:=hc9 7 (by omega)
      have c8:=hc9 8 (by omega)
      have c9:=hc9 9 (by omega)
      have HVC:=Lib.hid (fun W:World=>validChange_any x (HL.out.ok x (List.mem_of_getElem? hx)) W)
      have HX:=Lib.hid hx
      obtain ⟨t,k',had,o1,o2,o3,has,n1,n2,n3⟩:=x
      simp [ChgT.arr] at c0 c1 c2 c3 c4 c5 c6 c7 c8 c9
      have e2:IntKind.i64.wrap ((k:Int)+1)=(k:Int)+1:=by rw [IntWalk.i64_in _ (by omega)]
      have d1:decide ((k:Int)<(l.length:Int))=true:=by simp;omega
      have q0:(0:Int)≤(k:Int):=by omega
      have q1:(k:Int)<(l.length:Int):=by omega
      clear hc9 hx
      have hcmp:¬ t<(lastC l k).t∧¬ (t=(lastC l k).t∧k'≤(lastC l k).k):=by
        cases k with
        | zero=>
          have h1:=(HL.out.ok _ (List.mem_of_getElem? HX.out)).1.1.1
          simp only [lastC,noChg] at h1 ⊢
          omega
        | succ k=>
          have hk':k<l.length:=by omega
          have h1:=HL.out.asc k l[k] _ (List.getElem?_eq_getElem hk') HX.out
          simp only [lastC,List.getD_eq_getElem?_getD,List.getElem?_eq_getElem hk',Option.getD_some] at h1 ⊢
          omega
      have HNX:=Lib.hid (show (lastC l (k+1)).arr=#[.int .i64 t,.int .i64 k',.bool had,.int .i64 o1,.int .i64 o2,.int .i64 o3,.bool has,.int .i64 n1,.int .i64 n2,.int .i64 n3] by simp [lastC,HX.out,ChgT.arr])
      have HTT:=Lib.hid (fun (h:ChgT.turns ⟨t,k',had,o1,o2,o3,has,n1,n2,n3⟩=false)=>show validF l=false by
        have h1:l.all ChgT.turns=false:=by
          rw [List.all_eq_false]
          exact ⟨_,List.mem_of_getElem? HX.out,by simp [h]⟩
        simp [validF,h1])
      have HTN:=Lib.hid (fun (h:ChgT.turns ⟨t,k',had,o1,o2,o3,has,n1,n2,n3⟩=true)=>show ∀ j x,j<k+1→l[j]? = some x→x.turns=true by
        intro j y hj hy
        rcases Nat.lt_succ_iff_lt_or_eq.1 hj with h2|rfl
        · exact HT.out j y h2 hy
        · rw [HX.out] at hy
          injection hy with hy
          rw [← hy]
          exact h)
      clear HT
      obtain ⟨tt,htt⟩:∃ tt,tt=ChgT.turns ⟨t,k',had,o1,o2,o3,has,n1,n2,n3⟩:=⟨_,rfl⟩
      rw [← htt] at HVC HTT HTN
      clear htt HX
      generalize lastC l k=la at *
      obtain ⟨lt,lk,lhad,lo1,lo2,lo3,lhas,ln1,ln2,ln3⟩:=la
      simp only [ChgT.arr] at hb
      simp only at hcmp
      obtain ⟨hc1,hc2⟩:=hcmp
      have hne:bl<wr.heap.size:=hb.lt
      have HB:=Lib.hid hb
      have HX0:=Lib.hid (Blk.new wr 72 #[.int .i64 t,.int .i64 k',.bool had,.int .i64 o1,.int .i64 o2,.int .i64 o3,.bool has,.int .i64 n1,.int .i64 n2,.int .i64 n3])
      clear hb
      go_wp2_with fail
      refine (HVC.out _).mono ?_
      rintro e W4 ⟨rfl,hb4⟩
      have HX4:=Lib.hid (HX0.out.ext hb4)
      have HB4:=Lib.hid ((HB.out.alloc _).ext hb4)
      have HE4:=Lib.hid (ext_call (ext_alloc HE.out _) hb4)
      clear hb4 c0 c1 c2 c3 c4 c5 c6 c7 c8 c9 HX0 HB HE
      cases tt
      · have hF:=Lib.hid (HTT.out rfl)
        clear HTT HTN
        go_wp2
        go_ret
        exact ⟨by rw [hF.out];rfl,HE4.out⟩
      have HTR:=Lib.hid (HTN.out rfl)
      clear HTT HTN
      have hX4:=HX4.out
      have hB4:=HB4.out
      have c0:=hX4.cell 0;have c1:=hX4.cell 1;have c2:=hX4.cell 2;have c3:=hX4.cell 3;have c4:=hX4.cell 4;have c5:=hX4.cell 5;have c6:=hX4.cell 6;have c7:=hX4.cell 7;have c8:=hX4.cell 8;have c9:=hX4.cell 9
      have b0:=hB4.cell 0
      have b1:=hB4.cell 1
      have HI:=Lib.hid chg_size
      clear hX4 hB4
      have d2:decide (t<lt)=false:=by simp;omega
      have hz:(((t == lt) && decide (k'≤lk)):Bool)=false:=by
        by_cases h1:t=lt <;> simp [h1] <;> omega
      have H1:=Lib.hid (show (#[.int .i64 t,.int .i64 k',.bool had,.int .i64 o1,.int .i64 o2,.int .i64 o3,.bool has,.int .i64 n1,.int .i64 n2,.int .i64 n3]:Array Value).all (·.oneCell')=true by simp [Value.oneCell'])
      clear hc1 hc2
      by_cases h1:t=lt
      · subst h1
        have h2:decide (k'≤lk)=false:=by simpa using hz
        clear hz
        go_wp2_with (refine wpList_store_blk rfl 72 (.tmp 3) (.tmp 51) rfl bl #[.int .i64 t,.int .i64 k',.bool had,.int .i64 o1,.int .i64 o2,.int .i64 o3,.bool has,.int .i64 n1,.int .i64 n2,.int .i64 n3] rfl rfl 72 _ HB4.out HI.out rfl H1.out ?_;intro W5 hB5 hg5;have HB5:=Lib.hid hB5;have HE5:=Lib.hid (HE4.out.grown hg5 HE4.out.size (fun j e=>by injection e with e;have:=HS.out;omega));clear hB5 hg5)
        go_roundw
        case rel=>exact ⟨k+1,by omega,by go_num,by rw [HNX.out];exact HB5.out,HTR.out,HE5.out⟩
        case measure=>simp [intOf];omega
      · have h2:decide (t=lt)=false:=by simpa using h1
        have h3:(t == lt)=false:=by simpa using h1
        clear hz
        go_wp2_with (refine wpList_store_blk rfl 72 (.tmp 3) (.tmp 51) rfl bl #[.int .i64 t,.int .i64 k',.bool had,.int .i64 o1,.int .i64 o2,.int .i64 o3,.bool has,.int .i64 n1,.int .i64 n2,.int .i64 n3] rfl rfl 72 _ HB4.out HI.out rfl H1.out ?_;intro W5 hB5 hg5;have HB5:=Lib.hid hB5;have HE5:=Lib.hid (HE4.out.grown hg5 HE4.out.size (fun j e=>by injection e with e;have:=HS.out;omega));clear hB5 hg5)
        go_roundw
        case rel=>exact ⟨k+1,by omega,by go_num,by rw [HNX.out];exact HB5.out,HTR.out,HE5.out⟩
        case measure=>simp [intOf];omega
    · have HF:=Lib.hid (show validF l=true by
        have h1:l.all ChgT.turns=true:=by
          rw [List.all_eq_true]
          intro x hx
          obtain ⟨j,hj⟩:=List.getElem?_of_mem hx
          exact HT.out j x (by have:=(List.getElem?_eq_some_iff.1 hj).1;omega) hj
        have h2:l≠[]:=by intro h;rw [h] at h0;simp at h0
        simp [validF,h1,h2])
      have d1:decide ((k:Int)<(l.length:Int))=false:=by simp;omega
      go_wp2
      go_ret
      exact ⟨by rw [HF.out];rfl,HE.out⟩
end
section
open Go.RowKit Go.Shelf
attribute [local go_sem] Oper.semAt_some
attribute [local go_sem ↓] Go.wp_at_zero Go.wp_at_succ
def encN (n:Int):Nat:=if 0≤n then 2*n.toNat else 2*(-n-1).toNat+1
end
section
open Go.RowKit Go.Shelf
def OncePost (B:Nat) (I1:World→Prop) (W:World):Exit→Act→World→Prop
  | .normal,_,W'=>KeepsFrom B W W'∧I1 W'
  | _,_,_=>False
def OwnP (B:Nat) (I:World→Prop):Prop:=OwnFrom B (fun (_:Unit) W=>I W)
theorem OwnP.and {B:Nat} {I J:World→Prop} (h:OwnP B I) (k:OwnP B J):OwnP B (fun W=>I W∧J W):=OwnFrom.and h k
theorem OwnP.below {B B0:Nat} {w:World} (h:B0≤w.heap.size) (hB:B0≤B):OwnP B (fun W=>Below B0 w W):=
  fun _ _ _ _ hs hg hr=>hs.grown hg (Nat.le_trans h hs.size) (fun k e=>Nat.le_trans hB (hr k e).1)
theorem OwnP.blk {B g:Nat} {t:TypeId} {cs:Array Value}:OwnP B (fun W=>Blk W g t cs):=fun _ X Y row hs hg hr=>
  (hg.block _ hs.lt (fun e=>by
      obtain ⟨_,o,ho,hc⟩:=hr _ e.symm
      have h1:=hs
      unfold Blk at h1
      rw [h1] at ho
      cases ho
      cases hc)).trans hs
theorem OwnP.round {B:Nat}:OwnP B RoundOK:=fun _ X Y row hs hg hr j v hv=>cell_kept (hs j v hv) hg (fun r e=>(hr r e).2)
theorem OwnP.pure {B:Nat} (p:Prop):OwnP B (fun _=>p):=fun _ _ _ _ hs _ _=>hs
end
section
open Go.RowKit Go.Shelf
def SeqMem (n:Nat) (P:Program) (g:Nat) (lb:Array Value) (N:Nat) (C:World→Prop) (M:Nat→Array Value→World→Prop):Prop:=
  ∀ (l:Nat) (J:Nat→World→Prop) (W:World),(∀ k W,J k W→C W)→(∀ k A B,J k A→Below A.heap.size A B→J k B) →
    (∀ k xs W1,k<N→J k W1→M k xs W1→YieldAt Fence.wide (n-1) P l xs W1 fun e W'=>e=.returned (.bool true)∧J (k+1) W')→J 0 W →
    CallsIn Fence.wide n P g (#[.func (.yield l) #[] #[]]++lb) W fun e W'=>(∃ v,e=.returned v)∧J N W'
theorem below_grown {A B:World} (h:Below A.heap.size A B):A.grownBy B none:=⟨h.os,h.tape,h.output,h.size,fun k hk _=>h.block k hk⟩
theorem OwnP.abide {B:Nat} {I:World→Prop} (h:OwnP B I) {X Y:World} (hs:I X) (hb:Below X.heap.size X Y):I Y:=h () X Y none hs (below_grown hb) (fun r e=>by cases e)
theorem OwnP.map {B g c:Nat} {es:Array MapEntry} (hg:g<B):OwnP B (fun W=>MapAt W g es c):=fun _ X Y row hs hgr hr=>
  (hgr.block _ hs.lt (fun e=>by have:=(hr _ e.symm).1;omega)).trans hs
theorem wpIn_mem {n:Nat} {P:Program} {g:Operand} {ps:Array Tmp} {assign body:Code} {Q:Exit→Act→World→Prop} {a:Act} {w:World}
    (h1:1≤n) {gf:Nat} {lb:Array Value} (hg:a.eval g=.func (.func gf) #[] lb) (eg:∀ args w,(callFunc gf args).run P w=.ok (.enter gf args) w)
    {N:Nat} {C:World→Prop} {M:Nat→Array Value→World→Prop} (hseq:SeqMem (n-1) P gf lb N C M) (hps:∀ k xs W,M k xs W→xs.size=ps.size)
    (I:Nat→World→Prop) (hI:∀ k,OwnP w.heap.size (I k)) (hC:∀ k W,I k W→C W) (h0:I 0 w)
    (Ax:Nat→Act→World→Prop) (hAx:∀ k a',OwnP w.heap.size (Ax k a'))
    (hassign:∀ (l k:Nat) (xs:Array Value) (W:World) (K:Act→World→Prop),k<N→w.heap.size≤W.heap.size→I k W→M k xs W→(∀ a' W',KeepsFrom w.heap.size W W'→I k W'→Ax k a' W'→K a' W') →
      assign.wpIn (Fence.wide.inRound l) (n-1-1) P (Exit.then K (fun _ _ _=>False)) { tmps:=(ps.zip xs).foldl (fun t (p,v)=>t.setIfInBounds p v) a.tmps,defers:=[] } W)
    (hbody:∀ (l k:Nat) (a':Act) (W:World),k<N→w.heap.size≤W.heap.size→I k W→Ax k a' W→body.wpIn (Fence.wide.inRound l) (n-1-1) P (OncePost w.heap.size (I (k+1)) W) a' W)
    (hdone:∀ (D:Nat) (W:World),w.heap.size≤D→I N W→W.heap[D]? = some (.deferred (some []))→Q .normal { a with defers:={ target:=.collected D,args:=#[] }::a.defers } W) :
    (Code.rangeFunc g ps assign body).wpIn Fence.wide n P Q a w:=by
  refine wpIn_rangeFunc ?_
  intro fn hfn
  obtain ⟨rec,hrec⟩:∃ rec:LoopState→Option Code→Loop,rec=fun st pe=>{ state:=st,pending:=pe,fn,tmps:=a.tmps,params:=ps,assign,body,defers:=w.heap.size }:=⟨_,rfl⟩
  obtain ⟨W1,hW1⟩:∃ W1,(w.alloc (.deferred (some []))).alloc (.loop (rec .ready none))=W1:=⟨_,rfl⟩
  have hL1:W1.heap[w.heap.size+1]? = some (.loop (rec .ready none)):=by
    rw [← hW1,← World.size_alloc w (.deferred (some []))];exact World.alloc_heap_new _ _
  have hD1:W1.heap[w.heap.size]? = some (.deferred (some [])):=by
    rw [← hW1];exact (Below.heap_alloc _ _ _ (by simp)).trans (World.alloc_heap_new w _)
  have hE1:Below w.heap.size w W1:=by rw [← hW1];exact ext_alloc (ext_new _ _) _
  have hs1:w.heap.size+1<W1.heap.size:=(Array.getElem?_eq_some_iff.1 hL1).1
  refine ⟨w.heap.size+1,[{ target:=.collected w.heap.size,args:=#[] }],W1,{ target:=.fn (.func gf) lb,args:=#[.func (.yield (w.heap.size+1)) #[] #[]] },W1,gf,
    #[.func (.yield (w.heap.size+1)) #[] #[]]++lb,W1,?_,?_,fun _ _=>trivial,?_,fun _=>h1,?_⟩
  · rw [← hW1,hrec];exact run_enterLoop_outer _ _ _ _ _
  · simp only [resolve,hg]
    simp [go_sem]
  · simp [invoke,go_sem,eg]
  let J:Nat→World→Prop:=fun k W=>I k W∧w.heap.size+1<W.heap.size∧W.heap[w.heap.size+1]? = some (.loop (rec .ready none))∧W.heap[w.heap.size]? = some (.deferred (some []))
  refine (hseq (w.heap.size+1) J W1 (fun k W h=>hC k W h.1) (fun k A B h hb=>⟨(hI k).abide h.1 hb,Nat.lt_of_lt_of_le h.2.1 hb.size,heap_ext h.2.2.1 hb,heap_ext h.2.2.2 hb⟩) ?_ ⟨(hI 0).abide h0 hE1,hs1,hL1,hD1⟩).mono ?_
  · rintro k xs W hk ⟨hi,hlt,hl,hd⟩ hm
    have hy:=run_yield (P:=P) (args:=xs) hl (by rw [hrec];exact hps k xs W hm)
    rw [hrec] at hy
    refine ⟨fn,_,assign,body,hy,roundIn_of_wpIn hfn (hassign _ k xs W _ hk (by omega) hi hm ?_)⟩
    intro a' Wa hka hia hax
    have hla:=hka.same _ _ (by omega) hl rfl
    have hda:=hka.same _ _ (Nat.le_refl _) hd rfl
    have hlta:w.heap.size+1<Wa.heap.size:=(Array.getElem?_eq_some_iff.1 hla).1
    refine ⟨_,run_beginRound hla (by rw [hrec]),?_⟩
    have hlb:(Wa.putObj (w.heap.size+1) (.loop { rec .ready none with state:=.busy })).heap[w.heap.size+1]? = some (.loop { rec .ready none with state:=.busy }):=World.putObj_heap_same hlta
    have hdb:(Wa.putObj (w.heap.size+1) (.loop { rec .ready none with state:=.busy })).heap[w.heap.size]? = some (.deferred (some [])):=(World.putObj_heap_other (by omega)).trans hda
    refine wpIn_mono (hbody _ k a' _ hk (by simp;omega) (OwnFrom.putObj (s:=()) (hI k) _ hia (by omega) hla rfl) (OwnFrom.putObj (s:=()) (hAx k a') _ hax (by omega) hla rfl)) ?_
    rintro e a3 W3 hp
    cases e with
    | normal=>
      obtain ⟨hk3,hi3⟩:=hp
      have hl3:=hk3.same _ _ (by omega) hlb rfl
      have hd3:=hk3.same _ _ (Nat.le_refl _) hdb rfl
      have hlt3:w.heap.size+1<W3.heap.size:=(Array.getElem?_eq_some_iff.1 hl3).1
      have hr:=run_endRound (P:=P) none hl3
      refine ⟨_,_,hr,rfl,OwnFrom.putObj (s:=()) (hI (k+1)) _ hi3 (by omega) hl3 rfl,by simpa using hlt3,?_,(World.putObj_heap_other (by omega)).trans hd3⟩
      rw [hrec]
      exact World.putObj_heap_same hlt3
    | _=>exact hp.elim
  · rintro e W2 ⟨⟨v,rfl⟩,hi,_,hl,hd⟩
    exact ⟨none,_,by have:=run_endLoop (P:=P) hl (by rw [hrec];simp);rw [hrec] at this;exact this,hdone _ _ (Nat.le_refl _) (OwnFrom.putObj (s:=()) (hI N) _ hi (by omega) hl rfl) ((World.putObj_heap_other (by omega)).trans hd)⟩
end
section
open Go.RowKit Go.Shelf
theorem wpIn_mem_box2 {n:Nat} {P:Program} {g:Operand} {ps:Array Tmp} {assign body:Code} {Q:Exit→Act→World→Prop} {a:Act} {w:World}
    (h1:1≤n) {gf:Nat} {lb:Array Value} (hg:a.eval g=.func (.func gf) #[] lb) (eg:∀ args w,(callFunc gf args).run P w=.ok (.enter gf args) w)
    {N:Nat} {C:World→Prop} {M:Nat→Value→Value→World→Prop} (hseq:SeqMem (n-1) P gf lb N C (fun k xs W=>∃ v1 v2,xs=#[.agg #[v1,v2]]∧M k v1 v2 W)) (hps:ps.size=1)
    (I:Nat→World→Prop) (hI:∀ k,OwnP w.heap.size (I k)) (hC:∀ k W,I k W→C W) (h0:I 0 w) (hM:∀ k v1 v2,OwnP w.heap.size (M k v1 v2))
    (hMs:∀ k v1 v2 W,M k v1 v2 W→∃ A1 n1 c1 A2 n2 c2,v1=.slice A1 n1 c1∧v2=.slice A2 n2 c2) (t:TypeId) (Fr:Nat→Option Addr→Nat→Nat→Option Addr→Nat→Nat→Act)
    (hassign:∀ (l h:Nat) (A1:Option Addr) (n1 c1:Nat) (A2:Option Addr) (n2 c2:Nat) (W:World) (K:Act→World→Prop),h=W.heap.size→K (Fr h A1 n1 c1 A2 n2 c2) (W.alloc (.cells #[.slice A1 n1 c1,.slice A2 n2 c2] t)) →
      assign.wpIn (Fence.wide.inRound l) (n-1-1) P (Exit.then K (fun _ _ _=>False)) { tmps:=(ps.zip #[.agg #[.slice A1 n1 c1,.slice A2 n2 c2]]).foldl (fun t (p,v)=>t.setIfInBounds p v) a.tmps,defers:=[] } W)
    (hbody:∀ (l h k:Nat) (A1:Option Addr) (n1 c1:Nat) (A2:Option Addr) (n2 c2:Nat) (W:World),k<N→w.heap.size≤W.heap.size→w.heap.size≤h→Blk W h t #[.slice A1 n1 c1,.slice A2 n2 c2]→M k (.slice A1 n1 c1) (.slice A2 n2 c2) W→I k W →
      body.wpIn (Fence.wide.inRound l) (n-1-1) P (OncePost w.heap.size (I (k+1)) W) (Fr h A1 n1 c1 A2 n2 c2) W)
    (hdone:∀ (D:Nat) (W:World),w.heap.size≤D→I N W→W.heap[D]? = some (.deferred (some []))→Q .normal { a with defers:={ target:=.collected D,args:=#[] }::a.defers } W) :
    (Code.rangeFunc g ps assign body).wpIn Fence.wide n P Q a w:=
  wpIn_mem h1 hg eg hseq (fun k xs W h=>by obtain ⟨v1,v2,rfl,_⟩:=h;rw [hps];rfl) I hI hC h0 (fun k a' W=>∃ h A1 n1 c1 A2 n2 c2,w.heap.size≤h∧a'=Fr h A1 n1 c1 A2 n2 c2∧Blk W h t #[.slice A1 n1 c1,.slice A2 n2 c2]∧M k (.slice A1 n1 c1) (.slice A2 n2 c2) W)
    (fun k a' _ X Y row hs hg hr=>by
      obtain ⟨h,A1,n1,c1,A2,n2,c2,hh,ha,hB,hm⟩:=hs
      exact ⟨h,A1,n1,c1,A2,n2,c2,hh,ha,OwnP.blk (B:=w.heap.size) () X Y row hB hg hr,hM k _ _ () X Y row hm hg hr⟩)
    (fun l k xs W K hk hsz hI' hm hK=>by
      obtain ⟨v1,v2,rfl,hm⟩:=hm
      obtain ⟨A1,n1,c1,A2,n2,c2,rfl,rfl⟩:=hMs k v1 v2 W hm
      exact hassign l W.heap.size A1 n1 c1 A2 n2 c2 W K rfl (hK _ _ ((KeepsOthers.alloc W _).from _) (OwnFrom.alloc (s:=()) (hI k) _ hI') ⟨_,A1,n1,c1,A2,n2,c2,hsz,rfl,Blk.new _ _ _,OwnFrom.alloc (s:=()) (hM k _ _) _ hm⟩))
    (fun l k a' W hk hsz hI' hA=>by
      obtain ⟨h,A1,n1,c1,A2,n2,c2,hh,rfl,hB,hm⟩:=hA
      exact hbody l h k A1 n1 c1 A2 n2 c2 W hk hsz hh hB hm hI') hdone
def AppOK (P:Program) (w:World) (t ty:TypeId) (v x:Value):Prop:=∃ v' w',(Builtin.append_ #[t,t] ty #[v,x]).run P w=.ok v' w'
def appV (P:Program) (w:World) (t ty:TypeId) (v x:Value):Value:=match (Builtin.append_ #[t,t] ty #[v,x]).run P w with | .ok v' _=>v'|_=>undef
def appW (P:Program) (w:World) (t ty:TypeId) (v x:Value):World:=match (Builtin.append_ #[t,t] ty #[v,x]).run P w with | .ok _ w'=>w'|_=>w
theorem app_run {P:Program} {w:World} {t ty:TypeId} {v x:Value} (h:AppOK P w t ty v x):(Builtin.append_ #[t,t] ty #[v,x]).run P w=.ok (appV P w t ty v x) (appW P w t ty v x):=by
  obtain ⟨v',w',h⟩:=h
  unfold appV appW
  rw [h]
theorem app_exec {P:Program} {w:World} {ρ:Operand→Value} {d:Option Tmp} {s x:Operand} {t ty:TypeId} {p:String} {af:Array Edge} {g:Option (Nat × Bool)} (h:AppOK P w t ty (ρ s) (ρ x)) :
    (execOp ρ { dst:=d,op:=.call { callee:=.builtin .append,args:=#[s,x],argTypes:=#[t,t] },type:=ty,pos:=p,after:=af,guard:=g }).run P w=.ok (.value (appV P w t ty (ρ s) (ρ x))) (appW P w t ty (ρ s) (ρ x)):=by
  have h':=app_run h
  unfold execOp
  simp only [resolve,invoke,builtin,Sem.run_bind,Sem.run_pure,Result.andThen_ok,List.map_toArray,List.map_cons,List.map_nil,h']
theorem app_sem {P:Program} {w:World} {ro:Option Nat} {ρ:Operand→Value} {d:Option Tmp} {s x:Operand} {t ty:TypeId} {p:String} {af:Array Edge} {g:Option (Nat × Bool)} (h:AppOK P w t ty (ρ s) (ρ x)) :
    (Oper.semAt ro ρ { dst:=d,op:=.call { callee:=.builtin .append,args:=#[s,x],argTypes:=#[t,t] },type:=ty,pos:=p,after:=af,guard:=g }).run P w=.ok (.value (appV P w t ty (ρ s) (ρ x))) (appW P w t ty (ρ s) (ρ x)):=by
  rw [Oper.semAt_eq ro ρ _ (by intro c h;cases h)]
  exact app_exec h
theorem run_semAt {P:Program} {w:World} {l:Nat} {ρ:Operand→Value} {o:Oper} (h:∀ c,o.op ≠ .defer c):(Oper.semAt (some l) ρ o).run P w=(execOp ρ o).run P w:=by rw [Oper.semAt_eq _ ρ o h]
theorem app_own {P:Program} {w:World} (base:Nat) (t ty e:TypeId) (i:TypeInfo) (z:Value) (size bytes:Nat) (ht:P.underlying t=some (.slice e)) (hi:P.info? e=some i) (hz:i.zero=some z)
    (hsize:i.size=size) (hby:i.bytes=bytes) (hzs:z.cells.size=size) (hsz:0<size)
    (v:Value) (n:Nat) (xs:List Value) (hown:w.ownsRow base e size v n xs)
    (a:Addr) (m c:Nat) (news:List Value) (hl:news.length=m*size) (hnews:∀ j u,news[j]? = some u→w.cell? (a.add j)=some u) (h1:∀ u ∈ news,u.oneCell'=true)
    (h63:n+m≤maxLen) (hbytes:(n+m)*bytes≤140737488355328) (hbase:base≤w.heap.size) :
    AppOK P w t ty v (.slice (some a) m c)∧(appW P w t ty v (.slice (some a) m c)).ownsRow base e size (appV P w t ty v (.slice (some a) m c)) (n+m) (xs++news)∧w.grownBy (appW P w t ty v (.slice (some a) m c)) v.ownBlock:=by
  obtain ⟨v',w',hr,ho,hg,_⟩:=run_append_own (P:=P) (w:=w) base t ty e i z size bytes ht hi hz hsize hby hzs hsz v n xs hown a m c news hl hnews h1 h63 hbytes hbase
  have hv:appV P w t ty v (.slice (some a) m c)=v':=by unfold appV;rw [hr]
  have hw:appW P w t ty v (.slice (some a) m c)=w':=by unfold appW;rw [hr]
  rw [hv,hw]
  exact ⟨⟨_,_,hr⟩,ho,hg⟩
end
section
open Go.RowKit
attribute [local go_sem ↓] Go.wp_at_zero Go.wp_at_succ
section
variable {w W:World} {gs gm c:Nat} {es:Array MapEntry} {pos:Int}
end
theorem row_zero (w:World):(zeroValue 67).run Tryz.prog w=.ok (.agg #[.int .i64 0,.int .i64 0,.int .i64 0,.int .i64 0,.int .i64 0]) w:=by kernel_rfl
theorem storeNew (w:World):Calls Tryz.prog 36 #[] w fun e w'=>e=.returned (.pointer (some ⟨w.heap.size+1,0,none⟩))∧(w.alloc (.map #[] 0)).alloc (.cells #[.map (some w.heap.size),.int .i64 0] 103)=w':=by
  have hmm:=@run_makeMap Tryz.prog
  go_enter Tryz.func36,Tryz.ntmps36
  go_wp2
  go_ret
  exact ⟨rfl,rfl⟩
end
section
open Go.RowKit
attribute [local go_sem ↓] Go.wp_at_zero Go.wp_at_succ
theorem ins_none (a:Option Addr) (c:Nat) (f:Value) (w:World):Calls Tryz.prog 203 #[.slice a 0 c,.int .i64 0,.int .i64 0,f] w fun e w'=>(∃ u,e=.returned u)∧w=w':=by
  go_enter Tryz.func203,Tryz.ntmps203
  go_wp2
  refine wp_loop_rounds 1 ?_
  rw [rounds_succ]
  go_wp2
  go_end0
  exact ⟨⟨_,rfl⟩,rfl⟩
theorem pdq_none (a:Option Addr) (c:Nat) (n:Int) (f:Value) (w:World):Calls Tryz.prog 187 #[.slice a 0 c,.int .i64 0,.int .i64 0,.int .i64 n,f] w fun e w'=>(∃ u,e=.returned u)∧w=w':=by
  go_enter Tryz.func187,Tryz.ntmps187
  go_wp2
  refine wp_loop_rounds 1 ?_
  rw [rounds_succ]
  go_wp2_with (go_at_call 203;refine (ins_none _ _ _ _).mono ?_;rintro e w' ⟨⟨u,rfl⟩,rfl⟩)
  refine bodyPost_ret (results_none rfl _ _ _) rfl ?_
  exact ⟨⟨_,rfl⟩,rfl⟩
theorem sort_none (a:Option Addr) (c:Nat) (f:Value) (w:World):Calls Tryz.prog 138 #[.slice a 0 c,f] w fun e w'=>(∃ u,e=.returned u)∧w=w':=by
  go_enter Tryz.func138,Tryz.ntmps138
  go_wp2_with (first
    | (go_at_call 129;refine (Tryz.bits_Len _ _ (by omega) (by omega)).mono ?_;rintro e w' ⟨rfl,rfl⟩)
    | (go_at_call 187;refine (pdq_none _ _ _ _ _).mono ?_;rintro e w' ⟨⟨u,rfl⟩,rfl⟩))
  go_end0
  exact ⟨⟨_,rfl⟩,rfl⟩
def Boxes (w:World) (b1 b2 b3 b4:Nat) (j:Nat) (t lo hi:Int):Prop:=Blk w b1 3 #[.int .i64 (j:Int)]∧Blk w b2 3 #[.int .i64 t]∧Blk w b3 3 #[.int .i64 lo]∧Blk w b4 3 #[.int .i64 hi]
theorem Boxes.ext {w W:World} {b1 b2 b3 b4 j:Nat} {t lo hi:Int} (h:Boxes w b1 b2 b3 b4 j t lo hi) (k:Below w.heap.size w W):Boxes W b1 b2 b3 b4 j t lo hi:=⟨h.1.ext k,h.2.1.ext k,h.2.2.1.ext k,h.2.2.2.ext k⟩
end
section
open Go.RowKit
attribute [local go_sem ↓] Go.wp_at_zero Go.wp_at_succ
theorem encKeep {w W W':World} {b:Nat} {t:TypeId} {cs:Array Value} {u v:Value} (h:W.cell? ⟨b,0,none⟩=some u∧W.cell? ⟨b,1,none⟩=some v∧Blk W b t cs∧Below w.heap.size w W) (hb:Below W.heap.size W W'):W'.cell? ⟨b,0,none⟩=some u∧W'.cell? ⟨b,1,none⟩=some v∧Blk W' b t cs∧Below w.heap.size w W':=
  ⟨cell_ext h.1 hb,cell_ext h.2.1 hb,h.2.2.1.ext hb,ext_call h.2.2.2 hb⟩
theorem encB {w W:World} {b:Nat} {t:TypeId} {cs:Array Value} {u v:Value} (h:W.cell? ⟨b,0,none⟩=some u∧W.cell? ⟨b,1,none⟩=some v∧Blk W b t cs∧Below w.heap.size w W):Blk W b t cs:=h.2.2.1
theorem encL {w W:World} {b:Nat} {t:TypeId} {cs:Array Value} {u v:Value} (h:W.cell? ⟨b,0,none⟩=some u∧W.cell? ⟨b,1,none⟩=some v∧Blk W b t cs∧Below w.heap.size w W):Below w.heap.size w W:=h.2.2.2
theorem encAl {w W:World} {b:Nat} {t:TypeId} {cs:Array Value} {u v:Value} (h:W.cell? ⟨b,0,none⟩=some u∧W.cell? ⟨b,1,none⟩=some v∧Blk W b t cs∧Below w.heap.size w W) (o:Obj):(W.alloc o).drew.cell? ⟨b,0,none⟩=some u∧(W.alloc o).drew.cell? ⟨b,1,none⟩=some v∧Blk (W.alloc o).drew b t cs∧Below w.heap.size w (W.alloc o).drew:=
  encKeep h (ext_new W o).drew
end
section
open Go.RowKit
def clr (st:List Nat) (listed:Array Bool):Bool:=st.all fun j => !(listed.getD j true)
theorem clr_mono {st:List Nat} {listed:Array Bool} {i:Nat} (h:clr st (listed.setIfInBounds i true)=true):clr st listed=true:=by
  unfold clr at *
  rw [List.all_eq_true] at *
  intro k hk
  have h1:=h k hk
  by_cases hki:i=k
  · subst hki
    rcases Nat.lt_or_ge i listed.size with h'|h'
    · simp [h'] at h1
    · rw [Array.setIfInBounds_eq_of_size_le h'] at h1;exact h1
  · rw [getD_set_ne true hki] at h1;exact h1
theorem clr_set {st:List Nat} {listed:Array Bool} {j:Nat} (hj:j ∉ st) (h:clr st listed=true):clr st (listed.setIfInBounds j true)=true:=by
  unfold clr at *
  rw [List.all_eq_true] at *
  intro k hk
  have hne:¬ j=k:=fun e=>hj (by rw [e];exact hk)
  rw [getD_set_ne true hne]
  exact h k hk
section
variable {P:Program} {ops:Array Oper} {Q:Exit→Act→World→Prop} {md:Region.Mode} {F G:World→Prop} {st:List Nat}
def wpAnyL (P:Program) (md:Region.Mode) (ops:Array Oper) (Q:Exit→Act→World→Prop) (F G:World→Prop) (st:List Nat):Nat→Array Bool→Act→World→Prop
  | 0,listed,a,w=>Region.ready md ops listed=[]∧Q .normal a w
  | fuel+1,listed,a,w=>
    (Region.ready md ops listed=[]→Q .normal a w) ∧
    ∀ i ∈ Region.ready md ops listed,wpOp P ops Q i (fun a' w'=>(F w'∧(clr st (listed.setIfInBounds i true)=true→G w'))∧wpAnyL P md ops Q F G st fuel (listed.setIfInBounds i true) a' w') a w
theorem wpAny_of_L:∀ (fuel:Nat) (listed:Array Bool) (a:Act) (w:World),wpAnyL P md ops Q F G st fuel listed a w→wpAny P md ops Q fuel listed a w
  | 0,_,_,_,h=>h
  | fuel+1,_,_,_,h=>⟨h.1,fun i hi=>wpOp_mono (fun a' w' h'=>wpAny_of_L fuel _ a' w' h'.2) (h.2 i hi)⟩
theorem wp_region_L {id:Nat} {a:Act} {w:World} (F G:World→Prop) (st:List Nat) (hm:P.follows .mixedOrders=true)
    (h:wpAnyL P .any ops Q F G st ops.size (Array.replicate ops.size false) a w.drew):(Code.region id ops true).wp P Q a w:=
  wp_region_any hm (wpAny_of_L _ _ _ _ h)
theorem wpAnyL_first {i:Nat} {oi:Oper} {v:Value} (T:World→Prop) (inv:Array Bool→Prop) (hi:ops[i]? = some oi) (hno:i ∉ st) (hsel:∀ (j:Nat) (o:Oper) cs b,ops[j]? = some o→o.op ≠ .select cs b)
    (hQ:∀ c a w,Q (.panic c) (a.put oi.dst v) w→Q (.panic c) a w)
    (hT:∀ listed j oj w',inv listed→ops[j]? = some oj→(∀ e ∈ oj.after,Region.binds md e=true→e.on≠i)→F w'∧(clr st (listed.setIfInBounds j true)=true→G w')→T w'∧inv (listed.setIfInBounds j true)) :
    ∀ (fuel:Nat) (listed:Array Bool) (a:Act) (w:World),
      (∀ j oj,ops[j]? = some oj→j≠i→listed.getD j true=false→(∀ e ∈ oj.after,Region.binds md e=true→e.on≠i)→oi.apart ops oj=true) →
      i ∈ Region.ready md ops listed→YieldsIf P ops T oi v a→T w→inv listed→F w→(clr st listed=true→G w) →
      wpAnyL P md ops Q F G st fuel (listed.setIfInBounds i true) (a.put oi.dst v) w→wpAnyL P md ops Q F G st (fuel+1) listed a w:=by
  intro fuel
  induction fuel with
  | zero=>
    intro listed a w _ hr hy hS _ hF hG H
    refine ⟨fun h=>(by rw [h] at hr;cases hr),fun j hj=>?_⟩
    by_cases hji:j=i
    · subst hji;exact hy.wpOp hi hS ⟨⟨hF,fun h=>hG (clr_mono h)⟩,H⟩
    · have:=ready_mono hj hji
      rw [H.1] at this
      cases this
  | succ fuel ih=>
    intro listed a w hfree hr hy hS hV hF hG H
    refine ⟨fun h=>(by rw [h] at hr;cases hr),fun j hj=>?_⟩
    by_cases hji:j=i
    · subst hji;exact hy.wpOp hi hS ⟨⟨hF,fun h=>hG (clr_mono h)⟩,H⟩
    · have h1:=H.2 j (ready_mono hj hji)
      obtain ⟨hjun,oj,hoj,hall⟩:=mem_ready.1 hj
      have hun:listed.getD i false=false:=by
        have h0:=(mem_ready.1 hr).1
        rcases Nat.lt_or_ge i listed.size with h'|h'
        · simpa [h'] using h0
        · simp [Array.getElem?_eq_none h']
      have hnot:∀ e ∈ oj.after,Region.binds md e=true→e.on≠i:=fun e he hb heq=>by
        have h1:=hall e he hb
        rw [heq,hun] at h1
        cases h1
      have h2:=wpOp_putIf hoj (hfree j oj hoj hji hjun hnot) (fun cs b=>hsel i oi cs b hi) (fun cs b=>hsel j oj cs b hoj) hQ hy h1
      have hfree':∀ k ok,ops[k]? = some ok→k≠i→(listed.setIfInBounds j true).getD k true=false →
          (∀ e ∈ ok.after,Region.binds md e=true→e.on≠i)→oi.apart ops ok=true:=fun k ok hk hki hun hno=>by
        refine hfree k ok hk hki ?_ hno
        by_cases hjk:j=k
        · subst hjk;exact hjun
        · rw [getD_set_ne true hjk] at hun;exact hun
      have hcond:∀ w',F w'∧(clr st ((listed.setIfInBounds i true).setIfInBounds j true)=true→G w')→¬ (i ∈ st)→F w'∧(clr st (listed.setIfInBounds j true)=true→G w'):=fun w' h hn=>
        ⟨h.1,fun hc=>h.2 (by rw [Array.setIfInBounds_comm _ _ (Ne.symm hji)];exact clr_set hn hc)⟩
      refine wpOp_mono (fun a' w' h3=>?_) h2
      have hc:=hcond w' h3.2.1 hno
      have hT':=hT listed j oj w' hV hoj hnot hc
      refine ⟨hc,ih (listed.setIfInBounds j true) a' w' hfree' (ready_mono hr (Ne.symm hji)) h3.1 hT'.1 hT'.2 hc.1 hc.2 ?_⟩
      rw [Array.setIfInBounds_comm _ _ hji]
      exact h3.2.2
def waitB (md:Region.Mode) (ops:Array Oper) (st:List Nat) (i:Nat):Bool:=st.all fun j=>match ops[j]? with|none=>true|some o=>o.after.any fun e=>Region.binds md e && e.on == i
theorem waitB_spec {st:List Nat} {i:Nat} (h:waitB md ops st i=true):∀ j,j ∈ st→∀ oj,ops[j]? = some oj→∃ e ∈ oj.after,Region.binds md e=true∧e.on=i:=by
  intro j hj oj ho
  have h1:=List.all_eq_true.1 h j hj
  simp only [ho] at h1
  obtain ⟨k,hk,h2⟩:=Array.any_eq_true.1 h1
  simp only [Bool.and_eq_true,beq_iff_eq] at h2
  exact ⟨_,Array.getElem_mem hk,h2.1,h2.2⟩
theorem takeG (i:Nat) {oi:Oper} {v:Value} {fuel:Nat} {listed:Array Bool} {a:Act} {w:World} (hi:ops[i]? = some oi) (hno:st.contains i=false)
    (hs:Region.noSelect ops=true) (hf:Region.free md ops listed i=true) (hr:(Region.ready md ops listed).contains i=true) (hw:waitB md ops st i=true) (hc:clr st listed=true)
    (hQ:∀ c a w,Q (.panic c) (a.put oi.dst v) w→Q (.panic c) a w) (hy:YieldsIf P ops G oi v a) (hF:F w) (hG:G w)
    (h:wpAnyL P md ops Q F G st fuel (listed.setIfInBounds i true) (a.put oi.dst v) w):wpAnyL P md ops Q F G st (fuel+1) listed a w:=
  wpAnyL_first G (fun l=>clr st l=true) hi (by simpa using hno) (Region.noSelect_spec hs) hQ
    (fun listed j oj w' hV ho hn hc=>by
      have hj:j ∉ st:=fun hj=>by
        obtain ⟨e,he,hb,hon⟩:=waitB_spec hw j hj oj ho
        exact hn e he hb hon
      have:=clr_set hj hV
      exact ⟨hc.2 this,this⟩) fuel listed a w (Region.free_spec hi hf) (by simpa using hr) hy hG hc hF (fun _=>hG) h
theorem takeF (i:Nat) {oi:Oper} {v:Value} {fuel:Nat} {listed:Array Bool} {a:Act} {w:World} (hi:ops[i]? = some oi) (hno:st.contains i=false)
    (hs:Region.noSelect ops=true) (hf:Region.free md ops listed i=true) (hr:(Region.ready md ops listed).contains i=true)
    (hQ:∀ c a w,Q (.panic c) (a.put oi.dst v) w→Q (.panic c) a w) (hy:YieldsIf P ops F oi v a) (hF:F w) (hG:clr st listed=true→G w)
    (h:wpAnyL P md ops Q F G st fuel (listed.setIfInBounds i true) (a.put oi.dst v) w):wpAnyL P md ops Q F G st (fuel+1) listed a w:=
  wpAnyL_first F (fun _=>True) hi (by simpa using hno) (Region.noSelect_spec hs) hQ (fun listed j oj w' _ _ _ hc=>⟨hc.1,trivial⟩) fuel listed a w (Region.free_spec hi hf) (by simpa using hr) hy hF trivial hF hG h
theorem allL (rs:List Nat) {fuel:Nat} {listed:Array Bool} {a:Act} {w:World} (hr:Region.ready md ops listed=rs) (hne:rs≠[])
    (h:∀ i ∈ rs,wpOp P ops Q i (fun a' w'=>(F w'∧(clr st (listed.setIfInBounds i true)=true→G w'))∧wpAnyL P md ops Q F G st fuel (listed.setIfInBounds i true) a' w') a w):wpAnyL P md ops Q F G st (fuel+1) listed a w:=
  ⟨fun h0=>absurd (hr ▸ h0) hne,hr ▸ h⟩
theorem doneL {listed:Array Bool} {a:Act} {w:World} (hr:Region.ready md ops listed=[]) (h:Q .normal a w):∀ fuel,wpAnyL P md ops Q F G st fuel listed a w
  | 0=>⟨hr,h⟩
  | _+1=>⟨fun _=>h,by rw [hr];simp⟩
theorem stepL {i:Nat} {o:Oper} {K:Act→World→Prop} {a:Act} {w:World} (ho:ops[i]? = some o) (hw:Region.wanted o (yielded ops a.tmps)=true)
    (h:∀ K':Act→World→Prop,(∀ a w,K a w→K' a w)→Oper.wp P o a w K' Q):wpOp P ops Q i K a w:=by
  unfold wpOp
  simp only [ho,hw,if_true]
  exact .inl (h K fun _ _ h=>h)
end
end
section
open Go.RowKit Go.Shelf
def BdOK (P:Program) (t:TypeId) (ps:Array (Nat × Value)):Prop:=∃ v,∀ w,(Instr.build t ps).run P w=.ok v w
open Classical in
noncomputable def bdV (P:Program) (t:TypeId) (ps:Array (Nat × Value)):Value:=if h:BdOK P t ps then h.choose else undef
theorem bd_run {P:Program} {w:World} {t:TypeId} {ps:Array (Nat × Value)} (h:BdOK P t ps):(Instr.build t ps).run P w=.ok (bdV P t ps) w:=by
  unfold bdV
  rw [dif_pos h]
  exact h.choose_spec w
theorem bd_of (W:World) {P:Program} {t:TypeId} {ps:Array (Nat × Value)} {cs:Array Value} (h:P.built t ps.toList=some cs):BdOK P t ps∧bdV P t ps=.agg cs:=by
  have hr:∀ w,(Instr.build t ps).run P w=.ok (.agg cs) w:=fun w=>run_build w t ps cs h
  have hb:BdOK P t ps:=⟨_,hr⟩
  refine ⟨hb,?_⟩
  have h1:=bd_run (w:=W) hb
  rw [hr] at h1
  injection h1 with h1
  exact h1.symm
theorem bd_exec {P:Program} {w:World} {ρ:Operand→Value} {d:Option Tmp} {ps:Array (Nat × Operand)} {ty t:TypeId} {p:String} {af:Array Edge} {g:Option (Nat × Bool)} (h:BdOK P ty (ps.map fun x=>(x.1,ρ x.2))) :
    (execOp ρ { dst:=d,op:=.build ty ps,type:=t,pos:=p,after:=af,guard:=g }).run P w=.ok (.value (bdV P ty (ps.map fun x=>(x.1,ρ x.2)))) w:=by
  have h':=bd_run (w:=w) h
  unfold execOp
  simp only [Sem.run_bind,Sem.run_pure,Result.andThen_ok,h']
theorem bd_sem {P:Program} {w:World} {ro:Option Nat} {ρ:Operand→Value} {d:Option Tmp} {ps:Array (Nat × Operand)} {ty t:TypeId} {p:String} {af:Array Edge} {g:Option (Nat × Bool)} (h:BdOK P ty (ps.map fun x=>(x.1,ρ x.2))) :
    (Oper.semAt ro ρ { dst:=d,op:=.build ty ps,type:=t,pos:=p,after:=af,guard:=g }).run P w=.ok (.value (bdV P ty (ps.map fun x=>(x.1,ρ x.2)))) w:=by
  rw [Oper.semAt_eq ro ρ _ (by intro c h;cases h)]
  exact bd_exec h
end
section
open Go.RowKit
end
section
open Go.RowKit
end
section
open Go.RowKit
end
section
open Go.RowKit
end
section
open Go.RowKit Go.Shelf
end
section
open Go.RowKit
def RowT.is (t k:Int) (r:RowT):Bool:=decide (t=r.t) && decide (k=r.k)
def getR (rs:List RowT) (t k:Int):Option RowT:=rs.find? (RowT.is t k)
def putR (rs:List RowT) (r:RowT):List RowT:=match rs.findIdx? (RowT.is r.t r.k) with|some i=>rs.set i r|none=>rs++[r]
def delR (rs:List RowT) (t k:Int):List RowT:=match rs.findIdx? (RowT.is t k) with|some i=>rs.eraseIdx i|none=>rs
def RowT.keyV (r:RowT):Value:=.agg #[.int .i64 r.t,.int .i64 r.k]
def MapR (w:World) (g:Nat) (rs:List RowT):Prop:=∃ es c,MapAt w g es c∧(es.toList.map (·.born)).Nodup∧(∀ e ∈ es.toList,e.born<c)∧es.toList.map (fun e=>(e.key,e.val))=rs.map (fun r=>(r.keyV,r.val))
section
variable {w W:World} {g:Nat} {rs:List RowT}
theorem MapR.ext (h:MapR w g rs) (k:Below w.heap.size w W):MapR W g rs:=by
  obtain ⟨es,c,h,h2⟩:=h
  exact ⟨es,c,h.ext k,h2⟩
theorem MapR.lt (h:MapR w g rs):g<w.heap.size:=by
  obtain ⟨es,c,h,_⟩:=h
  exact h.lt
theorem MapR.new (w:World):MapR (w.alloc (.map #[] 0)) w.heap.size []:=⟨#[],0,MapAt.new w,by simp,by simp,rfl⟩
theorem idEq (a b x y:Int) (W:World):(Op.equal 105 (.agg #[.int .i64 a,.int .i64 b]) (.agg #[.int .i64 x,.int .i64 y])).run Tryz.prog W=.ok (decide (a=x) && decide (b=y)) W:=by
  by_cases h1:a=x <;> by_cases h2:b=y <;> (unfold Op.equal Op.maxDepth;simp [go_sem,h1,h2])
theorem idCheck (e:Bool) (a b:Int) (W:World):(Instr.checkKey e 10000 105 (.agg #[.int .i64 a,.int .i64 b])).run Tryz.prog W=.ok () W:=by cases e <;> kernel_rfl
theorem findAsk_id (t k:Int):∀ (rs:List RowT) (es:List MapEntry) (i:Nat),es.map (fun e=>(e.key,e.val))=rs.map (fun r=>(r.keyV,r.val)) →
    (Instr.findAsking 105 (.agg #[.int .i64 t,.int .i64 k]) es i).run Tryz.prog w=.ok ((rs.findIdx? (RowT.is t k)).map fun j=>(i+j,((rs[j]?).map RowT.val).getD undef)) w:=by
  intro rs
  induction rs with
  | nil=>
    intro es i h
    cases es with
    | nil=>simp [Instr.findAsking]
    | cons e r=>cases h
  | cons p r ih=>
    intro es i h
    cases es with
    | nil=>cases h
    | cons e es=>
      simp only [List.map_cons,List.cons.injEq,Prod.mk.injEq] at h
      obtain ⟨⟨hk,hv⟩,ht⟩:=h
      unfold Instr.findAsking
      rw [hk]
      simp only [RowT.keyV,Sem.run_bind,idEq,Result.andThen_ok]
      by_cases hp:(RowT.is t k p)=true
      · have hp':(decide (t=p.t) && decide (k=p.k))=true:=hp
        rw [hp',List.findIdx?_cons,hp]
        simp [hv]
      · have hp':(decide (t=p.t) && decide (k=p.k))=false:=by simpa [RowT.is] using hp
        have hp2:RowT.is t k p=false:=by simpa using hp
        rw [hp',List.findIdx?_cons,hp2]
        simp only [Bool.false_eq_true,if_false,ih es (i+1) ht]
        cases List.findIdx? (RowT.is t k) r with
        | none=>rfl
        | some j=>simp;omega
theorem findKey_id (t k:Int) (rs:List RowT) (es:List MapEntry) (h:es.map (fun e=>(e.key,e.val))=rs.map (fun r=>(r.keyV,r.val))) :
    (Instr.findKey 105 (.agg #[.int .i64 t,.int .i64 k]) es).run Tryz.prog w=.ok ((rs.findIdx? (RowT.is t k)).map fun j=>(j,((rs[j]?).map RowT.val).getD undef)) w:=by
  have h1:=findAsk_id (w:=w) t k rs es 0 h
  simp only [Nat.zero_add] at h1
  cases es with
  | nil=>
    cases rs with
    | nil=>simp [Instr.findKey,run_underlying Tryz.underlying105,Result.andThen,Instr.findNow]
    | cons p r=>cases h
  | cons e es=>
    have hk:∃ x y,e.key=.agg #[.int .i64 x,.int .i64 y]:=by
      cases rs with
      | nil=>cases h
      | cons p r=>simp only [List.map_cons,List.cons.injEq,Prod.mk.injEq] at h;exact ⟨_,_,h.1.1⟩
    obtain ⟨x,y,hk⟩:=hk
    simp only [Instr.findKey,Sem.run_bind,run_underlying Tryz.underlying105,Result.andThen_ok,Instr.findNow,hk,Instr.sameNow]
    exact h1
theorem lookupR (h:MapR w g rs) (t k:Int):(Instr.lookup 99 (.map (some g)) (.agg #[.int .i64 t,.int .i64 k]) true).run Tryz.prog w=.ok (.tuple #[((getR rs t k).map RowT.val).getD (.agg #[.int .i64 0,.int .i64 0,.int .i64 0,.int .i64 0,.int .i64 0]),.bool (getR rs t k).isSome]) w:=by
  obtain ⟨es,c,hm,-,-,e⟩:=h
  have hg:=getM (P:=Tryz.prog) hm
  have hf:=findKey_id (w:=w) t k rs es.toList e
  unfold Instr.lookup
  simp only [Sem.run_bind,run_underlying Tryz.underlying99,Result.andThen_ok,hg,idCheck,hf,Sem.run_pure]
  unfold getR
  cases hc:rs.findIdx? (RowT.is t k) with
  | none=>
    have h1:rs.find? (RowT.is t k)=none:=by
      rw [List.findIdx?_eq_none_iff] at hc
      rw [List.find?_eq_none]
      intro x hx
      simpa using hc x hx
    simp [h1,row_zero,Result.andThen]
  | some i=>
    rw [List.findIdx?_eq_some_iff_getElem] at hc
    obtain ⟨hi,h1,h2⟩:=hc
    have h3:rs.find? (RowT.is t k)=some rs[i]:=by
      rw [List.find?_eq_some_iff_getElem]
      exact ⟨h1,i,hi,rfl,fun j hj=>by simpa using h2 j hj⟩
    simp [h3,hi,Result.andThen]
theorem keyStays (a b:Int) (W:World):(Instr.keyThatStays (.agg #[.int .i64 a,.int .i64 b]) (.agg #[.int .i64 a,.int .i64 b])).run Tryz.prog W=.ok (.agg #[.int .i64 a,.int .i64 b]) W:=by
  simp [Instr.keyThatStays,Instr.sameBits]
theorem map_eraseIdx' {α β:Type} (g:α→β):∀ (l:List α) (i:Nat),(l.eraseIdx i).map g=(l.map g).eraseIdx i
  | [],_=>rfl
  | _::_,0=>rfl
  | x::l,i+1=>by simp only [List.eraseIdx_cons_succ,List.map_cons,map_eraseIdx' g l i]
theorem map_modify_same {α β:Type} (l:List α) (i:Nat) (f:α→α) (g:α→β) (h:∀ x,g (f x)=g x):(l.modify i f).map g=l.map g:=by
  apply List.ext_getElem?
  intro j
  rw [List.getElem?_map,List.getElem?_map,List.getElem?_modify]
  cases l[j]? with
  | none=>rfl
  | some x=>by_cases hij:i=j <;> simp [hij,h]
theorem map_modify_set {α β:Type} (l:List α) (i:Nat) (f:α→α) (g:α→β) (v:β) (h:∀ x,l[i]? = some x→g (f x)=v):(l.modify i f).map g=(l.map g).set i v:=by
  apply List.ext_getElem?
  intro j
  rw [List.getElem?_map,List.getElem?_modify,List.getElem?_set,List.getElem?_map,List.length_map]
  by_cases hij:i=j
  · subst hij
    cases hx:l[i]? with
    | none=>
      have:¬ i<l.length:=by rw [List.getElem?_eq_none_iff] at hx;omega
      simp [this]
    | some x=>
      have:i<l.length:=(List.getElem?_eq_some_iff.1 hx).1
      simp [this,h x hx]
  · simp [hij]
theorem updateR (h:MapR w g rs) (r:RowT):∃ o,(Instr.mapUpdate 99 (.map (some g)) (.agg #[.int .i64 r.t,.int .i64 r.k]) (.agg #[.int .i64 r.t,.int .i64 r.k,.int .i64 r.a,.int .i64 r.b,.int .i64 r.c])).run Tryz.prog w=.ok () (w.putObj g o)∧MapR (w.putObj g o) g (putR rs r):=by
  obtain ⟨es,c,hm,hnd,hlt,e⟩:=h
  have hg:=getM (P:=Tryz.prog) hm
  have hs:=fun o=>setM (P:=Tryz.prog) o hm
  have hf:=findKey_id (w:=w) r.t r.k rs es.toList e
  unfold Instr.mapUpdate putR
  simp only [Sem.run_bind,run_underlying Tryz.underlying99,Result.andThen_ok,hg,idCheck,hf,Sem.run_pure]
  cases hc:rs.findIdx? (RowT.is r.t r.k) with
  | none=>
    simp only [Option.map_none,hs]
    refine ⟨_,rfl,_,_,hm.put _ _,?_,?_,?_⟩
    · simp only [Array.toList_push,List.map_append,List.map_cons,List.map_nil]
      rw [List.nodup_append]
      refine ⟨hnd,by simp,fun a ha b hb=>?_⟩
      simp only [List.mem_map] at ha
      obtain ⟨x,hx,rfl⟩:=ha
      have:=hlt x hx
      simp at hb
      omega
    · intro x hx
      simp only [Array.toList_push,List.mem_append,List.mem_singleton] at hx
      rcases hx with hx|rfl
      · have:=hlt x hx;omega
      · simp
    · simp only [Array.toList_push,List.map_append,List.map_cons,List.map_nil,e]
      rfl
  | some i=>
    rw [List.findIdx?_eq_some_iff_getElem] at hc
    obtain ⟨hi,h1,h2⟩:=hc
    have hlen:es.size=rs.length:=by
      have:=congrArg List.length e
      simpa using this
    have hie:i<es.size:=by omega
    have hk:es[i].key=.agg #[.int .i64 r.t,.int .i64 r.k]:=by
      have h3:=congrArg (fun l=>l[i]?) e
      simp only [List.getElem?_map,List.getElem?_eq_getElem hi,Array.getElem?_toList,Array.getElem?_eq_getElem hie,Option.map_some,Option.some.injEq,Prod.mk.injEq] at h3
      rw [h3.1]
      simp only [RowT.is,Bool.and_eq_true,decide_eq_true_eq] at h1
      rw [RowT.keyV,h1.1,h1.2]
    simp only [Option.map_some,Array.getElem?_eq_getElem hie,Option.getD_some,hk,keyStays,Result.andThen_ok,hs,Sem.run_bind]
    refine ⟨_,rfl,_,_,hm.put _ _,?_,?_,?_⟩
    · rw [Array.toList_modify,map_modify_same]
      · exact hnd
      · intro x;rfl
    · intro x hx
      rw [Array.toList_modify,List.mem_iff_getElem?] at hx
      obtain ⟨j,hj⟩:=hx
      rw [List.getElem?_modify] at hj
      cases hy:es.toList[j]? with
      | none=>rw [hy] at hj;cases hj
      | some y=>
        rw [hy] at hj
        have h4:=hlt y (List.mem_of_getElem? hy)
        simp only [Option.map_eq_map,Option.map_some,Option.some.injEq] at hj
        by_cases hij:i=j
        · rw [if_pos hij] at hj;rw [← hj];exact h4
        · rw [if_neg hij] at hj;rw [← hj];exact h4
    · rw [Array.toList_modify]
      refine (map_modify_set es.toList i _ (fun e=>(e.key,e.val)) (r.keyV,r.val) (fun x hx=>rfl)).trans ?_
      rw [e,List.map_set]
theorem deleteR (h:MapR w g rs) (t k:Int):∃ o,(∀ ty,(Builtin.delete_ #[99,105] ty #[.map (some g),.agg #[.int .i64 t,.int .i64 k]]).run Tryz.prog w=.ok (.tuple #[]) (w.putObj g o))∧MapR (w.putObj g o) g (delR rs t k):=by
  obtain ⟨es,c,hm,hnd,hlt,e⟩:=h
  have hg:=getM (P:=Tryz.prog) hm
  have hs:=fun o=>setM (P:=Tryz.prog) o hm
  have hf:=findKey_id (w:=w) t k rs es.toList e
  unfold Builtin.delete_ delR
  simp only [List.getElem?_toArray,List.getElem?_cons_zero,List.getElem?_cons_succ,Sem.run_bind,run_underlying Tryz.underlying99,Result.andThen_ok,hg,idCheck,hf,Sem.run_pure]
  cases hc:rs.findIdx? (RowT.is t k) with
  | none=>
    simp only [Option.map_none,hs,Sem.run_bind,Sem.run_pure,Result.andThen_ok]
    exact ⟨_,fun _=>rfl,_,_,hm.put _ _,hnd,hlt,e⟩
  | some i=>
    simp only [Option.map_some,hs,Sem.run_bind,Sem.run_pure,Result.andThen_ok]
    refine ⟨_,fun _=>rfl,_,_,hm.put _ _,?_,?_,?_⟩
    · rw [Array.toList_eraseIdxIfInBounds]
      exact hnd.sublist ((List.eraseIdx_sublist _ _).map _)
    · intro x hx
      rw [Array.toList_eraseIdxIfInBounds] at hx
      exact hlt x ((List.eraseIdx_sublist _ _).subset hx)
    · rw [Array.toList_eraseIdxIfInBounds,map_eraseIdx',e,map_eraseIdx']
theorem lenR (h:MapR w g rs) (t:TypeId):(Builtin.len_ #[99] t #[.map (some g)]).run Tryz.prog w=.ok (.int .i64 rs.length) w:=by
  obtain ⟨es,c,hm,-,-,e⟩:=h
  refine len_map Tryz.underlying99 hm t ?_
  have:=congrArg List.length e
  simp at this
  rw [this]
  rfl
end
end
end Go.Proofs.YtimoapjhepmehaaGreatDoor
