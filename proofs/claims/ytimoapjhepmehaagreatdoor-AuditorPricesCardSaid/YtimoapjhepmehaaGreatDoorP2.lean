/-
  Part 2 of 54: the contracts that the proof of the last part uses; each stands under its own head.
-/
import Derived.Test.YtimoapjhepmehaaGreatDoorP1
import Derived.Laws.CopyOwn
import Derived.Lib.ConvBytes
import Derived.RangeFuncNested
import Derived.RangeFuncBound
import Derived.RangeFuncCalls
import Derived.RangeFuncLeaves
import Derived.RangeFuncBox
import Derived.Shelf.Abstract
import Derived.Shelf.RegionOpen
import Derived.OwnWalkIn
import Derived.TacticsInMore
import Derived.LoopNIn
import Derived.LoopIn
set_option linter.unusedSimpArgs false
set_option linter.unusedVariables false
set_option maxHeartbeats 4000000
set_option maxRecDepth 100000
namespace Go.Proofs.YtimoapjhepmehaaGreatDoor
section
open Go.RowKit
attribute [local go_sem ↓] Go.wp_at_zero Go.wp_at_succ
def kList:List Int:=[1116352408,1899447441,3049323471,3921009573,961987163,1508970993,2453635748,2870763221,3624381080,310598401,607225278,1426881987,1925078388,2162078206,2614888103,3248222580,3835390401,4022224774,264347078,604807628,770255983,1249150122,1555081692,1996064986,2554220882,2821834349,2952996808,3210313671,3336571891,3584528711,113926993,338241895,666307205,773529912,1294757372,1396182291,1695183700,1986661051,2177026350,2456956037,2730485921,2820302411,3259730800,3345764771,3516065817,3600352804,4094571909,275423344,430227734,506948616,659060556,883997877,958139571,1322822218,1537002063,1747873779,1955562222,2024104815,2227730452,2361852424,2428436474,2756734187,3204031479,3329325298]
def RoundOK (w:World):Prop:=w.rangeAt 1 0 (kList.map (Value.int .u32))
theorem RoundOK.keep {w w':World} (h:RoundOK w) (hk:∀ p:Addr,p.block=1→w'.cell? p=w.cell? p):RoundOK w':=
  fun j v hv=>(hk _ rfl).trans (h j v hv)
theorem RoundOK.lt {w:World} (h:RoundOK w):1<w.heap.size:=lt_of_cell (h 0 _ rfl)
theorem RoundOK.below {w w':World} (h:RoundOK w) (hb:Below w.heap.size w w'):RoundOK w':=
  h.keep fun p hp=>hb.cell (by rw [hp];exact h.lt)
structure V8 where
  a:Int
  b:Int
  c:Int
  d:Int
  e:Int
  f:Int
  g:Int
  h:Int
def V8.cells (v:V8):Array Value:=#[.int .u32 v.a,.int .u32 v.b,.int .u32 v.c,.int .u32 v.d,.int .u32 v.e,.int .u32 v.f,.int .u32 v.g,.int .u32 v.h]
theorem only_of_below {a w:World} (h:Below a.heap.size a w) (row:Option Nat):a.grownBy w row:=⟨h.os,h.tape,h.output,h.size,fun i hi _=>h.block i hi⟩
theorem only_drew {a w:World} {row:Option Nat} (h:a.grownBy w row):a.grownBy w.drew row:=⟨h.os,h.tape,h.output,h.size,h.block⟩
theorem only_setCell {a w:World} {g:Nat} (h:a.grownBy w (some g)) {p:Addr} (hp:p.block=g∨a.heap.size≤p.block) (u:Value):a.grownBy (w.setCell p u) (some g):=
  ⟨h.os,h.tape,h.output,by simpa [World.setCell] using h.size,fun i hi hne=>(Below.heap_setCell w p u i (by
    rintro rfl
    rcases hp with hp|hp
    · exact hne (by rw [hp])
    · omega)).trans (h.block i hi hne)⟩
theorem range_al {w:World} {b o:Nat} {cs:List Value} (h:w.rangeAt b o cs) (ob:Obj):(w.alloc ob).rangeAt b o cs:=World.rangeAt_alloc h ob
theorem range_grown {w w':World} {b o:Nat} {cs:List Value} {row:Option Nat} (h:w.rangeAt b o cs) (hg:w.grownBy w' row) (hne:some b≠row):w'.rangeAt b o cs:=
  fun j v hv=>hg.cell (h j v hv) hne
theorem range_below {w w':World} {b o B:Nat} {cs:List Value} (h:w.rangeAt b o cs) (hg:Below B w w') (hb:b<B):w'.rangeAt b o cs:=
  fun j v hv=>(hg.cell (p:=⟨b,o+j,none⟩) hb).trans (h j v hv)
theorem S4_al {W:World} {a b c d:Addr} {va vb vc vd:Value}
    (h:W.drew.cell? a=some va∧W.drew.cell? b=some vb∧W.drew.cell? c=some vc∧W.drew.cell? d=some vd) (o:Obj) :
    (W.alloc o).drew.cell? a=some va∧(W.alloc o).drew.cell? b=some vb∧(W.alloc o).drew.cell? c=some vc∧(W.alloc o).drew.cell? d=some vd:=
  ⟨cell_al (w:=W) h.1 o,cell_al (w:=W) h.2.1 o,cell_al (w:=W) h.2.2.1 o,cell_al (w:=W) h.2.2.2 o⟩
theorem S2_al {W:World} {a b:Addr} {va vb:Value} (h:W.drew.cell? a=some va∧W.drew.cell? b=some vb) (o:Obj) :
    (W.alloc o).drew.cell? a=some va∧(W.alloc o).drew.cell? b=some vb:=⟨cell_al (w:=W) h.1 o,cell_al (w:=W) h.2 o⟩
def notU (x:Int):Int:=IntKind.u32.wrap ((BitVec.ofInt 32 IntKind.u32.max ^^^ BitVec.ofInt 32 x).toNat:Int)
theorem run_notU (P:Program) (x:Int) (w:World):(Op.unary .xor (.int .u32 x)).run P w=.ok (.int .u32 (notU x)) w:=rfl
def roundT (v:V8) (k wi:Int):Int:=
  IntKind.u32.wrap (IntKind.u32.wrap (IntKind.u32.wrap (IntKind.u32.wrap (v.h+mixedF v.e [6,11,25])+bits .xor .u32 (bits .and .u32 v.e v.f) (bits .and .u32 (bits .xor .u32 IntKind.u32.max v.e) v.g))+k)+wi)
def roundU (v:V8):Int:=
  IntKind.u32.wrap (mixedF v.a [2,13,22]+bits .xor .u32 (bits .xor .u32 (bits .and .u32 v.a v.b) (bits .and .u32 v.a v.c)) (bits .and .u32 v.b v.c))
def roundV (v:V8) (k wi:Int):V8:=
  ⟨(roundT v k wi+roundU v) % 4294967296,v.a,v.b,v.c,(v.d+roundT v k wi) % 4294967296,v.e,v.f,v.g⟩
def vTo (v:V8) (ws:List Int):Nat→V8
  | 0=>v
  | n+1=>roundV (vTo v ws n) (kList[n]?.getD 0) (ws[n]?.getD 0)
def V8.list (v:V8):List Int:=[v.a,v.b,v.c,v.d,v.e,v.f,v.g,v.h]
def arrU (l:List Int):Array Value:=(l.map (Value.int .u32)).toArray
theorem arrU_set (l:List Int) (k:Nat) (x:Int):(arrU l).setIfInBounds k (.int .u32 x)=arrU (l.set k x):=by
  unfold arrU
  apply Array.ext'
  simp [List.map_set]
def addV (v s:V8):V8:=⟨(v.a+s.a) % 4294967296,(v.b+s.b) % 4294967296,(v.c+s.c) % 4294967296,(v.d+s.d) % 4294967296,(v.e+s.e) % 4294967296,(v.f+s.f) % 4294967296,(v.g+s.g) % 4294967296,(v.h+s.h) % 4294967296⟩
def addTo (v s:V8) (k:Nat):List Int:=(List.range 8).map fun j=>if j<k then (v.list[j]?.getD 0+s.list[j]?.getD 0) % 4294967296 else v.list[j]?.getD 0
theorem addTo_zero (v s:V8):addTo v s 0=v.list:=rfl
theorem addTo_all (v s:V8):addTo v s 8=(addV v s).list:=rfl
theorem addTo_get (v s:V8) (k:Nat) (h:k<8):(addTo v s k)[k]? = some (v.list[k]?.getD 0):=by
  match k,h with
  | 0,_=>rfl
  | 1,_=>rfl
  | 2,_=>rfl
  | 3,_=>rfl
  | 4,_=>rfl
  | 5,_=>rfl
  | 6,_=>rfl
  | 7,_=>rfl
theorem addTo_set (v s:V8) (k:Nat) (h:k<8):(addTo v s k).set k ((v.list[k]?.getD 0+s.list[k]?.getD 0) % 4294967296)=addTo v s (k+1):=by
  match k,h with
  | 0,_=>rfl
  | 1,_=>rfl
  | 2,_=>rfl
  | 3,_=>rfl
  | 4,_=>rfl
  | 5,_=>rfl
  | 6,_=>rfl
  | 7,_=>rfl
theorem V8.get (v:V8) (k:Nat) (h:k<8):v.cells[k]? = some (.int .u32 (v.list[k]?.getD 0)):=by
  match k,h with
  | 0,_=>rfl
  | 1,_=>rfl
  | 2,_=>rfl
  | 3,_=>rfl
  | 4,_=>rfl
  | 5,_=>rfl
  | 6,_=>rfl
  | 7,_=>rfl
theorem run_index_arr {P:Program} {t e n:Nat} {cs:Array Value} {i:TypeInfo} (ht:P.underlying t=some (.array n e)) (hi:P.info? e=some i) (hs:i.size=1)
    (ha:∀ w,(isAgg e).run P w=.ok false w) (k:Nat) (hk:k<n) (x:Value) (hx:cs[k]? = some x) (w:World) :
    (Instr.index t (.agg cs) (.int .i64 (k:Int))).run P w=.ok x w:=by
  have h0:(0:Int)≤(k:Int)∧(k:Int)<(n:Int):=by omega
  simp [Instr.index,asIntOf,run_underlying ht,sizeOf,typeInfo,hi,hs,part,ha,hx]
  intro h;omega
theorem u32_info:(Tryz.prog.info? 229).map (fun i=>(i.zero,i.size,i.bytes))=some (some (.int .u32 0),1,4):=by kernel_rfl
theorem run_index64 (cs:Array Value) (k:Nat) (hk:k<64) (x:Value) (hx:cs[k]? = some x) (w:World) :
    (Instr.index 278 (.agg cs) (.int .i64 (k:Int))).run Tryz.prog w=.ok x w:=by
  obtain ⟨i0,hi,_,hs,_⟩:=info_parts u32_info
  exact run_index_arr Tryz.underlying278 hi hs (fun w=>by simp [isAgg,run_underlying Tryz.underlying229]) k hk x hx w
def blockF (v:V8) (bs:List Int):V8:=addV v (vTo v (schedTo bs 64) 64)
theorem add_any (gh bb off c:Nat) (v:V8) (bs:List Int) (w:World) (hbb:bb<w.heap.size) (hR:RoundOK w)
    (hH:Blk w gh 231 v.cells)
    (hc:∀ k,k<64→w.cell? ⟨bb,off+k,none⟩=some (.int .u8 (bs.getD k 0))) :
    Calls Tryz.prog 133 #[.pointer (some ⟨gh,0,none⟩),.slice (some ⟨bb,off,none⟩) 64 c] w fun e w'=>e=.returned (.tuple #[])∧Blk w' gh 231 (blockF v bs).cells∧w.grownBy w' (some gh):=by
  have HC:=Lib.hid hc;clear hc
  go_enter Tryz.func133,Tryz.ntmps133
  go_wp2_with fail
  refine (schedule_any _ _ _ bs _ hbb HC.out).mono ?_
  rintro e w1 ⟨he,hb1⟩
  obtain ⟨cs,hcs⟩:∃ cs,cs=pad64 (schedTo bs 64):=⟨_,rfl⟩
  rw [← hcs] at he
  subst he
  have HSZ:=Lib.hid (show cs.size=64 by rw [hcs];exact pad64_size _ (by rw [schedTo_length];omega))
  have HI:=Lib.hid (show (Tryz.prog.info? 278).map (·.size)=some cs.size by rw [HSZ.out];kernel_rfl)
  have H1:=Lib.hid (show cs.all (·.oneCell')=true by rw [hcs];exact pad64_one _)
  have HCS:=Lib.hid (show ∀ k,k<64→cs[k]? = some (.int .u32 ((schedTo bs 64)[k]?.getD 0)) by intro k hk;rw [hcs];exact pad64_get bs 64 k hk (Nat.le_refl _))
  clear hcs
  obtain ⟨ws,hws⟩:∃ ws,ws=schedTo bs 64:=⟨_,rfl⟩
  rw [← hws] at HCS
  have HWS:=Lib.hid hws
  clear hws
  have HV:=Lib.hid (show (Tryz.prog.info? 231).map (·.size)=some v.cells.size from by kernel_rfl)
  have HR:=Lib.hid hR
  have HH:=Lib.hid hH
  have hgh:=hH.lt
  have hr1:=hR.lt
  obtain ⟨vc,hvc⟩:∃ vc,vc=v.cells:=⟨_,rfl⟩
  rw [← hvc] at HV HH
  have HVC:=Lib.hid hvc
  have HV1:=Lib.hid (show vc.all (·.oneCell')=true by rw [hvc];simp [V8.cells,Value.oneCell'])
  have HV8:=Lib.hid (show 8=vc.size by rw [hvc];rfl)
  obtain ⟨kc,hkc⟩:∃ kc,kc=kList.map (Value.int .u32):=⟨_,rfl⟩
  have HKC:=Lib.hid hkc
  have HRK:=Lib.hid (show w.rangeAt 1 0 kc by rw [hkc];exact hR)
  have HKI:=Lib.hid (show (Tryz.prog.info? 278).map (·.size)=some kc.length by rw [hkc];kernel_rfl)
  clear hvc hR hH hkc
  have hz1:=hb1.size
  go_wp2_with (first
    | (refine wpList_store_blk rfl 278 (.tmp 4) (.tmp 14) rfl w1.heap.size cs rfl rfl 278 _ (Blk.new w1 _ _) HI.out (HSZ.out.symm) H1.out ?_;intro W1 hB1 hg1;have HB1:=Lib.hid hB1;have HG1:=Lib.hid hg1;have hz2:w1.heap.size+1≤W1.heap.size:=(by have:=hg1.size;simpa using this);clear hB1 hg1;have HH1:=Lib.hid (show Blk W1 gh _ vc from ((HH.out.below hb1 hgh).alloc _).grown HG1.out (fun e=>by injection e with e;omega)))
    | (refine wpList_load_row rfl 231 (.tmp 16) rfl gh rfl 231 vc (0,0) _ HH1.out Tryz.underlying231 rfl HV.out ?_)
    | (refine wpList_store_blk rfl 231 (.tmp 5) (.tmp 17) rfl W1.heap.size vc rfl rfl 231 _ (Blk.new W1 _ _) HV.out HV8.out HV1.out ?_;intro W2 hB2 hg2;have HB2:=Lib.hid hB2;have HG2:=Lib.hid hg2;have hz3:W1.heap.size+1≤W2.heap.size:=(by have:=hg2.size;simpa using this);clear hB2 hg2;have HRK2:=Lib.hid (show W2.rangeAt 1 0 kc from range_grown (range_al (range_grown (range_al (range_below HRK.out hb1 hr1) _) HG1.out (fun e=>by injection e with e;omega)) _) HG2.out (fun e=>by injection e with e;omega)))
    | (refine wpList_load_mid rfl 278 (.global 1) rfl 1 0 rfl kc _ HRK2.out Tryz.underlying278 rfl HKI.out ?_))
  have hBw:Blk W2 w1.heap.size 278 cs:=(HB1.out.alloc _).grown HG2.out (fun e=>by injection e with e;omega)
  have hBv:Blk W2 W1.heap.size 231 vc:=HB2.out
  have hBh:Blk W2 gh 231 vc:=(HH1.out.alloc _).grown HG2.out (fun e=>by injection e with e;omega)
  have hb2:Below w.heap.size w W2:=((((hb1.alloc hz1 _).grown HG1.out (by simp;omega) (fun k e=>by injection e with e;omega))).alloc (by omega) _).grown HG2.out (by simp;omega) (fun k e=>by injection e with e;omega)
  have hgw:w.heap.size≤w1.heap.size:=hz1
  have hgv:w1.heap.size<W1.heap.size:=by omega
  clear HB1 HB2 HG1 HG2 HH1 HRK2 HRK hz1 hz2 hz3 hb1 HI H1 HV HV1 HV8
  generalize w1.heap.size=gw at *
  generalize W1.heap.size=gv at *
  clear W1 w1
  have hidx:∀ (k:Nat) (w':World),k<64→(Instr.index 278 (.agg kc.toArray) (.int .i64 (k:Int))).run Tryz.prog w'=.ok (.int .u32 (kList[k]?.getD 0)) w':=by
    intro k w' hk
    have hx:kc.toArray[k]? = some (.int .u32 (kList[k]?.getD 0)):=by
      rw [HKC.out]
      have hl:k<kList.length:=hk
      simp [hl]
    exact run_index64 kc.toArray k hk _ hx w'
  have HIDX:=Lib.hid hidx
  clear hidx
  go_loopw [19] (fun i wr=>∃ k:Nat,k≤64∧i=.int .i64 k∧Blk wr gv 231 (vTo v ws k).cells∧Blk wr gw 278 cs∧Blk wr gh 231 vc∧Below w.heap.size w wr) (fun i _=>64-(intOf i).toNat)
  case atStart=>exact ⟨0,by omega,rfl,by rw [HVC.out] at hBv;exact hBv,hBw,hBh,hb2⟩
  case round =>
    clear hBw hBv hBh hb2
    obtain ⟨k,hk,rfl,hBv,hBw,hBh,hb⟩:=hrel
    generalize hst:vTo v ws k=s at *
    have HST:=Lib.hid hst
    clear hst
    by_cases hlt:k<64
    · have hix:=fun w'=>HIDX.out k w' hlt
      have s0:wr.cell? ⟨gv,0,none⟩=some (.int .u32 s.a):=hBv.cell 0
      have s4:wr.cell? ⟨gv,4,none⟩=some (.int .u32 s.e):=hBv.cell 4
      go_wp2
      go_quiet (fail)
      go_wp2
      have s5:(wr.drewN nq).cell? ⟨gv,5,none⟩=some (.int .u32 s.f):=hBv.cell 5
      have s6:(wr.drewN nq).cell? ⟨gv,6,none⟩=some (.int .u32 s.g):=hBv.cell 6
      have s7:(wr.drewN nq).cell? ⟨gv,7,none⟩=some (.int .u32 s.h):=hBv.cell 7
      have sw:(wr.drewN nq).cell? ⟨gw,k,none⟩=some (.int .u32 (ws[k]?.getD 0)):=by
        show wr.cell? _=_
        rw [hBw.cell k]
        exact HCS.out k hlt
      have hBv':=hBv.drewN nq
      have hBw':=hBw.drewN nq
      have hBh':=hBh.drewN nq
      have hb':=below_drewN hb nq
      have q0:(0:Int)≤(k:Int):=by omega
      have q1:(k:Int)<64:=by omega
      generalize hwk:ws[k]?.getD 0=wk at *
      have HWK:=Lib.hid hwk
      clear s0 s4 hBv hBw hBh hb hwk hix
      generalize wr.drewN nq=Wa at *
      have hnot:=run_notU Tryz.prog
      go_region_held3 (fun w'=>w'.cell? ⟨gv,5,none⟩=some (.int .u32 s.f)∧w'.cell? ⟨gv,6,none⟩=some (.int .u32 s.g)∧w'.cell? ⟨gv,7,none⟩=some (.int .u32 s.h)∧w'.cell? ⟨gw,k,none⟩=some (.int .u32 wk))
        (first|exact ⟨s5,s6,s7,sw⟩|assumption|exact S4_al (by assumption) _)
        (first|(go_at_call 184;refine (mixed3_any _ _ _ _ _ _ (by first|exact (Blk.new _ _ _).drew)).mono ?_;rintro e w' ⟨rfl,rfl⟩))
      go_wp2
      have hBv2:=((hBv'.alloc (.cells #[.int .i64 6,.int .i64 11,.int .i64 25] 3))).drew
      have hBw2:=((hBw'.alloc (.cells #[.int .i64 6,.int .i64 11,.int .i64 25] 3))).drew
      have hBh2:=((hBh'.alloc (.cells #[.int .i64 6,.int .i64 11,.int .i64 25] 3))).drew
      have hb2:=((hb'.alloc hb'.size (.cells #[.int .i64 6,.int .i64 11,.int .i64 25] 3))).drew
      clear s5 s6 s7 sw hBv' hBw' hBh' hb'
      generalize (Wa.alloc (.cells #[.int .i64 6,.int .i64 11,.int .i64 25] 3)).drew=Wb at *
      have s1:Wb.cell? ⟨gv,1,none⟩=some (.int .u32 s.b):=hBv2.cell 1
      have s2:Wb.cell? ⟨gv,2,none⟩=some (.int .u32 s.c):=hBv2.cell 2
      go_region_held3 (fun w'=>w'.cell? ⟨gv,1,none⟩=some (.int .u32 s.b)∧w'.cell? ⟨gv,2,none⟩=some (.int .u32 s.c))
        (first|exact ⟨s1,s2⟩|assumption|exact S2_al (by assumption) _)
        (first|(go_at_call 184;refine (mixed3_any _ _ _ _ _ _ (by first|exact (Blk.new _ _ _).drew)).mono ?_;rintro e w' ⟨rfl,rfl⟩))
      go_wp2
      have hBv3:=((hBv2.alloc (.cells #[.int .i64 2,.int .i64 13,.int .i64 22] 3))).drew
      have hBw3:=((hBw2.alloc (.cells #[.int .i64 2,.int .i64 13,.int .i64 22] 3))).drew
      have hBh3:=((hBh2.alloc (.cells #[.int .i64 2,.int .i64 13,.int .i64 22] 3))).drew
      have hb3:=((hb2.alloc hb2.size (.cells #[.int .i64 2,.int .i64 13,.int .i64 22] 3))).drew
      clear s1 s2 hBv2 hBw2 hBh2 hb2
      generalize (Wb.alloc (.cells #[.int .i64 2,.int .i64 13,.int .i64 22] 3)).drew=Wc at *
      have hT:IntKind.u32.wrap (IntKind.u32.wrap (IntKind.u32.wrap (IntKind.u32.wrap (s.h+mixedF s.e [6,11,25])+bits .xor .u32 (bits .and .u32 s.e s.f) (bits .and .u32 (bits .xor .u32 IntKind.u32.max s.e) s.g))+kList[k]?.getD 0)+wk)=roundT s (kList[k]?.getD 0) wk:=rfl
      have hU:IntKind.u32.wrap (mixedF s.a [2,13,22]+bits .xor .u32 (bits .xor .u32 (bits .and .u32 s.a s.b) (bits .and .u32 s.a s.c)) (bits .and .u32 s.b s.c))=roundU s:=rfl
      simp only [hT,hU]
      clear hT hU
      have hcp:=run_copy_row (P:=Tryz.prog) Wc.drew 281 281 3 229 gv 1 7 7 ⟨gv,0,none⟩ 7 8 s.cells 231 [.int .u32 s.a,.int .u32 s.b,.int .u32 s.c,.int .u32 s.d,.int .u32 s.e,.int .u32 s.f,.int .u32 s.g]
        Tryz.underlying281 (by kernel_rfl) hBv3.drew rfl (fun j x hx=>by
          have h:=hBv3.cell j
          rw [show (⟨gv,0,none⟩:Addr).add j=⟨gv,j,none⟩ from by unfold Addr.add;split <;> simp_all]
          show Wc.cell? _=_
          rw [h]
          match j,hx with
          | 0,hx=>exact hx
          | 1,hx=>exact hx
          | 2,hx=>exact hx
          | 3,hx=>exact hx
          | 4,hx=>exact hx
          | 5,hx=>exact hx
          | 6,hx=>exact hx
          | (n+7),hx=>simp at hx) (by simp [V8.cells]) (by simp [Value.oneCell'])
      go_region
      have hBv4:Blk (Wc.drew.setRow gv (List.take 1 s.cells.toList ++ .int .u32 s.a :: .int .u32 s.b :: .int .u32 s.c :: .int .u32 s.d :: .int .u32 s.e :: .int .u32 s.f :: .int .u32 s.g::List.drop 8 s.cells.toList).toArray) gv 231 #[.int .u32 s.a,.int .u32 s.a,.int .u32 s.b,.int .u32 s.c,.int .u32 s.d,.int .u32 s.e,.int .u32 s.f,.int .u32 s.g]:=Blk.row hBv3.drew _
      have hBw4:Blk (Wc.drew.setRow gv (List.take 1 s.cells.toList ++ .int .u32 s.a :: .int .u32 s.b :: .int .u32 s.c :: .int .u32 s.d :: .int .u32 s.e :: .int .u32 s.f :: .int .u32 s.g::List.drop 8 s.cells.toList).toArray) gw 278 cs:=Blk.rowFar hBw3.drew (by omega) _
      have hBh4:Blk (Wc.drew.setRow gv (List.take 1 s.cells.toList ++ .int .u32 s.a :: .int .u32 s.b :: .int .u32 s.c :: .int .u32 s.d :: .int .u32 s.e :: .int .u32 s.f :: .int .u32 s.g::List.drop 8 s.cells.toList).toArray) gh 231 vc:=Blk.rowFar hBh3.drew (by omega) _
      have hb4:Below w.heap.size w (Wc.drew.setRow gv (List.take 1 s.cells.toList ++ .int .u32 s.a :: .int .u32 s.b :: .int .u32 s.c :: .int .u32 s.d :: .int .u32 s.e :: .int .u32 s.f :: .int .u32 s.g::List.drop 8 s.cells.toList).toArray):=below_setRow hb3.drew (by omega) _
      clear hcp hBv3 hBw3 hBh3 hb3
      generalize Wc.drew.setRow gv (List.take 1 s.cells.toList ++ .int .u32 s.a :: .int .u32 s.b :: .int .u32 s.c :: .int .u32 s.d :: .int .u32 s.e :: .int .u32 s.f :: .int .u32 s.g::List.drop 8 s.cells.toList).toArray=Wd at *
      have c0:Wd.cell? ⟨gv,0,none⟩=some (.int .u32 s.a):=hBv4.cell 0
      have c4:Wd.cell? ⟨gv,4,none⟩=some (.int .u32 s.d):=hBv4.cell 4
      have f0:=hBv4.frozen 0
      have f4:=hBv4.frozen 4
      go_wp2
      go_roundw
      case rel=>
        refine ⟨k+1,by omega,by go_num,?_,?_,?_,?_⟩
        · have he:vTo v ws (k+1)=roundV s (kList[k]?.getD 0) wk:=by rw [vTo,HST.out,HWK.out]
          rw [he]
          exact (hBv4.set_ 0 _).set_ 4 _
        · exact (hBw4.far (p:=⟨gv,0,none⟩) (by show gw≠gv;omega) _).far (p:=⟨gv,4,none⟩) (by show gw≠gv;omega) _
        · exact (hBh4.far (p:=⟨gv,0,none⟩) (by show gh≠gv;omega) _).far (p:=⟨gv,4,none⟩) (by show gh≠gv;omega) _
        · exact (hb4.setCell (p:=⟨gv,0,none⟩) (by show w.heap.size≤gv;omega) _).setCell (p:=⟨gv,4,none⟩) (by show w.heap.size≤gv;omega) _
      case measure=>simp [intOf];omega
    · have HK := Lib.hid (show k = 64 by omega)
      go_wp2
      clear HIDX
      go_loopw [82] (fun i ws=>∃ m:Nat,m≤8∧i=.int .i64 m∧Blk ws gh 231 (arrU (addTo v s m))∧Blk ws gv 231 s.cells∧w.grownBy ws (some gh)) (fun i _=>8-(intOf i).toNat)
      case atStart=>exact ⟨0,by omega,rfl,by rw [HVC.out] at hBh;rw [addTo_zero];exact hBh,hBv,only_of_below hb _⟩
      case round=>
        clear hBv hBw hBh hb
        obtain ⟨m,hm,rfl,hBh,hBv,hg⟩:=hrel
        by_cases hlt':m<8
        · have ch:wr.cell? ⟨gh,m,none⟩=some (.int .u32 (v.list[m]?.getD 0)):=by
            rw [hBh.cell m];unfold arrU;simp [addTo_get v s m hlt']
          have cv:wr.cell? ⟨gv,m,none⟩=some (.int .u32 (s.list[m]?.getD 0)):=(hBv.cell m).trans (V8.get s m hlt')
          have fh:=hBh.frozen m
          have q0:(0:Int)≤(m:Int):=by omega
          have q1:(m:Int)<8:=by omega
          go_wp2
          go_still_tail 11,(by kernel_rfl)
          change wpList _ _ _ _ _ wr.drew
          go_wp2
          go_roundw
          case rel=>
            refine ⟨m+1,by omega,by go_num,?_,?_,?_⟩
            · rw [← addTo_set v s m hlt',← arrU_set]
              exact (hBh.set_ m _).drew
            · exact (hBv.far (p:=⟨gh,m,none⟩) (by show gv≠gh;omega) _).drew
            · exact only_drew (only_setCell hg (p:=⟨gh,m,none⟩) (.inl rfl) _)
          case measure=>simp [intOf];omega
        · have HM:=Lib.hid (show m=8 by omega)
          go_wp2
          go_end0
          refine ⟨rfl,?_,hg⟩
          rw [HM.out,addTo_all] at hBh
          have hs:s=vTo v (schedTo bs 64) 64:=by rw [← HST.out,HWS.out,HK.out]
          unfold blockF
          rw [← hs]
          exact hBh
end
section
open Go.RowKit
attribute [local go_sem ↓] Go.wp_at_zero Go.wp_at_succ
def pad32 (l:List Int):Array Value:=((l++List.replicate (32-l.length) 0).map (Value.int .u8)).toArray
theorem pad32_set (l:List Int) (x:Int) (h:l.length<32):(pad32 l).setIfInBounds l.length (.int .u8 x)=pad32 (l++[x]):=by
  unfold pad32
  apply Array.ext'
  have e:32-l.length=(32-(l++[x]).length)+1:=by simp;omega
  rw [e,List.replicate_succ]
  simp
def byteF (x:Int) (k:Nat):Int:=x / 2 ^ (24-8*k) % 256
def bytesTo (x:Int) (m:Nat):List Int:=(List.range m).map (byteF x)
theorem bytesTo_succ (x:Int) (m:Nat):bytesTo x (m+1)=bytesTo x m++[byteF x m]:=by simp [bytesTo,List.range_succ]
def outTo (v:V8):Nat→List Int
  | 0=>[]
  | n+1=>outTo v n++bytesTo (v.list[n]?.getD 0) 4
theorem outTo_length (v:V8) (n:Nat):(outTo v n).length=4*n:=by
  induction n with
  | zero=>rfl
  | succ n ih=>simp [outTo,ih,bytesTo];omega
def ofBytes (l:List Int):ByteArray:=l.foldl (fun r n=>r.push (UInt8.ofNat n.toNat)) ByteArray.empty
theorem push_size (l:List Int) (s:ByteArray):(l.foldl (fun r n=>r.push (UInt8.ofNat n.toNat)) s).size=s.size+l.length:=by
  induction l generalizing s with
  | nil=>rfl
  | cons n l ih=>rw [List.foldl_cons,ih,ByteArray.size_push,List.length_cons];omega
theorem ofBytes_size (l:List Int):(ofBytes l).size=l.length:=by
  unfold ofBytes
  rw [push_size]
  simp
def digF (v:V8):ByteArray:=ofBytes (outTo v 8)
theorem digF_size (v:V8):(digF v).size=32:=by unfold digF;rw [ofBytes_size,outTo_length]
theorem wdigest_any (v:V8) (w:World) :
    Calls Tryz.prog 134 #[.agg v.cells] w fun e w'=>e=.returned (.string (digF v))∧Below w.heap.size w w':=by
  obtain ⟨vc,hvc⟩:∃ vc,vc=v.cells:=⟨_,rfl⟩
  have HIX:=Lib.hid (show ∀ (k:Nat) (w':World),k<8→(Instr.index 231 (.agg vc) (.int .i64 (k:Int))).run Tryz.prog w'=.ok (.int .u32 (v.list[k]?.getD 0)) w' by
    intro k w' hk
    rw [hvc]
    obtain ⟨i0,hi,_,hs,_⟩:=info_parts u32_info
    exact run_index_arr Tryz.underlying231 hi hs (fun w=>by simp [isAgg,run_underlying Tryz.underlying229]) k hk _ (V8.get v k hk) w')
  have HV:=Lib.hid (show (Tryz.prog.info? 231).map (·.size)=some vc.size by rw [hvc];kernel_rfl)
  have HV1:=Lib.hid (show vc.all (·.oneCell')=true by rw [hvc];simp [V8.cells,Value.oneCell'])
  rw [← hvc]
  clear hvc
  go_enter Tryz.func134,Tryz.ntmps134
  go_wp2_with (refine wpList_load_row rfl 231 (.tmp 1) rfl w.heap.size rfl 231 vc (0,0) _ ((Blk.new w _ _).alloc _) Tryz.underlying231 rfl HV.out ?_)
  have hB0:Blk ((w.alloc (.cells vc 231)).alloc (.cells (pad32 []) 282)) (w.heap.size+1) 282 (pad32 []):=Blk.new' _ _ _ (by simp)
  have hb0:Below w.heap.size w ((w.alloc (.cells vc 231)).alloc (.cells (pad32 []) 282)):=((Below.refl _ _).alloc (Nat.le_refl _) _).alloc (by simp) _
  go_loopw [8] (fun i wr=>∃ k:Nat,k≤8∧i=.int .i64 k∧Blk wr (w.heap.size+1) 282 (pad32 (outTo v k))∧Below w.heap.size w wr) (fun i _=>8-(intOf i).toNat)
  case atStart=>exact ⟨0,by omega,rfl,hB0,hb0⟩
  case round =>
    clear hB0 hb0
    obtain ⟨k,hk,rfl,hB,hb⟩:=hrel
    by_cases hlt:k<8
    · have hix:=fun w'=>HIX.out k w' hlt
      obtain ⟨x,hx⟩:∃ x,x=v.list[k]?.getD 0:=⟨_,rfl⟩
      rw [← hx] at hix
      have HX:=Lib.hid hx
      clear hx
      go_wp2
      obtain ⟨wo,hwo⟩:∃ wo:World,wo=wr:=⟨_,rfl⟩
      rw [← hwo] at hB hb ⊢
      clear hwo wr hix
      go_loopw [12] (fun i ws=>∃ m:Nat,m≤4∧i=.int .i64 m∧Blk ws (w.heap.size+1) 282 (pad32 (outTo v k++bytesTo x m))∧Below w.heap.size w ws) (fun i _=>4-(intOf i).toNat)
      case atStart=>exact ⟨0,by omega,rfl,by simpa [bytesTo] using hB,hb⟩
      case round=>
        clear hB hb
        obtain ⟨m,hm,rfl,hB,hb⟩:=hrel
        by_cases hlt':m<4
        · have hl:(outTo v k++bytesTo x m).length=4*k+m:=by rw [List.length_append,outTo_length];simp [bytesTo]
          have c0:wr.cell? ⟨w.heap.size+1,4*k+m,none⟩=some (.int .u8 0):=by
            rw [hB.cell];unfold pad32;simp only [List.getElem?_toArray,List.getElem?_map];rw [List.getElem?_append_right (by omega)];simp [hl,List.getElem?_replicate];omega
          have f0:=hB.frozen (4*k+m)
          have q0:(0:Int)≤(k:Int):=by omega
          have q1:(k:Int)<8:=by omega
          have q2:(0:Int)≤(m:Int):=by omega
          have q3:(m:Int)<4:=by omega
          have HL:=Lib.hid hl
          clear hl
          go_wp2
          go_roundw
          case rel=>
            have hs:=pad32_set (outTo v k++bytesTo x m) (byteF x m) (by rw [HL.out];omega)
            rw [HL.out] at hs
            refine ⟨m+1,by omega,by go_num,?_,hb.setCell (p:=⟨w.heap.size+1,4*k+m,none⟩) (by show w.heap.size≤w.heap.size+1;omega) _⟩
            rw [bytesTo_succ,← List.append_assoc,← hs]
            exact hB.set_ _ _
          case measure=>simp [intOf];omega
        · have HM:=Lib.hid (show m=4 by omega)
          go_wp2
          go_roundw
          case rel=>
            refine ⟨k+1,by omega,by go_num,?_,hb⟩
            rw [HM.out,HX.out] at hB
            exact hB
          case measure=>simp [intOf];omega
    · have HK:=Lib.hid (show k=8 by omega)
      obtain ⟨ol,hol⟩:∃ ol,ol=outTo v 8:=⟨_,rfl⟩
      have hlen:ol.length=32:=by rw [hol,outTo_length]
      have hcv:(convert 213 9 (.slice (some ⟨w.heap.size+1,0,none⟩) 32 32)).run Tryz.prog wr=.ok (.string (ofBytes ol)) wr:=by
        rw [run_convert_bytes_string wr 213 9 5 _ 32 32 Tryz.underlying213 Tryz.underlying5 Tryz.underlying9]
        refine run_bytesToString wr _ 32 32 ol ?_
        have h:=run_loadCells_list (P:=Tryz.prog) wr ⟨w.heap.size+1,0,none⟩ (ol.map (Value.int .u8)) (fun j x hx=>by
          rw [show (⟨w.heap.size+1,0,none⟩:Addr).add j=⟨w.heap.size+1,j,none⟩ from by unfold Addr.add;split <;> simp_all]
          rw [hB.cell j,HK.out,← hol]
          unfold pad32
          rw [hlen]
          simpa using hx)
        rw [List.length_map,hlen] at h
        exact h
      have HF:=Lib.hid (show ofBytes ol=digF v by rw [hol];rfl)
      clear hol hlen
      generalize ofBytes ol=fin at *
      go_wp2
      go_ret
      exact ⟨by rw [← HF.out];rfl,hb⟩
end
section
open Go.RowKit Go.Shelf
attribute [local go_sem] Oper.semAt_some
def KeptB (n₀ gh:Nat) (W W':World):Prop:=∀ b,b<n₀→b≠gh→W'.heap[b]? = W.heap[b]?
theorem KeptB.refl (n₀ gh:Nat) (W:World):KeptB n₀ gh W W:=fun _ _ _=>rfl
theorem KeptB.trans {n₀ gh:Nat} {A B C:World} (h:KeptB n₀ gh A B) (k:KeptB n₀ gh B C):KeptB n₀ gh A C:=fun b h1 h2=>(k b h1 h2).trans (h b h1 h2)
theorem KeptB.drewN {n₀ gh:Nat} {A B:World} (h:KeptB n₀ gh A B) (m:Nat):KeptB n₀ gh A (B.drewN m):=h
theorem KeptB.cell {n₀ gh:Nat} {A B:World} (h:KeptB n₀ gh A B) {p:Addr} (h1:p.block<n₀) (h2:p.block≠gh):B.cell? p=A.cell? p:=World.cell?_of_block (h p.block h1 h2)
theorem grown_drewN (A:World) (m:Nat) (row:Option Nat):A.grownBy (A.drewN m) row:=⟨rfl,rfl,rfl,Nat.le_refl _,fun _ _ _=>rfl⟩
theorem wpListIn_append_c {F:Fence} {n:Nat} {P:Program} {w:World} {ops:Array Oper} {rest:List Oper} {o:Oper} {a:Act} {Q:Exit→Act→World→Prop} (hgd:o.guard=none) (s x:Operand) (t:TypeId)
    (hop:o.op=.call { callee:=.builtin .append,args:=#[s,x],argTypes:=#[t,t] })
    (base:Nat) (e:TypeId) (i:TypeInfo) (z:Value) (bytes:Nat) (ht:P.underlying t=some (.slice e)) (hi:P.info? e=some i) (hz:i.zero=some z)
    (hsize:i.size=1) (hby:i.bytes=bytes) (hzs:z.cells.size=1)
    (v:Value) (xs:List Value) (hs:a.eval s=v) (hown:OwnC w base v xs) (ad:Addr) (c:Nat) (xv:Value) (hx:a.eval x=.slice (some ad) 1 c) (hc:w.cell? ad=some xv) (h1:xv.oneCell'=true)
    (h63:xs.length+1≤maxLen) (hbytes:(xs.length+1)*bytes≤140737488355328) (hbase:base≤w.heap.size)
    (h:∀ v' w',OwnC w' base v' (xs++[xv])→w.grownBy w' v.ownBlock→wpListIn F n P ops Q rest (a.put o.dst v') w'):wpListIn F n P ops Q (o::rest) a w:=by
  refine wpListIn_plain hgd fun K hK'=>?_
  obtain ⟨v',w',hrun,h2,h3⟩:=run_append_c (P:=P) base t o.type e i z bytes ht hi hz hsize hby hzs v xs hown ad c xv hc h1 h63 hbytes hbase
  unfold Oper.wpIn
  refine ⟨?_,?_⟩
  · simp [Oper.about,hop,resolve,Target.leads,Sem.run_pure]
  · rw [Oper.semAt_plain F _ _ (by rw [hop];intro c hc';cases hc')]
    simp [execOp,hop,resolve,invoke,builtin,hs,hx,hrun,Result.andThen]
    exact hK' _ _ (h v' w' h2 h3)
def ups (N:Nat):Nat→List { k:Nat // k<N }
  | 0=>[]
  | k+1=>if h:k<N then ups N k++[⟨k,h⟩] else ups N k
theorem ups_succ (N k:Nat) (h:k<N):ups N (k+1)=ups N k++[⟨k,h⟩]:=by simp [ups,h]
theorem ups_length (N k:Nat) (h:k≤N):(ups N k).length=k:=by
  induction k with
  | zero=>rfl
  | succ k ih=>rw [ups_succ N k (by omega),List.length_append,ih (by omega)];rfl
theorem chunk1_in (n:Nat) (hn:1≤n) (l Bs Bn n₀ b N cap:Nat) (hcap:64*N≤cap) (hN:N≤1000000) (gh:Nat) (hs0:Bs<n₀) (hn0:Bn<n₀) (hsg:Bs≠gh) (hng:Bn≠gh) (J Jx:List { k:Nat // k<N }→World→Prop)
    (hY:∀ pre x W,J pre W→pre.length<N→YieldAt Fence.wide (n-1) Tryz.prog l #[.slice (some ⟨b,64*x.1,none⟩) 64 64] W fun e W'=>
      (e=.returned (.bool true)∧J (pre++[x]) W'∧KeptB n₀ gh W W')∨(e=.returned (.bool false)∧Jx (pre++[x]) W'))
    (W:World) (hBs:W.cell? ⟨Bs,0,none⟩=some (.slice (some ⟨b,0,none⟩) (64*N) cap)) (hBn:W.cell? ⟨Bn,0,none⟩=some (.int .i64 64)) (h0:J [] W) (hJd:∀ p A m,J p A→J p (A.drewN m)) :
    CallsIn Fence.wide n Tryz.prog 182 #[.func (.yield l) #[] #[],.pointer (some ⟨Bs,0,none⟩),.pointer (some ⟨Bn,0,none⟩)] W fun e W'=>(∃ v,e=.returned v) ∧
      ((∃ ys,ys=ups N N∧J ys W')∨(∃ pre,(∃ k,k≤N∧pre=ups N k)∧Jx pre W')):=by
  refine callsIn_of_wp Tryz.func182 rfl trivial ?_ rfl
  simp only [Tryz.ntmps182,List.size_toArray,List.length_cons,List.length_nil,Nat.reduceAdd,Nat.reduceSub,Array.replicate_succ,Array.replicate_zero,List.push_toArray,List.append_toArray,List.nil_append,List.cons_append]
  gi_wp2
  gi_loopw [4] (fun i wr=>∃ k:Nat,k≤N∧i=.int .i64 (64*(k:Int))∧J (ups N k) wr∧KeptB n₀ gh W wr)
    (fun i _=>64*N-(intOf i).toNat)
  case atStart=>exact ⟨0,Nat.zero_le _,rfl,h0,KeptB.refl _ _ _⟩
  case round=>
    obtain ⟨k,hk,rfl,hJs,hnx⟩:=hrel
    have cs:=(hnx.cell (p:=⟨Bs,0,none⟩) hs0 hsg).trans hBs
    have cn:=(hnx.cell (p:=⟨Bn,0,none⟩) hn0 hng).trans hBn
    by_cases hlt:k<N
    · have b0:(0:Int)≤64*(k:Int):=by omega
      have b1:64*(k:Int)≤64*(N:Int):=by omega
      have b2:64*(k:Int)<64*(N:Int):=by omega
      have t0:(64*(k:Int)).toNat=64*k:=by omega
      have hck:(cap=64*k)=False:=by simp;omega
      have hmn:min (64:Int) ((64*N-64*k:Nat):Int)=64:=by omega
      gi_wp2
      gi_quiet (fail)
      obtain ⟨fn,tmps,assign,body,hy,hR⟩:=hY _ ⟨k,hlt⟩ (wr.drewN nq) (hJd _ _ _ hJs) (by rw [ups_length N k hk];exact hlt)
      dsimp only at hy
      gi_wp2
      refine hR.mono ?_
      rintro e W3 (⟨rfl,hJ3,hk3⟩|⟨rfl,hJx3⟩)
      · have cn3:=(hk3.cell (p:=⟨Bn,0,none⟩) hn0 hng).trans cn
        gi_wp2
        go_roundw
        case rel=>exact ⟨k+1,by omega,by go_num,by rw [ups_succ N k hlt];exact hJ3,(hnx.drewN nq).trans hk3⟩
        case measure=>simp [intOf];omega
      · gi_wp2
        refine bodyPost_ret (results_none rfl _ _ _) rfl ?_
        exact ⟨⟨_,rfl⟩,.inr ⟨_,⟨k+1,by omega,(ups_succ N k hlt).symm⟩,hJx3⟩⟩
    · obtain rfl:k=N:=by omega
      gi_wp2
      go_end0
      exact ⟨⟨_,rfl⟩,.inl ⟨_,rfl,hJs⟩⟩
theorem chunk_stops (n:Nat) (hn:1≤n) (Bs Bn n₀ b N cap gh:Nat) (hcap:64*N≤cap) (hN:N≤1000000) (hs0:Bs<n₀) (hn0:Bn<n₀) (hsg:Bs≠gh) (hng:Bn≠gh) (w:World) (hw:n₀≤w.heap.size)
    (hBs:w.cell? ⟨Bs,0,none⟩=some (.slice (some ⟨b,0,none⟩) (64*N) cap)) (hBn:w.cell? ⟨Bn,0,none⟩=some (.int .i64 64)) :
    SeqStopsK Fence.wide n Tryz.prog 182 #[.pointer (some ⟨Bs,0,none⟩),.pointer (some ⟨Bn,0,none⟩)] (fun x:{ k:Nat // k<N }=>#[Value.slice (some ⟨b,64*x.1,none⟩) 64 64])
      (KeptB n₀ gh) (fun ys=>ys=ups N N) (fun _=>True) N w:=fun l J Jx W hW hJ _ hY h0=>by
  refine (chunk1_in n hn l Bs Bn n₀ b N cap hcap hN gh hs0 hn0 hsg hng J Jx hY W ((hW.cell (p:=⟨Bs,0,none⟩) (by show Bs<w.heap.size;omega)).trans hBs) ((hW.cell (p:=⟨Bn,0,none⟩) (by show Bn<w.heap.size;omega)).trans hBn) h0
    (fun p A m h=>hJ p A _ none h (grown_drewN A m none) (fun r e=>by cases e))).mono ?_
  rintro e W' ⟨he,⟨ys,rfl,hj⟩|⟨pre,_,hj⟩⟩
  · exact ⟨he,.inl ⟨_,rfl,hj⟩⟩
  · exact ⟨he,.inr ⟨_,trivial,hj⟩⟩
end
end Go.Proofs.YtimoapjhepmehaaGreatDoor
