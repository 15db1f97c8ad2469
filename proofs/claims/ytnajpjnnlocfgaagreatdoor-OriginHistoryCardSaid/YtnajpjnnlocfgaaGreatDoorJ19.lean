/-
  package row: within, Valid, sound, ValidChange, ValidRecord at any numbers.
-/
import Derived.Test.YtnajpjnnlocfgaaGreatDoorJ1
set_option linter.unusedSimpArgs false
set_option linter.unusedVariables false
set_option maxHeartbeats 4000000
set_option maxRecDepth 100000
namespace Go.Proofs.YtnajpjnnlocfgaaGreatDoor
open Go.RowKit
attribute [local go_sem ↓] Go.wp_at_zero Go.wp_at_succ
theorem within1_out (n lo hi:Int) (bl bh:Nat) (w:World) (hl:w.cell? ⟨bl,0,none⟩=some (.int .i64 lo)) (hh:w.cell? ⟨bh,0,none⟩=some (.int .i64 hi)) (h1:n<lo∨hi<n) :
    Calls Tryz.prog 175 #[.int .i64 n,.pointer (some ⟨bl,0,none⟩),.pointer (some ⟨bh,0,none⟩)] w fun e w'=>e=.returned (.bool true)∧w=w':=by
  by_cases h:n<lo
  · exact within1_low n lo hi bl bh w hl h
  · have d1:decide (n<lo)=false:=decide_eq_false h
    have d2:decide (hi<n)=true:=decide_eq_true (by omega)
    clear h1
    go_enter Tryz.func175,Tryz.ntmps175
    go_wp2
    go_ret
    exact ⟨rfl,rfl⟩
theorem indexIn_no (b off c:Nat) (l:List Int) (lo hi:Int) (bl bh:Nat) (w:World) (hl:w.cell? ⟨bl,0,none⟩=some (.int .i64 lo)) (hh:w.cell? ⟨bh,0,none⟩=some (.int .i64 hi)) (hc:IntsAt w b off l) (hn:l.length≤100000) (hin:inF lo hi l=false) :
    Calls Tryz.prog 213 #[.slice (some ⟨b,off,none⟩) l.length c,.func (.func 175) #[] #[.pointer (some ⟨bl,0,none⟩),.pointer (some ⟨bh,0,none⟩)]] w fun e w'=>(∃ k:Nat,k≤100000∧e=.returned (.int .i64 (k:Int)))∧w=w':=by
  have HC:=Lib.hid hc
  have HI:=Lib.hid hin
  have HL:=Lib.hid hl
  have HH:=Lib.hid hh
  clear hc hin hl hh
  go_enter Tryz.func213,Tryz.ntmps213
  go_wp2
  go_loop [8] (fun i=>∃ k:Nat,k≤l.length∧i=.int .i64 k∧inF lo hi (l.take k)=true) (fun i=>l.length-(intOf i).toNat)
  case atStart=>exact ⟨0,Nat.zero_le _,rfl,rfl⟩
  case round=>
    obtain ⟨k,hk,rfl,hin⟩:=hrel
    have HK:=Lib.hid hin
    clear hin
    by_cases hlt:k<l.length
    · have hcell:=HC.out k l[k] (List.getElem?_eq_getElem hlt)
      obtain ⟨x,hxe⟩:∃ x,x=l[k]:=⟨_,rfl⟩
      rw [← hxe] at hcell
      have HX:=Lib.hid (show l.take (k+1)=l.take k++[x] by rw [hxe];exact List.take_succ_eq_append_getElem hlt)
      clear hxe
      by_cases hx:lo≤x∧x≤hi
      · obtain ⟨hx1,hx2⟩:=hx
        go_wp2_with (go_at_call 175;refine (within1_in _ _ _ _ _ _ HL.out HH.out hx1 hx2).mono ?_;rintro e w' ⟨rfl,rfl⟩)
        go_round
        case rel=>
          refine ⟨k+1,by omega,by go_num,?_⟩
          have h9:=HK.out
          rw [HX.out]
          unfold inF at h9 ⊢
          rw [List.all_append,h9]
          simp [hx1,hx2]
        case measure=>simp [intOf];omega
      · have hx':x<lo∨hi<x:=by omega
        go_wp2_with (go_at_call 175;refine (within1_out _ _ _ _ _ _ HL.out HH.out hx').mono ?_;rintro e w' ⟨rfl,rfl⟩)
        go_ret
        exact ⟨⟨k,by omega,rfl⟩,rfl⟩
    · have h9:=HK.out
      rw [List.take_of_length_le (by omega)] at h9
      have h8:=HI.out
      rw [h9] at h8
      cases h8
theorem within_any (b off c:Nat) (l:List Int) (lo hi:Int) (w:World) (hc:IntsAt w b off l) (hb:b<w.heap.size) (hn:l.length≤100000) :
    Calls Tryz.prog 130 #[.int .i64 lo,.int .i64 hi,.slice (some ⟨b,off,none⟩) l.length c] w fun e w'=>e=.returned (.bool (inF lo hi l))∧Below w.heap.size w w':=by
  cases hin:inF lo hi l with
  | true=>exact within_yes b off c l lo hi w hc hb hn hin
  | false=>
    have hmf:∀ (fn:Fn) (first cap:Array Value) (w:World),(Instr.makeFunc fn first cap).run Tryz.prog w=.ok (.func fn first cap) w:=fun _ _ _ _=>rfl
    have hbl:Below w.heap.size w ((w.alloc (.cells #[.int .i64 lo] 3)).alloc (.cells #[.int .i64 hi] 3)):=((Below.refl _ _).alloc (Nat.le_refl _) _).alloc (by simp) _
    have HI:=Lib.hid (indexIn_no b off c l lo hi w.heap.size (w.heap.size+1) ((w.alloc (.cells #[.int .i64 lo] 3)).alloc (.cells #[.int .i64 hi] 3)) (cell_al ((Blk.new _ _ _).cell 0) _) ((Blk.new' _ _ _ (by simp)).cell 0) (fun j x hx=>(hbl.cell (p:=⟨b,off+j,none⟩) hb).trans (hc j x hx)) hn hin)
    have HB:=Lib.hid hbl
    clear hc hin hbl
    go_enter Tryz.func130,Tryz.ntmps130
    go_wp2_with (first
      | (go_at_call 174;go_in)
      | (go_at_call 213;refine HI.out.mono ?_;rintro e w' ⟨⟨k,hk,rfl⟩,hw'⟩;subst w';have hk0:(0:Int)≤(k:Int):=Int.natCast_nonneg k))
    go_ret
    exact ⟨rfl,HB.out⟩
def okB (r:RowT):Bool:=inF 0 3 [r.t] && inF 1 1000000 [r.k] && inF (-1000000000) 1000000000 [r.a,r.b,r.c]
theorem okB_iff (r:RowT):okB r=true↔r.ok:=by
  unfold okB inF RowT.ok
  simp
  omega
theorem rowValid_any (r:RowT) (w:World) :
    Calls Tryz.prog 160 #[.agg #[.int .i64 r.t,.int .i64 r.k,.int .i64 r.a,.int .i64 r.b,.int .i64 r.c]] w fun e w'=>e=.returned (.bool (okB r))∧Below w.heap.size w w':=by
  obtain ⟨t,k,a,b,c⟩:=r
  have K1:=Lib.hid (fun (b c:Nat) (W:World) (h:IntsAt W b 0 [t]) (hb:b<W.heap.size)=>within_any b 0 c [t] 0 3 W h hb (by simp))
  have K2:=Lib.hid (fun (b c:Nat) (W:World) (h:IntsAt W b 0 [k]) (hb:b<W.heap.size)=>within_any b 0 c [k] 1 1000000 W h hb (by simp))
  have K3:=Lib.hid (fun (g d:Nat) (W:World) (h:IntsAt W g 2 [a,b,c]) (hb:g<W.heap.size)=>within_any g 2 d [a,b,c] (-1000000000) 1000000000 W h hb (by simp))
  simp only [okB]
  generalize inF 0 3 [t]=b1 at *
  generalize inF 1 1000000 [k]=b2 at *
  generalize inF (-1000000000) 1000000000 [a,b,c]=b3 at *
  have HB0:=Lib.hid (Blk.new w 108 #[.int .i64 t,.int .i64 k,.int .i64 a,.int .i64 b,.int .i64 c])
  go_enter Tryz.func160,Tryz.ntmps160
  go_wp2_with fail
  refine (K1.out (w.heap.size+1) 1 _ (.of_blk (Blk.new' _ _ _ (by simp)) 0 [t] rfl) (by simp)).mono ?_
  rintro e W1 ⟨rfl,hb1⟩
  have hB1:=(HB0.out.alloc (.cells #[.int .i64 t] 3)).ext hb1
  have c1:=hB1.cell 1
  have HB1:=Lib.hid hB1
  have HL1:=Lib.hid (ext_call (ext_alloc (ext_new w _) _) hb1)
  clear hb1 hB1
  cases b1
  · go_wp2
    go_ret
    exact ⟨rfl,HL1.out⟩
  go_wp2_with fail
  refine (K2.out W1.heap.size 1 _ (.of_blk (Blk.new _ _ _) 0 [k] rfl) (by simp)).mono ?_
  rintro e W2 ⟨rfl,hb2⟩
  have HB2:=Lib.hid ((HB1.out.alloc (.cells #[.int .i64 k] 3)).ext hb2)
  have HL2:=Lib.hid (ext_call (ext_alloc HL1.out _) hb2)
  clear hb2 c1
  cases b2
  · go_wp2
    go_ret
    exact ⟨rfl,HL2.out⟩
  go_wp2_with fail
  refine (K3.out w.heap.size 3 _ (.of_blk HB2.out 2 [a,b,c] rfl) HB2.out.lt).mono ?_
  rintro e W3 ⟨rfl,hb3⟩
  go_wp2
  go_ret
  exact ⟨by simp,ext_call HL2.out hb3⟩
def soundB (t k:Int) (there:Bool) (a b c:Int):Bool:=if there then okB ⟨t,k,a,b,c⟩ else decide (a=0) && decide (b=0) && decide (c=0)
theorem sound_G (x:ChgT) (there:Bool) (a1 a2 a3:Int) (w:World):Calls Tryz.prog 176 #[.agg #[.int .i64 x.t,.int .i64 x.k,.bool x.had,.int .i64 x.o1,.int .i64 x.o2,.int .i64 x.o3,.bool x.has,.int .i64 x.n1,.int .i64 x.n2,.int .i64 x.n3],.bool there,.agg #[.int .i64 a1,.int .i64 a2,.int .i64 a3]] w fun e w'=>e=.returned (.bool (soundB x.t x.k there a1 a2 a3))∧Below w.heap.size w w':=by
  obtain ⟨t,k,had,o1,o2,o3,has,n1,n2,n3⟩:=x
  dsimp only
  cases there with
  | true =>
    have HR:=Lib.hid (fun W:World=>rowValid_any ⟨t,k,a1,a2,a3⟩ W)
    rw [show soundB t k true a1 a2 a3=okB ⟨t,k,a1,a2,a3⟩ from rfl]
    generalize okB ⟨t,k,a1,a2,a3⟩=q at *
    go_enter Tryz.func176,Tryz.ntmps176
    cases q <;>
      (go_wp2_with (first
        | (go_at_call 81;refine (half_yes _ _ _ _ _ _ _ _ _ _ _ _ _ _).mono ?_;rintro e W1 ⟨rfl,hb1⟩;have HL1:=Lib.hid (ext_call (ext_alloc (ext_new w _) _) hb1);clear hb1)
        | (go_at_call 160;refine (HR.out _).mono ?_;rintro e W2 ⟨rfl,hb2⟩;have HL2:=Lib.hid (ext_call (ext_alloc HL1.out _) hb2);clear hb2))
       go_ret
       exact ⟨rfl,HL2.out⟩)
  | false=>
    have heq:=fun W:World=>eq3 a1 a2 a3 0 0 0 W
    rw [show soundB t k false a1 a2 a3=(decide (a1=0) && decide (a2=0) && decide (a3=0)) from rfl]
    generalize (decide (a1=0) && decide (a2=0) && decide (a3=0))=q at *
    go_enter Tryz.func176,Tryz.ntmps176
    cases q <;>
      (go_wp2_with (go_at_call 81;refine (half_no _ _ _ _ _ _ _ _ _ _ _ _ _ _).mono ?_;rintro e W1 ⟨rfl,hb1⟩;have hB1:=(((Blk.new' (w.alloc (.cells #[.int .i64 t,.int .i64 k,.bool had,.int .i64 o1,.int .i64 o2,.int .i64 o3,.bool has,.int .i64 n1,.int .i64 n2,.int .i64 n3] 62)) 60 #[.int .i64 a1,.int .i64 a2,.int .i64 a3] (b:=w.heap.size+1) (by simp)))).ext hb1;have c0:=hB1.cell 0;have c1:=hB1.cell 1;have c2:=hB1.cell 2;have l1:=hB1.lt;have HL1:=Lib.hid (ext_call (ext_alloc (ext_new w _) _) hb1);clear hb1)
       go_ret
       exact ⟨rfl,ext_alloc HL1.out _⟩)
def validC (x:ChgT):Bool:=x.turns && soundB x.t x.k x.had x.o1 x.o2 x.o3 && soundB x.t x.k x.has x.n1 x.n2 x.n3
theorem soundB_iff (t k:Int) (there:Bool) (a b c:Int):soundB t k there a b c=true↔(there=true→RowT.ok ⟨t,k,a,b,c⟩)∧(there=false→a=0∧b=0∧c=0):=by
  cases there <;> simp [soundB,okB_iff,and_assoc]
theorem zero_bounds:((-1000000000:Int)≤0∧(0:Int)≤1000000000)∧((-1000000000:Int)≤0∧(0:Int)≤1000000000)∧((-1000000000:Int)≤0∧(0:Int)≤1000000000):=by omega
theorem validC_iff (x:ChgT):validC x=true↔x.turns=true∧x.ok:=by
  unfold validC
  rw [Bool.and_eq_true,Bool.and_eq_true,soundB_iff,soundB_iff]
  obtain ⟨t,k,had,o1,o2,o3,has,n1,n2,n3⟩:=x
  dsimp only
  constructor
  · rintro ⟨⟨ht,ho1,ho2⟩,hn1,hn2⟩
    refine ⟨ht,?_⟩
    cases had with
    | false=>
      obtain ⟨rfl,rfl,rfl⟩:=ho2 rfl
      cases has with
      | false=>simp [ChgT.turns] at ht
      | true=>
        obtain ⟨h1,h2,h3,h4,h5⟩:=hn1 rfl
        exact ⟨⟨h1,h2⟩,fun _=>⟨rfl,rfl,rfl⟩,fun h=>(by cases h),zero_bounds,h3,h4,h5⟩
    | true=>
      obtain ⟨h1,h2,h3,h4,h5⟩:=ho1 rfl
      cases has with
      | false=>
        obtain ⟨rfl,rfl,rfl⟩:=hn2 rfl
        exact ⟨⟨h1,h2⟩,fun h=>(by cases h),fun _=>⟨rfl,rfl,rfl⟩,⟨h3,h4,h5⟩,zero_bounds⟩
      | true=>
        obtain ⟨_,_,h6,h7,h8⟩:=hn1 rfl
        exact ⟨⟨h1,h2⟩,fun h=>(by cases h),fun h=>(by cases h),⟨h3,h4,h5⟩,h6,h7,h8⟩
  · rintro ⟨ht,⟨h1,h2⟩,h3,h4,h5,h6⟩
    exact ⟨⟨ht,fun _=>⟨h1,h2,h5⟩,h3⟩,fun _=>⟨h1,h2,h6⟩,h4⟩
theorem validChange_G (c:ChgT) (w:World):Calls Tryz.prog 131 #[.agg #[.int .i64 c.t,.int .i64 c.k,.bool c.had,.int .i64 c.o1,.int .i64 c.o2,.int .i64 c.o3,.bool c.has,.int .i64 c.n1,.int .i64 c.n2,.int .i64 c.n3]] w fun e w'=>e=.returned (.bool (validC c))∧Below w.heap.size w w':=by
  have HO:=Lib.hid (fun W:World=>sound_G c c.had c.o1 c.o2 c.o3 W)
  have HN:=Lib.hid (fun W:World=>sound_G c c.has c.n1 c.n2 c.n3 W)
  unfold validC
  obtain ⟨b,hb⟩:∃ b,b=c.turns:=⟨_,rfl⟩
  rw [← hb]
  generalize soundB c.t c.k c.had c.o1 c.o2 c.o3=s1 at *
  generalize soundB c.t c.k c.has c.n1 c.n2 c.n3=s2 at *
  obtain ⟨t,k,had,o1,o2,o3,has,n1,n2,n3⟩:=c
  have heq:=fun W:World=>eq3 o1 o2 o3 n1 n2 n3 W
  have HB0:=Lib.hid (Blk.new w 62 #[.int .i64 t,.int .i64 k,.bool had,.int .i64 o1,.int .i64 o2,.int .i64 o3,.bool has,.int .i64 n1,.int .i64 n2,.int .i64 n3])
  simp only [ChgT.turns] at hb
  dsimp only at HO HN ⊢
  generalize (decide (o1=n1) && decide (o2=n2) && decide (o3=n3))=q at hb heq
  have HT:=Lib.hid (fun W1:World=>fun (hb1:Below (w.alloc (.cells #[.int .i64 t,.int .i64 k,.bool had,.int .i64 o1,.int .i64 o2,.int .i64 o3,.bool has,.int .i64 n1,.int .i64 n2,.int .i64 n3] 62)).heap.size (w.alloc (.cells #[.int .i64 t,.int .i64 k,.bool had,.int .i64 o1,.int .i64 o2,.int .i64 o3,.bool has,.int .i64 n1,.int .i64 n2,.int .i64 n3] 62)) W1)=>And.intro (HB0.out.ext hb1) (ext_call (ext_new w _) hb1))
  cases had <;> cases has <;> cases q <;> simp only [Bool.false_bne,Bool.true_bne,Bool.not_true,Bool.not_false,Bool.or_true,Bool.or_false,Bool.true_or,Bool.false_or,Bool.and_true,Bool.and_false,Bool.false_and,Bool.true_and,bne_self_eq_false] at hb <;> subst hb <;> go_enter Tryz.func131,Tryz.ntmps131 <;> (go_wp2_with fail) <;>
    first
    | (go_ret;exact ⟨rfl,ext_new w _⟩)
    | (refine (HO.out _).mono ?_
       rintro e W1 ⟨rfl,hb1⟩
       have hB1:=(HT.out _ hb1).1
       have c0:=hB1.cell 0;have c1:=hB1.cell 1;have c2:=hB1.cell 2;have c3:=hB1.cell 3;have c4:=hB1.cell 4;have c5:=hB1.cell 5;have c6:=hB1.cell 6;have c7:=hB1.cell 7;have c8:=hB1.cell 8;have c9:=hB1.cell 9
       have HL1:=Lib.hid (HT.out _ hb1).2
       clear hb1 hB1
       cases s1
       · go_wp2
         go_ret
         exact ⟨rfl,HL1.out⟩
       go_wp2_with fail
       refine (HN.out _).mono ?_
       rintro e W2 ⟨rfl,hb2⟩
       go_wp2
       go_ret
       exact ⟨by simp,ext_call HL1.out hb2⟩)
def vAsc (last:ChgT):List ChgT→Bool
  | []=>true
  | x::r=>(validC x && !(decide (x.t<last.t) || (x.t == last.t) && decide (x.k≤last.k))) && vAsc x r
def vrecF (l:List ChgT):Bool:=decide (1≤l.length∧l.length≤8) && vAsc noChg l
theorem vAsc_iff:∀ (l:List ChgT) (last:ChgT),vAsc last l=true↔(∀ x ∈ l,validC x=true)∧(∀ x,l[0]? = some x→last.t<x.t∨(last.t=x.t∧last.k<x.k))∧(∀ (j:Nat) (a b:ChgT),l[j]? = some a→l[j+1]? = some b→a.t<b.t∨(a.t=b.t∧a.k<b.k))
  | [],last=>by simp [vAsc]
  | x :: r, last => by
    have ih:=vAsc_iff r x
    have h0:(!(decide (x.t<last.t) || (x.t == last.t) && decide (x.k≤last.k)))=true↔(last.t<x.t∨(last.t=x.t∧last.k<x.k)):=by
      simp
      omega
    unfold vAsc
    rw [Bool.and_eq_true,Bool.and_eq_true,h0,ih]
    constructor
    · rintro ⟨⟨h1,h2⟩,h3,h4,h5⟩
      refine ⟨fun y hy=>?_,fun y hy=>?_,fun j a b ha hb=>?_⟩
      · rcases List.mem_cons.1 hy with rfl|hy
        · exact h1
        · exact h3 y hy
      · simp at hy;subst hy;exact h2
      · cases j with
        | zero=>simp at ha;subst ha;exact h4 b (by simpa using hb)
        | succ j=>exact h5 j a b (by simpa using ha) (by simpa using hb)
    · rintro ⟨h1,h2,h3⟩
      exact ⟨⟨h1 x (by simp),h2 x rfl⟩,fun y hy=>h1 y (by simp [hy]),fun y hy=>h3 0 x y rfl (by simpa using hy),fun j a b ha hb=>h3 (j+1) a b (by simpa using ha) (by simpa using hb)⟩
theorem vrecF_iff (l:List ChgT):vrecF l=true↔ChgsOK l∧validF l=true:=by
  unfold vrecF
  rw [Bool.and_eq_true,decide_eq_true_eq,vAsc_iff]
  constructor
  · rintro ⟨⟨h1,h2⟩,h3,h4,h5⟩
    refine ⟨⟨h2,fun x hx=>((validC_iff x).1 (h3 x hx)).2,h5⟩,?_⟩
    unfold validF
    rw [Bool.and_eq_true,List.all_eq_true]
    exact ⟨by cases l with|nil=>simp at h1|cons a r=>rfl,fun x hx=>((validC_iff x).1 (h3 x hx)).1⟩
  · rintro ⟨h1,h2⟩
    unfold validF at h2
    rw [Bool.and_eq_true,List.all_eq_true] at h2
    refine ⟨⟨by cases l with|nil=>simp at h2|cons a r=>simp,h1.few⟩,fun x hx=>(validC_iff x).2 ⟨h2.2 x hx,h1.ok x hx⟩,fun x hx=>?_,h1.asc⟩
    have:=(h1.ok x (List.mem_of_getElem? hx)).1.1.1
    simp only [noChg]
    omega
theorem validRecord_G (p:Int) (hp:1≤p∧p≤10000) (l:List ChgT) (v:Value) (w:World) (hv:ChgsAt w v l) (hl9:l.length≤1000):Calls Tryz.prog 80 #[.agg #[.int .i64 p,v]] w fun e w'=>e=.returned (.bool (vrecF l))∧Below w.heap.size w w':=by
  have I1:=Lib.hid (show inF 1 10000 [p]=true by simp [inF,hp.1,hp.2])
  have HV:=Lib.hid hv
  obtain ⟨A,c,rfl,hc,-⟩:=hv
  have HB0:=Lib.hid (Blk.new w 43 #[.int .i64 p,.slice A l.length c])
  go_enter Tryz.func80,Tryz.ntmps80
  go_wp2_with fail
  refine (within_yes (w.heap.size+1) 0 1 [p] 1 10000 _ (.of_blk (Blk.new' _ _ _ (by simp)) 0 [p] rfl) (by simp) (by simp) I1.out).mono ?_
  rintro e W1 ⟨rfl,hb1⟩
  have hB1:=(HB0.out.alloc _).ext hb1
  have c1:=hB1.cell 1
  have HB1:=Lib.hid hB1
  have HL1:=Lib.hid (ext_call (ext_alloc (ext_new w _) _) hb1)
  clear hb1 hB1
  go_wp2_with fail
  by_cases h0:l.length=0
  · refine (within_low W1.heap.size 1 (l.length:Int) 1 8 _ ((Blk.new _ _ _).cell 0) (by omega)).mono ?_
    rintro e W2 ⟨rfl,hb2⟩
    have hF:=Lib.hid (show vrecF l=false by rw [List.length_eq_zero_iff] at h0;rw [h0];rfl)
    go_wp2
    go_ret
    exact ⟨by rw [hF.out];rfl,ext_call (ext_alloc HL1.out _) hb2⟩
  by_cases hfew:l.length≤8
  case neg=>
    refine (within_any W1.heap.size 0 1 [(l.length:Int)] 1 8 _ (.of_blk (Blk.new _ _ _) 0 [(l.length:Int)] rfl) (by simp) (by simp)).mono ?_
    rintro e W2 ⟨rfl,hb2⟩
    rw [show inF 1 8 [(l.length:Int)]=false by simp [inF];omega]
    have hF:=Lib.hid (show vrecF l=false by unfold vrecF;rw [decide_eq_false (by omega)];rfl)
    go_wp2
    go_ret
    exact ⟨by rw [hF.out];rfl,ext_call (ext_alloc HL1.out _) hb2⟩
  refine (within_yes W1.heap.size 0 1 [(l.length:Int)] 1 8 _ (.of_blk (Blk.new _ _ _) 0 [(l.length:Int)] rfl) (by simp) (by simp) (by simp [inF];omega)).mono ?_
  rintro e W2 ⟨rfl,hb2⟩
  have hB2:=(HB1.out.alloc _).ext hb2
  have c1:=hB2.cell 1
  have l1:=hB2.lt
  have HL2:=Lib.hid (ext_call (ext_alloc HL1.out _) hb2)
  clear hb2 hB2
  go_wp2
  have HB3:=Lib.hid (Blk.new W2 62 #[.int .i64 (-1),.int .i64 0,.bool false,.int .i64 0,.int .i64 0,.int .i64 0,.bool false,.int .i64 0,.int .i64 0,.int .i64 0])
  have HL3:=Lib.hid (ext_alloc HL2.out (.cells #[.int .i64 (-1),.int .i64 0,.bool false,.int .i64 0,.int .i64 0,.int .i64 0,.bool false,.int .i64 0,.int .i64 0,.int .i64 0] 62))
  have HS:=Lib.hid (HL2.out.size)
  generalize hbl:W2.heap.size=bl at *
  generalize W2.alloc (.cells #[.int .i64 (-1),.int .i64 0,.bool false,.int .i64 0,.int .i64 0,.int .i64 0,.bool false,.int .i64 0,.int .i64 0,.int .i64 0] 62)=W3 at *
  clear c1 l1 HL2 HL1 HB1 HB0
  go_loopw [5,23] (fun _ i W=>∃ k:Nat,k≤l.length∧i=.int .i64 k∧Blk W bl 62 (lastC l k).arr∧vAsc noChg l=vAsc (lastC l k) (l.drop k)∧Below w.heap.size w W) (fun _ i _=>l.length-(intOf i).toNat)
  case atStart=>exact ⟨0,Nat.zero_le _,rfl,HB3.out,rfl,HL3.out⟩
  case round=>
    obtain ⟨k,hk,rfl,hb,ht,hE⟩:=hrel
    have HE:=Lib.hid hE
    have HT:=Lib.hid ht
    clear hE ht
    by_cases hlt:k<l.length
    · obtain ⟨x,hx⟩:∃ x,l[k]? = some x:=⟨_,List.getElem?_eq_getElem hlt⟩
      obtain ⟨b,off,c',hA,_,hc9⟩:=(HV.out.ext HE.out).at_ hx
      injection hA with hA hn' hc'
      subst hA;subst hc'
      clear hn'
      have HVC:=Lib.hid (fun W:World=>validChange_G x W)
      have HX:=Lib.hid hx
      obtain ⟨t,k',had,o1,o2,o3,has,n1,n2,n3⟩:=x
      have c0:wr.cell? ⟨b,off+k*10,none⟩=some (.int .i64 t):=hc9 0 (by omega)
      have c1:wr.cell? ⟨b,off+k*10+1,none⟩=some (.int .i64 k'):=hc9 1 (by omega)
      have c2:wr.cell? ⟨b,off+k*10+2,none⟩=some (.bool had):=hc9 2 (by omega)
      have c3:wr.cell? ⟨b,off+k*10+3,none⟩=some (.int .i64 o1):=hc9 3 (by omega)
      have c4:wr.cell? ⟨b,off+k*10+4,none⟩=some (.int .i64 o2):=hc9 4 (by omega)
      have c5:wr.cell? ⟨b,off+k*10+5,none⟩=some (.int .i64 o3):=hc9 5 (by omega)
      have c6:wr.cell? ⟨b,off+k*10+6,none⟩=some (.bool has):=hc9 6 (by omega)
      have c7:wr.cell? ⟨b,off+k*10+7,none⟩=some (.int .i64 n1):=hc9 7 (by omega)
      have c8:wr.cell? ⟨b,off+k*10+8,none⟩=some (.int .i64 n2):=hc9 8 (by omega)
      have c9:wr.cell? ⟨b,off+k*10+9,none⟩=some (.int .i64 n3):=hc9 9 (by omega)
      have e2:IntKind.i64.wrap ((k:Int)+1)=(k:Int)+1:=by rw [IntWalk.i64_in _ (by omega)]
      have d1:decide ((k:Int)<(l.length:Int))=true:=by simp;omega
      have q0:(0:Int)≤(k:Int):=by omega
      have q1:(k:Int)<(l.length:Int):=by omega
      clear hc9 hx
      have HNX:=Lib.hid (show (lastC l (k+1)).arr=#[.int .i64 t,.int .i64 k',.bool had,.int .i64 o1,.int .i64 o2,.int .i64 o3,.bool has,.int .i64 n1,.int .i64 n2,.int .i64 n3] by simp [lastC,HX.out,ChgT.arr])
      have hdr:l.drop k=⟨t,k',had,o1,o2,o3,has,n1,n2,n3⟩::l.drop (k+1):=by
        have h1:=(List.getElem?_eq_some_iff.1 HX.out).1
        rw [List.drop_eq_getElem_cons h1]
        congr 1
        exact (List.getElem?_eq_some_iff.1 HX.out).2
      have hla1:lastC l (k+1)=⟨t,k',had,o1,o2,o3,has,n1,n2,n3⟩:=by simp [lastC,HX.out]
      have hT:=HT.out
      rw [hdr] at hT
      have HTT:=Lib.hid hT
      have HLA:=Lib.hid hla1
      clear HT hdr hla1 hT
      obtain ⟨tt,htt⟩:∃ tt,tt=validC ⟨t,k',had,o1,o2,o3,has,n1,n2,n3⟩:=⟨_,rfl⟩
      rw [← htt] at HVC
      have HTV:=Lib.hid htt
      clear htt HX
      generalize lastC l k=la at *
      obtain ⟨lt,lk,lhad,lo1,lo2,lo3,lhas,ln1,ln2,ln3⟩:=la
      simp only [ChgT.arr] at hb
      have hne:bl<wr.heap.size:=hb.lt
      have HB:=Lib.hid hb
      have HX0:=Lib.hid (Blk.new wr 62 #[.int .i64 t,.int .i64 k',.bool had,.int .i64 o1,.int .i64 o2,.int .i64 o3,.bool has,.int .i64 n1,.int .i64 n2,.int .i64 n3])
      clear hb
      go_wp2_with fail
      refine (HVC.out _).mono ?_
      rintro e W4 ⟨rfl,hb4⟩
      have HX4:=Lib.hid (HX0.out.ext hb4)
      have HB4:=Lib.hid ((HB.out.alloc _).ext hb4)
      have HE4:=Lib.hid (ext_call (ext_alloc HE.out _) hb4)
      clear hb4 c0 c1 c2 c3 c4 c5 c6 c7 c8 c9 HX0 HB HE
      cases tt
      · have hF:=Lib.hid (show vrecF l=false by
          unfold vrecF
          rw [HTT.out]
          simp [vAsc,← HTV.out])
        clear HTT
        go_wp2
        go_ret
        exact ⟨by rw [hF.out];rfl,HE4.out⟩
      have hX4:=HX4.out
      have hB4:=HB4.out
      have c0:=hX4.cell 0;have c1:=hX4.cell 1;have c2:=hX4.cell 2;have c3:=hX4.cell 3;have c4:=hX4.cell 4;have c5:=hX4.cell 5;have c6:=hX4.cell 6;have c7:=hX4.cell 7;have c8:=hX4.cell 8;have c9:=hX4.cell 9
      have b0:=hB4.cell 0
      have b1:=hB4.cell 1
      have HI:=Lib.hid chg_size
      clear hX4 hB4
      have H1:=Lib.hid (show (#[.int .i64 t,.int .i64 k',.bool had,.int .i64 o1,.int .i64 o2,.int .i64 o3,.bool has,.int .i64 n1,.int .i64 n2,.int .i64 n3]:Array Value).all (·.oneCell')=true by simp [Value.oneCell'])
      by_cases hbad:t<lt∨(t=lt∧k'≤lk)
      · have hF:=Lib.hid (show vrecF l=false by
          unfold vrecF
          rw [HTT.out]
          simp only [vAsc,Bool.and_eq_false_iff,Bool.not_eq_false']
          right;left;right
          simpa using hbad)
        clear HTT
        rcases hbad with h1|⟨h1,h2⟩
        · have d2:decide (t<lt)=true:=decide_eq_true h1
          go_wp2
          go_ret
          exact ⟨by rw [hF.out];rfl,HE4.out⟩
        · subst h1
          have d2:decide (t<t)=false:=decide_eq_false (by omega)
          have d3:decide (k'≤lk)=true:=decide_eq_true h2
          go_wp2
          go_ret
          exact ⟨by rw [hF.out];rfl,HE4.out⟩
      have d2:decide (t<lt)=false:=decide_eq_false (by omega)
      have hz:(((t == lt) && decide (k'≤lk)):Bool)=false:=by
        by_cases h1:t=lt <;> simp [h1] <;> omega
      have HTR:=Lib.hid (show vAsc noChg l=vAsc (lastC l (k+1)) (l.drop (k+1)) by
        rw [HTT.out,HLA.out]
        have h9:(decide (t<lt) || (t == lt) && decide (k'≤lk))=false:=by rw [d2,hz];rfl
        simp only [vAsc,← HTV.out,h9,Bool.true_and,Bool.not_false])
      clear HTT hbad
      by_cases h1:t=lt
      · subst h1
        have h2:decide (k'≤lk)=false:=by simpa using hz
        clear hz
        go_wp2_with (refine wpList_store_blk rfl 62 (.tmp 3) (.tmp 51) rfl bl #[.int .i64 t,.int .i64 k',.bool had,.int .i64 o1,.int .i64 o2,.int .i64 o3,.bool has,.int .i64 n1,.int .i64 n2,.int .i64 n3] rfl rfl 62 _ HB4.out HI.out rfl H1.out ?_;intro W5 hB5 hg5;have HB5:=Lib.hid hB5;have HE5:=Lib.hid (HE4.out.grown hg5 HE4.out.size (fun j e=>by injection e with e;have:=HS.out;omega));clear hB5 hg5)
        go_roundw
        case rel=>exact ⟨k+1,by omega,by go_num,by rw [HNX.out];exact HB5.out,HTR.out,HE5.out⟩
        case measure=>simp [intOf];omega
      · have h2:decide (t=lt)=false:=by simpa using h1
        have h3:(t == lt)=false:=by simpa using h1
        clear hz
        go_wp2_with (refine wpList_store_blk rfl 62 (.tmp 3) (.tmp 51) rfl bl #[.int .i64 t,.int .i64 k',.bool had,.int .i64 o1,.int .i64 o2,.int .i64 o3,.bool has,.int .i64 n1,.int .i64 n2,.int .i64 n3] rfl rfl 62 _ HB4.out HI.out rfl H1.out ?_;intro W5 hB5 hg5;have HB5:=Lib.hid hB5;have HE5:=Lib.hid (HE4.out.grown hg5 HE4.out.size (fun j e=>by injection e with e;have:=HS.out;omega));clear hB5 hg5)
        go_roundw
        case rel=>exact ⟨k+1,by omega,by go_num,by rw [HNX.out];exact HB5.out,HTR.out,HE5.out⟩
        case measure=>simp [intOf];omega
    · have HF:=Lib.hid (show vrecF l=true by
        unfold vrecF
        rw [HT.out,List.drop_eq_nil_of_le (by omega),decide_eq_true (by omega)]
        rfl)
      have d1:decide ((k:Int)<(l.length:Int))=false:=by simp;omega
      go_wp2
      go_ret
      exact ⟨by rw [HF.out];rfl,HE.out⟩
end Go.Proofs.YtnajpjnnlocfgaaGreatDoor
