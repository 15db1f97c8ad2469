/- Part 14: contracts that the last part uses. -/
import Derived.LoopN
import Derived.Test.YtimoapjhepmehaaGreatDoorJ9
import Derived.BigQuiet
import Derived.Deep.RegionHeld3
import Derived.StillTailTactics
import Derived.Deep.DeepAppendRoom
import Derived.ArgAppend
import Derived.Test.YtimoapjhepmehaaGreatDoorJ11
set_option linter.unusedSimpArgs false
set_option linter.unusedVariables false
set_option maxHeartbeats 4000000
set_option maxRecDepth 100000
namespace Go.Proofs.YtimoapjhepmehaaGreatDoor
open Go renaming World->U,Value->YZ
open Go.Value renaming string->R,int->YV,bool->YX,slice->YY,pointer->Yc
open Go.IntKind renaming i64->YU
open Go.Obj renaming cells->YW
open Tryz renaming prog->Ya
open Go.Ending renaming returned->Yd
open List renaming getElem?_eq_getElem->Yg
section
open Go.RowKit
attribute [local go_sem ↓] Go.wp_at_zero Go.wp_at_succ
theorem NB(n lo hi:Int)(bl bh:Nat)(w:U)(hl:w.cell? ⟨bl,0,none⟩=some (YV YU lo))(hh:w.cell? ⟨bh,0,none⟩=some (YV YU hi))(h1:n<lo∨hi<n) :
  Calls Ya 198 #[YV YU n,Yc (some ⟨bl,0,none⟩),Yc (some ⟨bh,0,none⟩)] w fun e w'=>e=Yd (YX true)/\w=w':=by
 by_cases h:n<lo
 ·exact IZ n lo hi bl bh w hl h
 have d1:decide (n<lo)=false:=decide_eq_false h;have d2:decide (hi<n)=true:=decide_eq_true (by omega);clear h1;go_enter Tryz.func198,Tryz.ntmps198;go_wp2;go_ret;exact⟨rfl,rfl⟩
theorem Og(b off c:Nat)(l:List Int)(lo hi:Int)(bl bh:Nat)(w:U)(hl:w.cell? ⟨bl,0,none⟩=some (YV YU lo))(hh:w.cell? ⟨bh,0,none⟩=some (YV YU hi))(hc:Cd w b off l)(hn:l.length<=100000)(hin:inF lo hi l=false) :
  Calls Ya 226 #[YY (some ⟨b,off,none⟩) l.length c,.func (.func 198) #[] #[Yc (some ⟨bl,0,none⟩),Yc (some ⟨bh,0,none⟩)]] w fun e w'=>(∃ k:Nat,k<=100000/\e=Yd (YV YU (k:Int)))/\w=w':=by
 have HC:=Wz hc;have HI:=Wz hin;have HL:=Wz hl;have HH:=Wz hh;clear hc hin hl hh;go_enter Tryz.func226,Tryz.ntmps226;go_wp2;go_loop [8] (fun i=>∃ k:Nat,k<=l.length/\i=YV YU k/\inF lo hi (l.take k)=true) (fun i=>l.length-(intOf i).toNat)
 case atStart=>exact⟨0,Nat.zero_le _,rfl,rfl⟩
 obtain⟨k,hk,rfl,hin⟩:=hrel;have HK:=Wz hin;clear hin;by_cases hlt:k<l.length
 ·have hcell:=HC.out k l[k] (Yg hlt);obtain⟨x,hxe⟩:∃ x,x=l[k]:=⟨_,rfl⟩;rw[<- hxe]at hcell;have HX:=Wz (show l.take (k+1)=l.take k++[x]by rw[hxe];exact List.take_succ_eq_append_getElem hlt);clear hxe;by_cases hx:lo<=x/\x<=hi
  ·obtain⟨hx1,hx2⟩:=hx;go_wp2_with (go_at_call 198;refine(JJ _ _ _ _ _ _ HL.out HH.out hx1 hx2).mono ?_;rintro e w' ⟨rfl,rfl⟩)
   go_round
   case rel=>
    refine⟨k+1,by omega,by go_num,?_⟩;have h9:=HK.out;rw[HX.out];unfold inF at h9 ⊢;rw[List.all_append,h9];simp[hx1,hx2]
   simp[intOf];omega
  have hx':x<lo∨hi<x:=by omega
  go_wp2_with (go_at_call 198;refine(NB _ _ _ _ _ _ HL.out HH.out hx').mono ?_;rintro e w' ⟨rfl,rfl⟩)
  go_ret;exact⟨⟨k,by omega,rfl⟩,rfl⟩
 have h9:=HK.out;rw[List.take_of_length_le (by omega)]at h9;have h8:=HI.out;rw[h9]at h8;cases h8
theorem GX(b off c:Nat)(l:List Int)(lo hi:Int)(w:U)(hc:Cd w b off l)(hb:b<w.heap.size)(hn:l.length<=100000) :
  Calls Ya 170 #[YV YU lo,YV YU hi,YY (some ⟨b,off,none⟩) l.length c] w fun e w'=>e=Yd (YX (inF lo hi l))/\Below w.heap.size w w':=by
 cases hin:inF lo hi l with
 | true=>exact DV b off c l lo hi w hc hb hn hin
 | false=>
  have hmf:∀(fn:Fn) (first cap:Array YZ) (w:U),(Instr.makeFunc fn first cap).run Ya w=.ok (.func fn first cap) w:=fun _ _ _ _=>rfl;have hbl:Below w.heap.size w ((w.alloc (YW #[YV YU lo] 3)).alloc (YW #[YV YU hi] 3)):=((Below.refl _ _).alloc (Nat.le_refl _) _).alloc (by simp) _;have HI:=Wz (Og b off c l lo hi w.heap.size (w.heap.size+1) ((w.alloc (YW #[YV YU lo] 3)).alloc (YW #[YV YU hi] 3)) (Bh ((Blk.new _ _ _).cell 0) _) ((Blk.new' _ _ _ (by simp)).cell 0) (fun j x hx=>(hbl.cell (p:=⟨b,off+j,none⟩) hb).trans (hc j x hx)) hn hin);have HB:=Wz hbl;clear hc hin hbl;go_enter Tryz.func170,Tryz.ntmps170;go_wp2_with (first
   |(go_at_call 197;go_in)
   |(go_at_call 226;refine HI.out.mono ?_;rintro e w' ⟨⟨k,hk,rfl⟩,hw'⟩;subst w';have hk0:(0:Int)<=(k:Int):=Int.natCast_nonneg k))
  go_ret;exact⟨rfl,HB.out⟩
def okB(r:AD):Bool:=inF 0 3 [r.t] && inF 1 1000000 [r.k] && inF (-1000000000) 1000000000 [r.a,r.b,r.c]
theorem P7(r:AD):okB r=true↔r.ok:=by
 unfold okB inF AD.ok;simp;omega
theorem Ly(r:AD)(w:U) :
  Calls Ya 156 #[.agg #[YV YU r.t,YV YU r.k,YV YU r.a,YV YU r.b,YV YU r.c]] w fun e w'=>e=Yd (YX (okB r))/\Below w.heap.size w w':=by
 obtain⟨t,k,a,b,c⟩:=r;have K1:=Wz (fun(b c:Nat)(W:U)(h:Cd W b 0 [t])(hb:b<W.heap.size)=>GX b 0 c [t] 0 3 W h hb (by simp));have K2:=Wz (fun(b c:Nat)(W:U)(h:Cd W b 0 [k])(hb:b<W.heap.size)=>GX b 0 c [k] 1 1000000 W h hb (by simp));have K3:=Wz (fun(g d:Nat)(W:U)(h:Cd W g 2 [a,b,c])(hb:g<W.heap.size)=>GX g 2 d [a,b,c] (-1000000000) 1000000000 W h hb (by simp));simp only[okB];generalize inF 0 3 [t]=b1 at *;generalize inF 1 1000000 [k]=b2 at *;generalize inF (-1000000000) 1000000000 [a,b,c]=b3 at *;have HB0:=Wz (Blk.new w 67 #[YV YU t,YV YU k,YV YU a,YV YU b,YV YU c]);go_enter Tryz.func156,Tryz.ntmps156;go_wp2_with fail
 refine(K1.out (w.heap.size+1) 1 _ (.of_blk (Blk.new' _ _ _ (by simp)) 0 [t] rfl) (by simp)).mono ?_;rintro e W1 ⟨rfl,hb1⟩;have hB1:=(HB0.out.alloc (YW #[YV YU t] 3)).ext hb1;have c1:=hB1.cell 1;have HB1:=Wz hB1;have HL1:=Wz (AA (AB (AC w _) _) hb1);clear hb1 hB1;cases b1
 ·go_wp2;go_ret;exact⟨rfl,HL1.out⟩
 go_wp2_with fail
 refine(K2.out W1.heap.size 1 _ (.of_blk (Blk.new _ _ _) 0 [k] rfl) (by simp)).mono ?_;rintro e W2 ⟨rfl,hb2⟩;have HB2:=Wz ((HB1.out.alloc (YW #[YV YU k] 3)).ext hb2);have HL2:=Wz (AA (AB HL1.out _) hb2);clear hb2 c1;cases b2
 ·go_wp2;go_ret;exact⟨rfl,HL2.out⟩
 go_wp2_with fail
 refine(K3.out w.heap.size 3 _ (.of_blk HB2.out 2 [a,b,c] rfl) HB2.out.lt).mono ?_;rintro e W3 ⟨rfl,hb3⟩;go_wp2;go_ret;exact⟨by simp,AA HL2.out hb3⟩
def Lz(t k:Int)(there:Bool)(a b c:Int):Bool:=if there then okB ⟨t,k,a,b,c⟩else decide (a=0) && decide (b=0) && decide (c=0)
def Oh(x:AH):Bool:=x.turns && Lz x.t x.k x.had x.o1 x.o2 x.o3 && Lz x.t x.k x.has x.n1 x.n2 x.n3
theorem D3(t k:Int)(there:Bool)(a b c:Int):Lz t k there a b c=true↔(there=true->AD.ok ⟨t,k,a,b,c⟩)/\(there=false->a=0/\b=0/\c=0):=by
 cases there <;> simp[Lz,P7,and_assoc]
theorem Ic:((-1000000000:Int)<=0/\(0:Int)<=1000000000)/\((-1000000000:Int)<=0/\(0:Int)<=1000000000)/\((-1000000000:Int)<=0/\(0:Int)<=1000000000):=by omega
theorem Oi(x:AH):Oh x=true↔x.turns=true/\x.ok:=by
 unfold Oh;rw[Bool.and_eq_true,Bool.and_eq_true,D3,D3];obtain⟨t,k,had,o1,o2,o3,has,n1,n2,n3⟩:=x;dsimp only;constructor
 ·rintro⟨⟨ht,ho1,ho2⟩,hn1,hn2⟩;refine⟨ht,?_⟩
  cases had with
  | false=>
   obtain⟨rfl,rfl,rfl⟩:=ho2 rfl
   cases has with
   | false=>simp[AH.turns]at ht
   | true=>
    obtain⟨h1,h2,h3,h4,h5⟩:=hn1 rfl;exact⟨⟨h1,h2⟩,fun _=>⟨rfl,rfl,rfl⟩,fun h=>(by cases h),Ic,h3,h4,h5⟩
  | true=>
   obtain⟨h1,h2,h3,h4,h5⟩:=ho1 rfl
   cases has with
   | false=>
    obtain⟨rfl,rfl,rfl⟩:=hn2 rfl;exact⟨⟨h1,h2⟩,fun h=>(by cases h),fun _=>⟨rfl,rfl,rfl⟩,⟨h3,h4,h5⟩,Ic⟩
   | true=>
    obtain⟨_,_,h6,h7,h8⟩:=hn1 rfl;exact⟨⟨h1,h2⟩,fun h=>(by cases h),fun h=>(by cases h),⟨h3,h4,h5⟩,h6,h7,h8⟩
 rintro⟨ht,⟨h1,h2⟩,h3,h4,h5,h6⟩;exact⟨⟨ht,fun _=>⟨h1,h2,h5⟩,h3⟩,fun _=>⟨h1,h2,h6⟩,h4⟩
end
section
open Go.RowKit Go.Shelf
attribute [local go_sem] Cm
attribute [local go_sem high] AU
theorem L0{n:Nat}{P:Program}{g:Operand}{ps:Array Tmp}{assign body:Code}{Q:Exit->Act->U->Prop}{a:Act}{w:U}
  (h1:1<=n) {gf:Nat} {lb:Array YZ} (hg:a.eval g=.func (.func gf) #[] lb) (eg:∀ args w,(callFunc gf args).run P w=.ok (.enter gf args) w)
  {N:Nat} {C:U->Prop} (enc:Nat->ByteArray) (hseq:GS (n-1) P gf lb N C (fun k xs _=>xs=#[R (enc k)])) (hps:ps.size=1)
  (I:Nat->U->Prop) (hI:∀ k,As w.heap.size (I k)) (hC:∀ k W,I k W->C W) (h0:I 0 w) (Fr:ByteArray->Act)
  (hassign:∀(l:Nat) (s:ByteArray) (W:U) (K:Act->U->Prop),K (Fr s) W ->
   assign.wpIn (Fence.wide.inRound l) (n-1-1) P (Exit.then K (fun _ _ _=>False)) { tmps:=(ps.zip #[R s]).foldl (fun t (p,v)=>t.setIfInBounds p v) a.tmps,defers:=[] } W)
  (hbody:∀(l k:Nat) (s:ByteArray) (W:U),k<N->s=enc k->w.heap.size<=W.heap.size->I k W->body.wpIn (Fence.wide.inRound l) (n-1-1) P (Gy w.heap.size (I (k+1)) W) (Fr s) W)
  (hdone:∀(D:Nat) (W:U),w.heap.size<=D->I N W->W.heap[D]? = some (.deferred (some []))->Q .normal { a with defers:={ target:=.collected D,args:=#[] }::a.defers } W) :
  (Code.rangeFunc g ps assign body).wpIn Fence.wide n P Q a w:=
 JT h1 hg eg hseq (fun k xs W h=>by rw[h,hps];rfl) I hI hC h0 (fun k a' _=>a'=Fr (enc k)) (fun _ _=>As.pure _)
  (fun l k xs W K _ _ hI' hm hK=>by subst hm;exact hassign l (enc k) W K (hK _ _ (KeepsFrom.refl _ _) hI' rfl))
  (fun l k a' W hk hsz hI' hA=>by subst hA;exact hbody l k (enc k) W hk rfl hsz hI') hdone
def UW(N:Nat)(J:Nat->U->Prop)(e:Ending)(W':U):Prop:=(∃ v,e=Yd v)/\J N W'
theorem Sq(gl:Nat)(w:U) :
  Calls Ya 75 #[Yc (some ⟨gl,0,none⟩)] w fun e w'=>
   e=Yd (.func (.func 130) #[] #[Yc (some ⟨w.heap.size,0,none⟩)])/\w.alloc (YW #[Yc (some ⟨gl,0,none⟩)] 76)=w':=by
 have hmf:∀(fn:Fn) (first cap:Array YZ) (w:U),(Instr.makeFunc fn first cap).run Ya w=.ok (.func fn first cap) w:=fun _ _ _ _=>rfl;go_enter Tryz.func75,Tryz.ntmps75;go_wp2;go_ret;exact⟨rfl,rfl⟩
end
section
open Go.RowKit Go.Shelf
attribute [local go_sem ↓] Go.wp_at_zero Go.wp_at_succ
attribute [local go_sem] Oper.semAt_some
end
section
open Go.RowKit Go.Shelf
attribute [local go_sem ↓] Go.wp_at_zero Go.wp_at_succ
attribute [local go_sem] Oper.semAt_some
theorem Q9:(Tryz.prog.info? 203).map (fun i=>(i.zero,i.size,i.bytes))=some (some (.agg #[R ⟨#[]⟩,YX false]),2,24):=by kernel_rfl
theorem L1(w:U)(x y:YZ)(t:TypeId):∀ j u,[x,y][j]? = some u->(w.alloc (YW #[x,y] t)).cell? ((⟨w.heap.size,0,none⟩:Addr).add j)=some u:=fun j u hu=>by
 have hB:=Blk.new w t #[x,y]
 match j,hu with
 | 0,hu=>simp at hu;subst hu;exact hB.cell 0
 | 1,hu=>simp at hu;subst hu;exact hB.cell 1
end
section
open Go.RowKit Go.Shelf
attribute [local go_sem ↓] AQ AU Go.wp_at_zero Go.wp_at_succ
theorem Oj{W:U}{B e sz n:Nat}{v:YZ}{xs:List YZ}(h:W.ownsRow B e sz v n xs)(h0:0<n):∃ g cap,v=YY (some ⟨g,0,none⟩) n cap/\B<=g/\g<W.heap.size/\n<=cap/\∀(i:Nat) (u:YZ),xs[i]? = some u->W.cell? ⟨g,i,none⟩=some u:=by
 obtain⟨_,h2⟩:=h;rcases h2 with⟨_,h3⟩|⟨g,cap,cur,h3,h4,h5,h6,_,h8,h9⟩
 ·omega
 refine⟨g,cap,h3,h4,(Array.getElem?_eq_some_iff.1 h5).1,h6,fun i u hu=>?_⟩;have hb:Blk W g e cur:=h5;rw[hb.cell];rw[<- h9,List.getElem?_take]at hu;split at hu
 ·simpa using hu
 cases hu
theorem RA{P:Program}{w:U}{ρ:Operand->YZ}{d:Option Tmp}{s x:Operand}{t ty:TypeId}{p:String}{af:Array Edge}{g:Option (Nat × Bool)}(h:CU P w t ty (ρ s) (ρ x)) :
  (execOp ρ { dst:=d,op:=.call { callee:=.builtin .append,args:=#[s,x],argTypes:=#[t,t] },type:=ty,pos:=p,after:=af,guard:=g }).run P w=.ok (.value (CV P w t ty (ρ s) (ρ x))) (appW P w t ty (ρ s) (ρ x)):=AQ h
attribute [local go_sem high] RA
theorem D4{W W':U}{base n sz:Nat}{e:TypeId}{v:YZ}{xs:List YZ}(h:W.ownsRow base e sz v n xs)(k:Below W.heap.size W W'):W'.ownsRow base e sz v n xs:=by
 refine⟨h.1,?_⟩;rcases h.2 with hn'|⟨g,cap,cur,h1,h2,h3,h4⟩
 ·exact .inl hn'
 exact .inr ⟨g,cap,cur,h1,h2,(k.block g (Array.getElem?_eq_some_iff.1 h3).1).trans h3,h4⟩
end
section
open Go.RowKit Go.Shelf
theorem G5{n:Nat}{P:Program}{g:Operand}{ps:Array Tmp}{assign body:Code}{Q:Exit->Act->U->Prop}{a:Act}{w:U}
  (h1:1<=n) {gf:Nat} {lb:Array YZ} (hg:a.eval g=.func (.func gf) #[] lb) (eg:∀ args w,(callFunc gf args).run P w=.ok (.enter gf args) w)
  {N:Nat} {C:U->Prop} {vals:Nat->Array YZ} (hseq:GS (n-1) P gf lb N C (fun k xs _=>xs=vals k)) (hps:∀ k,(vals k).size=ps.size)
  (I:Nat->U->Prop) (hI:∀ k,As w.heap.size (I k)) (hC:∀ k W,I k W->C W) (h0:I 0 w) (t:TypeId) (cs:Nat->Array YZ) (Fr:Nat->Nat->Act)
  (hassign:∀(l h k:Nat) (W:U) (K:Act->U->Prop),h=W.heap.size->K (Fr k h) (W.alloc (.cells (cs k) t)) ->
   assign.wpIn (Fence.wide.inRound l) (n-1-1) P (Exit.then K (fun _ _ _=>False)) { tmps:=(ps.zip (vals k)).foldl (fun t (p,v)=>t.setIfInBounds p v) a.tmps,defers:=[] } W)
  (hbody:∀(l h k:Nat) (W:U),k<N->w.heap.size<=W.heap.size->w.heap.size<=h->Blk W h t (cs k)->I k W->body.wpIn (Fence.wide.inRound l) (n-1-1) P (Gy w.heap.size (I (k+1)) W) (Fr k h) W)
  (hdone:∀(D:Nat) (W:U),w.heap.size<=D->I N W->W.heap[D]? = some (.deferred (some []))->Q .normal { a with defers:={ target:=.collected D,args:=#[] }::a.defers } W) :
  (Code.rangeFunc g ps assign body).wpIn Fence.wide n P Q a w:=
 JT h1 hg eg hseq (fun k xs W h=>by rw[h];exact hps k) I hI hC h0 (fun k a' W=>∃ h,w.heap.size<=h/\a'=Fr k h/\Blk W h t (cs k))
  (fun k a' _ X Y row hs hg hr=>by
   obtain⟨h,hh,ha,hB⟩:=hs;exact⟨h,hh,ha,As.blk (B:=w.heap.size) () X Y row hB hg hr⟩)
  (fun l k xs W K hk hsz hI' hm hK=>by
   subst hm;exact hassign l W.heap.size k W K rfl (hK _ _ ((KeepsOthers.alloc W _).from _) (OwnFrom.alloc (s:=()) (hI k) _ hI') ⟨_,hsz,rfl,Blk.new _ _ _⟩))
  (fun l k a' W hk hsz hI' hA=>by
   obtain⟨h,hh,rfl,hB⟩:=hA;exact hbody l h k W hk hsz hh hB hI') hdone
def G6(ys:List (ByteArray × Bool))(k:Nat):ByteArray × Bool:=ys.getD (ys.length-1-k) (⟨#[]⟩,false)
def sdIx(ys:List (ByteArray × Bool))(k:Nat):Int:=(ys.length:Int)-1-(k:Int)
def Jc(ys:List (ByteArray × Bool))(k:Nat):Array YZ:=#[YV YU (sdIx ys k),.agg #[R (G6 ys k).1,YX (G6 ys k).2]]
theorem I8{ys:List (ByteArray × Bool)}{k:Nat}(h:k<ys.length):ys[ys.length-1-k]? = some (G6 ys k):=by
 unfold G6;rw[List.getD_eq_getElem?_getD,Yg (by omega)];rfl
def GY(f:ByteArray × Bool->ByteArray->ByteArray)(ys:List (ByteArray × Bool))(z:ByteArray)(k:Nat):ByteArray:=(ys.drop (ys.length-k)).foldr f z
theorem Ee(f:ByteArray × Bool->ByteArray->ByteArray)(ys:List (ByteArray × Bool))(z:ByteArray):GY f ys z 0=z:=by simp[GY]
theorem Jd(f:ByteArray × Bool->ByteArray->ByteArray)(ys:List (ByteArray × Bool))(z:ByteArray):GY f ys z ys.length=ys.foldr f z:=by simp[GY]
theorem Ef(f:ByteArray × Bool->ByteArray->ByteArray){ys:List (ByteArray × Bool)}{k:Nat}(h:k<ys.length)(z:ByteArray):GY f ys z (k+1)=f (G6 ys k) (GY f ys z k):=by
 unfold GY;have h1:ys.length-(k+1)<ys.length:=by omega
 rw[List.drop_eq_getElem_cons h1,List.foldr_cons,show ys.length-(k+1)+1=ys.length-k by omega];congr 1;have h2:=I8 h;rw[show ys.length-1-k=ys.length-(k+1)by omega,Yg h1]at h2;exact Option.some.inj h2
def BkC(Bs:Nat)(A:Option Addr)(c:Nat)(ys:List (ByteArray × Bool))(W:U):Prop:=
 W.cell? ⟨Bs,0,none⟩=some (YY A ys.length c)/\(0<ys.length->∃ b off,A=some ⟨b,off,none⟩/\∀ j x,ys[j]? = some x->Vw W b (off+j*2) x)
section
attribute [local go_sem ↓] Go.wp_at_zero Go.wp_at_succ
attribute [local go_sem] Oper.semAt_some
theorem Sr(n:Nat)(hn:1<=n)(l Bs:Nat)(A:Option Addr)(c:Nat)(ys:List (ByteArray × Bool))(hN:ys.length<=1000000)(J:Nat->U->Prop)(hC:∀ k W,J k W->BkC Bs A c ys W)
  (hY:∀ k xs W1,k<ys.length->J k W1->xs=Jc ys k->YieldAt Fence.wide (n-1) Ya l xs W1 fun e W'=>e=Yd (YX true)/\J (k+1) W') (W:U) (h0:J 0 W) :
  CallsIn Fence.wide n Ya 169 #[.func (.yield l) #[] #[],Yc (some ⟨Bs,0,none⟩)] W fun e W'=>(∃ v,e=Yd v)/\J ys.length W':=by
 have HC:=Wz hC;have HY:=Wz hY;have H0:=Wz h0;have hBs:=(hC 0 W h0).1;clear hC hY h0;refine callsIn_of_wp Tryz.func169 rfl trivial ?_ rfl;simp only[Tryz.ntmps169,List.size_toArray,List.length_cons,List.length_nil,Nat.reduceAdd,Nat.reduceSub,Array.replicate_succ,Array.replicate_zero,List.push_toArray,List.append_toArray,List.nil_append,List.cons_append]
 gi_wp2
 gi_loopw [3] (fun i wr=>∃ k:Nat,k<=ys.length/\i=YV YU ((ys.length:Int)-1-(k:Int))/\J k wr) (fun i _=>(intOf i+1).toNat)
 case atStart=>exact⟨0,Nat.zero_le _,by simp,H0.out⟩
 obtain⟨k,hk,rfl,hJ⟩:=hrel;have HJ:=Wz hJ;obtain⟨cs,hc⟩:=HC.out _ _ hJ;clear hJ H0 hBs;by_cases hlt:k<ys.length
 ·obtain⟨b,off,rfl,hcell⟩:=hc (by omega);obtain⟨q,hq⟩:∃ q,q=ys.length-1-k:=⟨_,rfl⟩;have hqi:(ys.length:Int)-1-(k:Int)=(q:Int):=by omega
  have hql:q<ys.length:=by omega
  obtain⟨x,hx⟩:∃ x,x=G6 ys k:=⟨_,rfl⟩;have hxq:=I8 hlt;rw[<- hx,<- hq]at hxq;obtain⟨cx,cx'⟩:=hcell q x hxq;obtain⟨fn,tmps,assign,body,hy,hR⟩:=HY.out k _ wr hlt HJ.out rfl;unfold Jc sdIx at hy;rw[<- hx,hqi]at hy;rw[hqi];have HQI:=Wz hqi;clear hq hqi hx hxq hcell hc;have b0:(0:Int)<=(q:Int):=by omega
  have b1:(q:Int)<(ys.length:Int):=by omega
  gi_wp2
  refine hR.mono ?_;rintro e W3 ⟨rfl,hJ3⟩;have HJ3:=Wz hJ3;clear hJ3 hR hy
  gi_wp2
  go_roundw
  case rel=>
   refine⟨k+1,by omega,?_,HJ3.out⟩;have:=HQI.out;have e:(q:Int)-1=(ys.length:Int)-1-((k+1:Nat):Int):=by omega
   rw[<- e]
  simp[intOf]
 have HK:=Wz (show k=ys.length by omega);have hneg:¬ (0:Int)<=(ys.length:Int)-1-(k:Int):=by omega
 gi_wp2
 go_end0;have h9:=HJ.out;rw[HK.out]at h9;exact⟨⟨_,rfl⟩,h9⟩
end
theorem Ku(n:Nat)(hn:1<=n)(Bs:Nat)(A:Option Addr)(c:Nat)(ys:List (ByteArray × Bool))(hN:ys.length<=1000000) :
  GS n Ya 169 #[Yc (some ⟨Bs,0,none⟩)] ys.length (BkC Bs A c ys) (fun k xs _=>xs=Jc ys k):=
 fun l J W hC _ hY h0=>Sr n hn l Bs A c ys hN J hC hY W h0
theorem BkC.ext{Bs:Nat}{A:Option Addr}{c:Nat}{ys:List (ByteArray × Bool)}{W W':U}(h:BkC Bs A c ys W)(k:Below W.heap.size W W'):BkC Bs A c ys W':=
 ⟨AG h.1 k,fun h0=>by obtain⟨b,off,hA,hc⟩:=h.2 h0;exact⟨b,off,hA,fun j x hx=>⟨AG (hc j x hx).1 k,AG (hc j x hx).2 k⟩⟩⟩
theorem BkC.set{Bs g:Nat}{A:Option Addr}{c:Nat}{ys:List (ByteArray × Bool)}{W:U}(h:BkC Bs A c ys W)(h1:g≠Bs)(h2:∀ b o,A=some ⟨b,o,none⟩->g≠b)(v:YZ):BkC Bs A c ys (W.setCell ⟨g,0,none⟩ v):=
 ⟨(World.cell?_setCell_other W _ _ _ (by intro e;injection e with e _ _;exact h1 e)).trans h.1,fun h0=>by
  obtain⟨b,off,hA,hc⟩:=h.2 h0;exact⟨b,off,hA,fun j x hx=>⟨(World.cell?_setCell_other W _ _ _ (by intro e;injection e with e _ _;exact h2 b off hA e)).trans (hc j x hx).1,(World.cell?_setCell_other W _ _ _ (by intro e;injection e with e _ _;exact h2 b off hA e)).trans (hc j x hx).2⟩⟩⟩
theorem As.bkC{B Bs:Nat}{A:Option Addr}{c:Nat}{ys:List (ByteArray × Bool)}:As B (BkC Bs A c ys):=fun _ X Y row hs hg hr=>
 ⟨cell_kept hs.1 hg (fun r e=>(hr r e).2),fun h0=>by obtain⟨b,off,hA,hc⟩:=hs.2 h0;exact⟨b,off,hA,fun j x hx=>⟨cell_kept (hc j x hx).1 hg (fun r e=>(hr r e).2),cell_kept (hc j x hx).2 hg (fun r e=>(hr r e).2)⟩⟩⟩
def sdC(xs:List (ByteArray × Bool)):List YZ:=xs.flatMap fun x=>[R x.1,YX x.2]
theorem Ey(xs ys:List (ByteArray × Bool)):sdC (xs++ys)=sdC xs++sdC ys:=List.flatMap_append
theorem Ss:∀(xs:List (ByteArray × Bool)) (j:Nat) (x:ByteArray × Bool),xs[j]? = some x->(sdC xs)[j*2]? = some (R x.1)/\(sdC xs)[j*2+1]? = some (YX x.2)
 | [],_,_,h=>by cases h
 | y::ys,0,x,h=>by obtain rfl:y=x:=Option.some.inj h;exact⟨rfl,rfl⟩
 | y::ys,j+1,x,h=>by
  have h1:=Ss ys j x h;rw[show(j+1)*2=j*2+2 by omega];exact h1
theorem Su{B Bs c:Nat}{A:Option Addr}{ys:List (ByteArray × Bool)}{W:U}(h:W.ownsRow B 203 2 (YY A ys.length c) ys.length (sdC ys))(hb:W.cell? ⟨Bs,0,none⟩=some (YY A ys.length c)):BkC Bs A c ys W:=
 ⟨hb,fun h0=>by
  obtain⟨g,cap,hsh,-,-,-,hc⟩:=Oj h h0;injection hsh with hA _ _
  refine⟨g,0,hA,fun j x hx=>?_⟩;have h1:=Ss ys j x hx;rw[Nat.zero_add];exact⟨hc _ _ h1.1,hc _ _ h1.2⟩⟩
theorem Vy{B sz n c:Nat}{A:Option Addr}{e:TypeId}{xs:List YZ}{W:U}(h:W.ownsRow B e sz (YY A n c) n xs)(b o:Nat)(hA:A=some ⟨b,o,none⟩):B<=b/\b<W.heap.size:=by
 rcases h.2 with⟨h1,_⟩|⟨g,cap,cur,h1,h2,h3,_⟩
 ·injection h1 with h1 _ _
  rw[hA]at h1;cases h1
 injection h1 with h1 _ _
 rw[hA]at h1;injection h1 with h1
 injection h1 with h1 _ _
 subst h1;exact⟨h2,(Array.getElem?_eq_some_iff.1 h3).1⟩
end
section
open Go.RowKit Go.Shelf
attribute [local go_sem ↓] AQ AU Go.wp_at_zero Go.wp_at_succ
attribute [local go_sem] Oper.semAt_some
theorem I9(W:U)(base:Nat)(hb:base<=W.heap.size)(v:YZ)(n:Nat)(xs:List YZ)(hown:W.ownsRow base 203 2 v n xs)(hn:n<=1000000)(s:ByteArray)(f:Bool) :
  CU Ya (W.alloc (YW #[R s,YX f] 203)) 199 199 v (YY (some ⟨W.heap.size,0,none⟩) 1 1)/\∃ W',appW Ya (W.alloc (YW #[R s,YX f] 203)) 199 199 v (YY (some ⟨W.heap.size,0,none⟩) 1 1)=W' /\
   ∃ v',CV Ya (W.alloc (YW #[R s,YX f] 203)) 199 199 v (YY (some ⟨W.heap.size,0,none⟩) 1 1)=v'/\W'.ownsRow base 203 2 v' (n+1) (xs++[R s,YX f])/\(W.alloc (YW #[R s,YX f] 203)).grownBy W' v.ownBlock:=by
 obtain⟨is,his,hzs0,hzs1,hzs2⟩:=info_parts Q9;obtain⟨h1,h2,h3⟩:=Du (P:=Ya) (w:=W.alloc (YW #[R s,YX f] 203)) base 199 199 203 is (.agg #[R ⟨#[]⟩,YX false]) 2 24 Tryz.underlying199 his hzs0 hzs1 hzs2 rfl (by decide) v n xs (hown.alloc _) ⟨W.heap.size,0,none⟩ 1 1 [R s,YX f] rfl (L1 _ _ _ _) (by simp[Value.oneCell']) (by unfold maxLen;omega) (by omega) (by simp;omega);exact⟨h1,_,rfl,_,rfl,h2,h3⟩
theorem GZ:∀(f:Nat) (l:List ByteArray) (i:Nat) (x:ByteArray × Bool),x ∈ CW f l i->x.1.size=32
 | 0,_,_,_,h=>by cases h
 | f + 1, l, i, x, h => by
  unfold CW at h;split at h
  ·cases h
  split at h
  ·rcases List.mem_cons.1 h with rfl|h
   ·exact BJ _
   exact GZ f _ _ x h
  rcases List.mem_cons.1 h with rfl|h
  ·exact BJ _
  exact GZ f _ _ x h
theorem Kw(ys:List (ByteArray × Bool))(z:ByteArray)(hz:z.size=32):∀ k,k<=ys.length->(GY EO ys z k).size=32
 | 0,_=>by rw[Ee];exact hz
 | k+1,h=>by rw[Ef EO (by omega)];exact OO _ _ _
theorem P8(l:List ByteArray)(h:∀ x ∈ l,x.size=32):Qy l=true:=by
 unfold Qy;rw[Bool.not_eq_true'];refine List.any_eq_false.2 fun x hx=>?_;simp[JQ,h x hx]
theorem EP:∀(f:Nat) (l:List ByteArray) (i:Nat),(CW f l i).length<=f
 | 0,_,_=>Nat.le_refl _
 | f + 1, l, i => by
  unfold CW;split
  ·exact Nat.zero_le _
  split
  ·exact Nat.succ_le_succ (EP f _ _)
  exact Nat.succ_le_succ (EP f _ _)
theorem Je(S:Nat->Prop)(v:YZ)(root s:ByteArray)(L:List ByteArray)(I:Nat)(w:U)(hL:L.length<=1000)(hI:L[I]? = some s)(hv:AW S w v (((CW L.length L I).map (·.1)).reverse))(hSB:∀ b,S b->b<w.heap.size)(hs:s.size<=500000)(hR:AJ w) :
  Calls Ya 64 #[R root,YV YU (L.length:Int),YV YU (I:Int),R s,v] w fun e w'=>e=Yd (YX ((Ai L).toList == root.toList))/\Below w.heap.size w w':=by
 have hIL:=(List.getElem?_eq_some_iff.1 hI).1;have HRT:=Wz (Hz L.length L I s (Nat.le_refl _) hL hI);have HSZ:=Wz (GZ L.length L I);have hall:Qy (((CW L.length L I).map (·.1)).reverse)=true:=P8 _ (fun x hx=>by
  obtain⟨y,hy,rfl⟩:=List.mem_map.1 (List.mem_reverse.1 hx);exact HSZ.out y hy)
 obtain⟨W0,hW0⟩:∃ W0,W0=CW L.length L I:=⟨_,rfl⟩;rw[<- hW0]at hall hv HRT HSZ;have hwl:W0.length<=1000:=by
  rw[hW0];exact Nat.le_trans (EP _ _ _) hL
 have HAll:=Wz (Lp S v ((W0.map (·.1)).reverse) w hv (by simp;omega));have HLf:=Wz (fun(W:U)(h:AJ W)=>Mq s W h hs);have hl32:(Dq s).size=32:=JP s;generalize Dq s=lf at *;obtain⟨rt,hrt⟩:∃ rt,rt=Ai L:=⟨_,rfl⟩;rw[<- hrt]at HRT ⊢;have HSB:=Wz hSB;have HR:=Wz hR;have HV:=Wz hv;have HW0:=Wz hW0;have hr1:=hR.lt;obtain⟨A,c,hv1,hc,_⟩:=hv;have hvv:v=YY A W0.length c:=by simpa using hv1
 clear hv1;subst hvv;have d0:decide ((I:Int)<0)=false:=decide_eq_false (by omega);have d1:decide ((L.length:Int)<=(I:Int))=false:=decide_eq_false (by omega);have d2:decide (L.length<=I)=false:=decide_eq_false (by omega);clear hR hSB hW0 hrt;refine(callsIn_wide (n:=3)).1 (callsIn_of_wp_marks Tryz.func64 rfl trivial (wpIn_wide.2 ?_) rfl);simp only[Tryz.ntmps64,List.size_toArray,List.length_cons,List.length_nil,Nat.reduceAdd,Nat.reduceSub,Array.replicate_succ,Array.replicate_zero,List.push_toArray,List.append_toArray,List.nil_append,List.cons_append];go_wp2_with fail
 refine HAll.out.mono ?_;rintro e W1 ⟨rfl,rfl⟩;rw[hall];go_wp2;go_loopw [1,2,4,11,12,13,14,15] (fun nv iv pv ov _ _ _ _ W=>∃(f i:Nat) (cur:List ByteArray) (way rest:List (ByteArray × Bool)),cur.length<=f/\cur.length<=1000/\nv=YV YU (cur.length:Int)/\iv=YV YU (i:Int)/\i<cur.length/\W0=way++rest/\rest=CW f cur i/\AW S W pv ((rest.map (·.1)).reverse)/\W.ownsRow w.heap.size 203 2 ov way.length (sdC way)/\Below w.heap.size w W) (fun nv _ _ _ _ _ _ _ _=>(intOf nv).toNat)
 case atStart=>exact⟨L.length,I,L,[],W0,Nat.le_refl _,hL,rfl,rfl,hIL,rfl,HW0.out,HV.out,World.ownsRow_nil _ _ _ _,AF _⟩
 obtain⟨f,i,cur,way,rest,hf,h17,rfl,rfl,hi,hsplit,hrest,hs,hown,hE⟩:=hrel;have HO:=Wz hown;have HE:=Wz hE;have HS:=Wz hs;have HSP:=Wz hsplit;have hwr:way.length+rest.length<=1000:=by rw[hsplit,List.length_append]at hwl;exact hwl
 clear hown hE hsplit;by_cases h1:cur.length<=1
 ·have hr0:rest=[]:=by
   rw[hrest]
   cases f with
   | zero=>rfl
   | succ f=>unfold CW;rw[if_pos h1]
  subst hr0;clear hrest;have HW:=Wz (show W0=way by have:=HSP.out;rwa [List.append_nil]at this);obtain⟨Ap,cp,hpv,-,-⟩:=id HS.out;have hpv:u4=YY Ap 0 cp:=hpv;subst hpv;obtain⟨Aw,cw,hwv⟩:=AI HO.out;subst hwv;have d3:decide ((1:Int)<(cur.length:Int))=false:=decide_eq_false (by omega);have hRw:=HR.out.below HE.out;go_wp2_with fail
  refine(HLf.out wr hRw).mono ?_;rintro e W1 ⟨rfl,hb1⟩;have HB1:=Wz (AA HE.out hb1);have hz1:=HB1.out.size;have hR1:=hRw.below hb1;have HO1:=Wz (D4 HO.out hb1);clear hb1;go_wp2_with (go_at_call 114;refine(Kq _ _ _ _).mono ?_;rintro e W2 ⟨rfl,rfl⟩)
  obtain⟨g0,hg0⟩:∃ g0,g0=W1.heap.size:=⟨_,rfl⟩;have hsz:((W1.alloc (YW #[R lf] 9)).alloc (YW #[YY Aw way.length cw] 199)).heap.size=W1.heap.size+2:=by simp
  have hE2:Below W1.heap.size W1 ((W1.alloc (YW #[R lf] 9)).alloc (YW #[YY Aw way.length cw] 199)):=AB (AC _ _) _;have hB0:Blk ((W1.alloc (YW #[R lf] 9)).alloc (YW #[YY Aw way.length cw] 199)) g0 9 #[R lf]:=by rw[hg0];exact(Blk.new _ _ _).alloc _
  have hbk:BkC (g0+1) Aw cw way ((W1.alloc (YW #[R lf] 9)).alloc (YW #[YY Aw way.length cw] 199)):=Su (D4 HO1.out hE2) (by rw[hg0];have h:=CG (W1.alloc (YW #[R lf] 9)) (YY Aw way.length cw) 199;rw[World.size_alloc]at h;exact h);have hAne:∀ b o,Aw=some ⟨b,o,none⟩->g0≠b:=fun b o h=>by have:=Vy HO1.out b o h;omega
  have hbl:Below w.heap.size w ((W1.alloc (YW #[R lf] 9)).alloc (YW #[YY Aw way.length cw] 199)):=AA HB1.out hE2;have hR2:=hR1.below hE2;have HANE:=Wz hAne;have HWSZ:=Wz (show ∀ x ∈ way,x.1.size=32 by rw[<- HW.out];exact HSZ.out);clear hE2 hAne hR1;generalize ((W1.alloc (YW #[R lf] 9)).alloc (YW #[YY Aw way.length cw] 199))=W2 at *;refine(wpIn_wide (n:=3)).1 ?_;refine' G5 (by omega) (gf:=169) (lb:=#[Yc (some ⟨W1.heap.size+1,0,none⟩)]) (by simp[Act.eval]) (enters_of Tryz.func169 (by kernel_rfl) rfl)
   (Ku 2 (by omega) (W1.heap.size+1) Aw cw way (by omega)) (fun _=>rfl)
   (fun k W=>(Blk W g0 9 #[R (GY EO way lf k)]/\AJ W)/\BkC (g0+1) Aw cw way W/\Below w.heap.size w W)
   (fun k=>As.and (As.and As.blk As.round) (As.and As.bkC (As.below (Nat.le_refl _) (by omega)))) (fun k W h=>by have:=h.2.1;rwa [hg0]at this) ⟨⟨by rw[Ee];exact hB0,hR2⟩,hbk,hbl⟩
   203 (fun k=>#[R (G6 way k).1,YX (G6 way k).2]) _ ?assign ?body ?done
  case assign=>
   intro l h k W K hh hK;unfold Jc
   gi_wp2
   rw[<- hh];exact hK
  case body=>
   rintro l h k W hkN hszW hh hB ⟨⟨hO,hRo⟩,hbk,hb⟩;obtain⟨acc,hacc⟩:∃ acc,acc=GY EO way lf k:=⟨_,rfl⟩;have hac:acc.size=32:=by rw[hacc];exact Kw way lf hl32 k (by omega)
   have HACC:=Wz (Ef EO hkN lf);rw[<- hacc]at HACC hO;obtain⟨⟨y,f2⟩,hx⟩:∃ x,x=G6 way k:=⟨_,rfl⟩;have hy32:y.size=32:=by
    have:=HWSZ.out (G6 way k) (List.mem_of_getElem? (I8 hkN));rw[<- hx]at this;exact this
   rw[<- hx]at HACC hB ⊢;dsimp only at hB ⊢;have c0:W.cell? ⟨W1.heap.size,0,none⟩=some (R acc):=by rw[<- hg0];exact hO.cell 0
   have c1:W.cell? ⟨h,0,none⟩=some (R y):=hB.cell 0;have c2:W.cell? ⟨h,1,none⟩=some (YX f2):=hB.cell 1;have HRo:=Wz hRo;have HO:=Wz hO;have HBe:=Wz hb;have HBK:=Wz hbk;clear hRo hb hO hB hacc hx hbk
   gi_wp2_with fail
   refine⟨trivial,(CallsIn.inRound l (callsIn_wide.2 (Gs y acc f2 W HRo.out (by omega) (by omega)))).mono ?_⟩;rintro e W' ⟨rfl,hb'⟩;have hB':=HO.out.below hb' HO.out.lt;have c1:W'.cell? ⟨W1.heap.size,0,none⟩=some (R acc):=by rw[<- hg0];exact hB'.cell 0
   have f1:W'.frozen? ⟨W1.heap.size,0,none⟩=false:=by rw[<- hg0];exact hB'.frozen 0
   have HB':=Wz hB';have hg0w:w.heap.size<=g0:=by omega
   clear hB'
   gi_wp2
   rw[<- hg0];refine⟨(KeepsOthers.trans ⟨hb'.size,fun k o hk _=>(hb'.block k (Array.getElem?_eq_some_iff.1 hk).1).trans hk⟩ (KeepsOthers.setCell _ _ _)).from _,⟨?_,?_⟩,(HBK.out.ext hb').set (by omega) HANE.out _,(HBe.out.trans (hb'.mono HBe.out.size)).setCell hg0w _⟩
   ·rw[HACC.out];exact HB'.out.set_ 0 _
   exact(HRo.out.below hb').keep fun p hp=>World.cell?_of_block (Below.heap_setCell _ _ _ _ (by rw[hp];show _≠g0;omega))
  rintro D W hD ⟨⟨hB,hRo⟩,hbk,hb⟩ hK;rw[Jd,<- HW.out,HRT.out]at hB;have c0:W.cell? ⟨W1.heap.size,0,none⟩=some (R rt):=by rw[<- hg0];exact hB.cell 0
  have HBE:=Wz hb;clear hB hb;go_wp2;refine⟨by simp,.inl ⟨_,_,rfl,run_takeDeferred hK,?_⟩⟩;refine⟨_,results_tmp rfl _ _ _,?_,?_⟩
  ·rfl
  exact HBE.out.grown (grownBy_putObj' W D _) HBE.out.size (fun k e=>by injection e with e;omega)
 have hb:=Cn cur.length (by omega) (by omega);obtain⟨k,hk⟩:∃ k,k=Ay cur.length:=⟨_,rfl⟩;have HLF:=Wz (fun W:U=>Gq cur.length W (by omega) (by omega));rw[<- hk]at hb HLF;have HKE:=Wz hk;clear hk;obtain⟨f',rfl⟩:∃ f',f=f'+1:=⟨f-1,by omega⟩;have hrest2:∃ x,∃ tl,rest=x::tl/\x.2=decide (k<=i)/\tl=(if k<=i then CW f' (cur.drop k) (i-k)else CW f' (cur.take k) i):=by
  rw[hrest]
  conv=>enter [1,x,1,tl,1];unfold CW
  rw[if_neg h1,<- HKE.out];by_cases hik:i<k
  ·rw[if_pos hik,if_neg (by omega)];exact⟨_,_,rfl,(decide_eq_false (by omega)).symm,rfl⟩
  rw[if_neg hik,if_pos (by omega)];exact⟨_,_,rfl,(decide_eq_true (by omega)).symm,rfl⟩
 obtain⟨⟨d,fl⟩,tl,hrt2,hfl,htl⟩:=hrest2;dsimp only at hfl;subst hrt2;clear hrest;have hsp:(((((d,fl)::tl).map (·.1)).reverse).length)=tl.length+1:=by simp
 have HTK:=Wz (Mr S u4 ((((d,fl)::tl).map (·.1)).reverse) wr HS.out (by rw[hsp];rw[List.length_cons]at hwr;omega));have hlast:(((((d,fl)::tl).map (·.1)).reverse).getLast?.getD ⟨#[]⟩)=d:=by simp
 have hdrop:((((d,fl)::tl).map (·.1)).reverse).dropLast=(tl.map (·.1)).reverse:=by simp
 have hne:((((d,fl)::tl).map (·.1)).reverse).isEmpty=false:=by simp
 unfold JR at HTK;rw[hlast,hdrop,hne]at HTK;obtain⟨Ap,cp,hpv,-,-⟩:=id HS.out;rw[hsp]at hpv;subst hpv;have d3:decide ((1:Int)<(cur.length:Int))=true:=decide_eq_true (by omega);have HFL:=Wz hfl;have HTL:=Wz htl;clear hlast hdrop hne hsp hfl hs htl;go_wp2_with fail
 refine HTK.out.mono ?_;rintro e W1 ⟨v',rfl,hv',hb1⟩;have HV1:=Wz hv';have HB1:=Wz hb1;obtain⟨A',c',hva0,-,-⟩:=hv';have hva:v'=YY A' tl.length c':=by simpa using hva0
 clear hva0;subst hva;clear hb1;go_wp2_with fail
 refine(HLF.out _).mono ?_;rintro e w' ⟨rfl,hw'⟩;subst w';have ho1:=D4 HO.out HB1.out;have hz1:=(AA HE.out HB1.out).size;by_cases hik:k<=i
 ·have d4:decide ((k:Int)<=(i:Int))=true:=decide_eq_true (by omega);have q4:(k:Int)<=(i:Int):=by omega
  have hfl:fl=true:=by rw[HFL.out];exact decide_eq_true hik
  have HT2:=Wz (show tl=CW f' (cur.drop k) (i-k)by rw[HTL.out,if_pos hik]);subst hfl;have e5:IntKind.i64.wrap ((i:Int)-(k:Int))=((i-k:Nat):Int):=by rw[IntWalk.i64_in _ (by omega)];omega
  have e6:IntKind.i64.wrap ((cur.length:Int)-(k:Int))=((cur.length-k:Nat):Int):=by rw[IntWalk.i64_in _ (by omega)];omega
  obtain⟨ha,W4,hW4,v4,hv4,ho4,hg4⟩:=I9 W1 w.heap.size hz1 u11 way.length (sdC way) ho1 (by omega) d true;have HO4:=Wz ho4;have HE4:=Wz (show Below w.heap.size w W4 from(AB (AA HE.out HB1.out) (YW #[R d,YX true] 203)).grown hg4 (by simp;omega) (fun g hg=>(ho1.lt g hg).1));have HP4:=Wz (show AW S W4 _ ((tl.map (·.1)).reverse)from AW.ownGrown (HV1.out.below (AC W1 (YW #[R d,YX true] 203))) hg4 HSB.out (fun g hg=>(ho1.lt g hg).1));clear ho4 hg4 ho1;go_wp2;go_roundw
  case rel=>exact⟨f',i-k,cur.drop k,way++[(d,true)],tl,(by first|(rw[List.length_drop];omega)|(rw[List.length_take];omega)),(by first|(rw[List.length_drop];omega)|(rw[List.length_take];omega)),by rw[List.length_drop],by go_num,(by first|(rw[List.length_drop];omega)|(rw[List.length_take];omega)),by rw[HSP.out,List.append_assoc];rfl,HT2.out,HP4.out,by rw[List.length_append,List.length_singleton,Ey];exact HO4.out,HE4.out⟩
  simp[intOf];omega
 have d4:decide ((k:Int)<=(i:Int))=false:=decide_eq_false (by omega);have hfl:fl=false:=by rw[HFL.out];exact decide_eq_false hik
 have HT2:=Wz (show tl=CW f' (cur.take k) i by rw[HTL.out,if_neg hik]);subst hfl;obtain⟨ha,W4,hW4,v4,hv4,ho4,hg4⟩:=I9 W1 w.heap.size hz1 u11 way.length (sdC way) ho1 (by omega) d false;have HO4:=Wz ho4;have HE4:=Wz (show Below w.heap.size w W4 from(AB (AA HE.out HB1.out) (YW #[R d,YX false] 203)).grown hg4 (by simp;omega) (fun g hg=>(ho1.lt g hg).1));have HP4:=Wz (show AW S W4 _ ((tl.map (·.1)).reverse)from AW.ownGrown (HV1.out.below (AC W1 (YW #[R d,YX false] 203))) hg4 HSB.out (fun g hg=>(ho1.lt g hg).1));clear ho4 hg4 ho1;go_wp2;go_roundw
 case rel=>exact⟨f',i,cur.take k,way++[(d,false)],tl,(by first|(rw[List.length_drop];omega)|(rw[List.length_take];omega)),(by first|(rw[List.length_drop];omega)|(rw[List.length_take];omega)),by rw[List.length_take,Nat.min_eq_left (by omega)],by go_num,(by first|(rw[List.length_drop];omega)|(rw[List.length_take];omega)),by rw[HSP.out,List.append_assoc];rfl,HT2.out,HP4.out,by rw[List.length_append,List.length_singleton,Ey];exact HO4.out,HE4.out⟩
 simp[intOf];omega
end
end Go.Proofs.YtimoapjhepmehaaGreatDoor
