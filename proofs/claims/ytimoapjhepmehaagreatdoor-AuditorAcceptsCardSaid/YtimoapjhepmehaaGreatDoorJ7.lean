/- Part 7: contracts that the last part uses. -/
import Derived.Test.YtimoapjhepmehaaGreatDoorJ5
import Derived.Test.YtimoapjhepmehaaGreatDoorJ4
import Derived.Laws.CopyOwn
import Derived.Laws.StructEq
import Derived.ChangeKeysEq
import Derived.Deep.RegionHeld3
import Derived.Deep.MidRow
import Derived.LoopN
import Derived.WalkMore
set_option linter.unusedSimpArgs false
set_option linter.unusedVariables false
namespace Go.Proofs.YtimoapjhepmehaaGreatDoor
open Go renaming World->I,Value->U
section
open Go.RowKit
section
variable {P:Program}
end
end
section
open Go.RowKit
end
section
open Go.RowKit Go.Shelf
end
section
open Go.RowKit Go.Shelf
end
section
open Go.RowKit Go.Shelf
def US(P:Program)(w:I)(p:U)(ty:TypeId):Prop:=∃ v,(Instr.loadAt ty p).run P w=.ok v w
def ldV(P:Program)(w:I)(p:U)(ty:TypeId):U:=match (Instr.loadAt ty p).run P w with | .ok v _=>v|_=>undef
theorem Vv{P:Program}{w:I}{p:U}{ty:TypeId}(h:US P w p ty):(Instr.loadAt ty p).run P w=.ok (ldV P w p ty) w:=by
 obtain⟨v,h⟩:=h;unfold ldV;rw[h]
theorem Dv{P:Program}{w:I}{ρ:Operand->U}{d:Option Tmp}{x:Operand}{ty t:TypeId}{p:String}{af:Array Edge}{g:Option (Nat × Bool)}(h:US P w (ρ x) ty) :
  (execOp ρ { dst:=d,op:=.load ty x,type:=t,pos:=p,after:=af,guard:=g }).run P w=.ok (.value (ldV P w (ρ x) ty)) w:=by
 have h':=Vv h;unfold execOp;simp only[Sem.run_bind,Sem.run_pure,Result.andThen_ok,h']
theorem FZ{P:Program}{w:I}{ro:Option Nat}{ρ:Operand->U}{d:Option Tmp}{x:Operand}{ty t:TypeId}{p:String}{af:Array Edge}{g:Option (Nat × Bool)}(h:US P w (ρ x) ty) :
  (Oper.semAt ro ρ { dst:=d,op:=.load ty x,type:=t,pos:=p,after:=af,guard:=g }).run P w=.ok (.value (ldV P w (ρ x) ty)) w:=by
 rw[Oper.semAt_eq ro ρ _ (by intro c h;cases h)];exact Dv h
attribute [local go_sem ↓] Dv FZ
end
section
open Go.RowKit Go.Shelf
attribute [local go_sem ↓] Go.wp_at_zero Go.wp_at_succ
theorem OZ{w:I}{base e n cap g:Nat}{xs:List U}(h:w.ownsRow base e 1 (.slice (some ⟨g,0,none⟩) n cap) n xs)(i:Nat):w.frozen? ⟨g,i,none⟩=false:=by
 rcases h.2 with⟨he,_⟩|⟨g',cap',cur,he,_,hg,_⟩
 ·cases he
 injection he with h1 h2 h3
 injection h1 with h1
 injection h1 with h1
 subst h1;exact Blk.frozen (show Blk w g e cur from hg) i
def Fw(w:I)(l:List ByteArray)(e:Ending)(w':I):Prop:=
 ∃ v,e=.returned (.tuple #[v,.int .i64 0])/\AW (fun b=>w.heap.size<=b) w' v l/\Below w.heap.size w w'
end
section
open Go.RowKit
theorem UT(x:ByteArray):Ai [x]=Dq x:=by
 simp[Ai,CE,DD,FX,DE]
def EM:Nat->List ByteArray->ByteArray
 | 0,l=>Dq (l.getD 0 ⟨#[]⟩)
 | a+1,l=>Cr (EM a (l.take (2 ^ a))) (EM a (l.drop (2 ^ a)))
structure JX (bs:List (Nat × List ByteArray)):Prop where
 len:∀ b ∈ bs,b.2.length=2 ^ b.1
 desc:bs.Pairwise (fun x y=>y.1<x.1)
def Hx(bs:List (Nat × List ByteArray)):List (Nat × ByteArray):=bs.map fun b=>(2 ^ b.1,EM b.1 b.2)
def Bi(bs:List (Nat × List ByteArray)):List ByteArray:=bs.flatMap (·.2)
theorem G3(x y:List (Nat × List ByteArray)):Bi (x++y)=Bi x++Bi y:=List.flatMap_append
theorem M0:∀(n:Nat) (bs:List (Nat × List ByteArray)) (a:Nat) (seg:List ByteArray),bs.length=n->JX bs->seg.length=2 ^ a->(∀ b ∈ bs,a<=b.1) ->
  ∃ cs,JX cs/\Bi cs=Bi bs++seg/\DD (Hx bs++[(2 ^ a,EM a seg)])=Hx cs
 | 0,bs,a,seg,hn,hd,hs,ha=>by
  obtain rfl:=List.eq_nil_of_length_eq_zero hn;exact⟨[(a,seg)],⟨fun b hb=>by simp at hb;subst hb;exact hs,List.pairwise_singleton _ _⟩,by simp[Bi],Gt _ (by simp[Hx])⟩
 | n + 1, bs, a, seg, hn, hd, hs, ha => by
  obtain⟨i,⟨c,sg⟩,rfl⟩:∃ i x,bs=i++[x]:=by
   rcases List.eq_nil_or_concat bs with rfl|⟨i,x,h⟩
   ·simp at hn
   exact⟨i,x,by simpa using h⟩
  have hi:i.length=n:=by simpa using hn
  have hdi:JX i:=⟨fun b hb=>hd.len b (by simp[hb]),(List.pairwise_append.1 hd.desc).1⟩;have hlt:∀ b ∈ i,c<b.1:=fun b hb=>(List.pairwise_append.1 hd.desc).2.2 b hb (c,sg) (by simp);have hsg:sg.length=2 ^ c:=hd.len (c,sg) (by simp);have hac:a<=c:=ha (c,sg) (by simp);by_cases e:a=c
  ·subst e;obtain⟨cs,h1,h2,h3⟩:=M0 n i (a+1) (sg++seg) hi hdi (by rw[List.length_append,hsg,hs,Nat.pow_succ];omega) (fun b hb=>hlt b hb);refine⟨cs,h1,by rw[h2,G3];simp[Bi],?_⟩;rw[<- h3];have hp:EM (a+1) (sg++seg)=Cr (EM a sg) (EM a seg):=by
    rw[EM,<- hsg,List.take_left,List.drop_left]
   rw[hp,show Hx (i++[(a,sg)])++[(2 ^ a,EM a seg)]=Hx i++[(2 ^ a,EM a sg),(2 ^ a,EM a seg)]by simp[Hx],IX,show 2*2 ^ a=2 ^ (a+1)by rw[Nat.pow_succ];omega]
  have hne:(2:Nat) ^ c≠2 ^ a:=fun h=>by
   have:=(Nat.pow_lt_pow_iff_right (a:=2) (n:=a) (m:=c) (by omega)).2 (by omega);omega
  refine⟨i++[(c,sg)]++[(a,seg)],⟨fun b hb=>?_,?_⟩,by rw[G3];simp[Bi],?_⟩
  ·rcases List.mem_append.1 hb with hb|hb
   ·exact hd.len b hb
   simp at hb;subst hb;exact hs
  ·refine List.pairwise_append.2 ⟨hd.desc,List.pairwise_singleton _ _,fun b hb y hy=>?_⟩;simp at hy;subst hy;rcases List.mem_append.1 hb with hb|hb
   ·have:=hlt b hb;show a<b.1;omega
   simp at hb;subst hb;show a<c;omega
  rw[show Hx (i++[(c,sg)])++[(2 ^ a,EM a seg)]=Hx i++[(2 ^ c,EM c sg),(2 ^ a,EM a seg)]by simp[Hx],IY _ _ _ _ _ hne];simp[Hx]
theorem Hy(l:List ByteArray):∀ k,k<=l.length->∃ bs,JX bs/\Bi bs=l.take k/\CE l k=Hx bs
 | 0,_=>⟨[],⟨(fun b hb=>by simp at hb),List.Pairwise.nil⟩,by simp[Bi],rfl⟩
 | k + 1, hk => by
  obtain⟨bs,h1,h2,h3⟩:=Hy l k (by omega);obtain⟨cs,g1,g2,g3⟩:=M0 _ bs 0 [l.getD k ⟨#[]⟩] rfl h1 rfl (fun _ _=>Nat.zero_le _);refine⟨cs,g1,?_,?_⟩
  ·rw[g2,h2,List.take_succ_eq_append_getElem (by omega),List.getD_eq_getElem?_getD,List.getElem?_eq_getElem (by omega)];rfl
  rw[<- g3,CE,h3];rfl
theorem Sh:∀(bs:List (Nat × List ByteArray)) (a:Nat),JX bs->(∀ b ∈ bs,b.1<a)->(Bi bs).length<2 ^ a
 | [],a,_,_=>by simpa[Bi]using Nat.two_pow_pos a
 |(c,sg)::r,a,hd,ha=>by
  have h1:=Sh r c ⟨fun b hb=>hd.len b (by simp[hb]),(List.pairwise_cons.1 hd.desc).2⟩ (fun b hb=>(List.pairwise_cons.1 hd.desc).1 b hb);have h2:sg.length=2 ^ c:=hd.len (c,sg) (by simp);have h3:(2:Nat) ^ (c+1)<=2 ^ a:=Nat.pow_le_pow_right (by omega) (ha (c,sg) (by simp));have h4:(Bi ((c,sg)::r)).length=sg.length+(Bi r).length:=by simp[Bi]
  rw[h4,h2];rw[Nat.pow_succ]at h3;omega
theorem Ib{a c n:Nat}(h1:2 ^ a<=n)(h2:n<2 ^ (a+1))(h3:2 ^ c<=n)(h4:n<2 ^ (c+1)):a=c:=by
 have k1:a<c+1:=(Nat.pow_lt_pow_iff_right (by omega)).1 (Nat.lt_of_le_of_lt h1 h4);have k2:c<a+1:=(Nat.pow_lt_pow_iff_right (by omega)).1 (Nat.lt_of_le_of_lt h3 h2);omega
theorem Dh{c:Nat}{sg:List ByteArray}{r:List (Nat × List ByteArray)}(hd:JX ((c,sg)::r)):JX r/\sg.length=2 ^ c/\(Bi r).length<2 ^ c/\Bi ((c,sg)::r)=sg++Bi r:=by
 have h1:JX r:=⟨fun b hb=>hd.len b (by simp[hb]),(List.pairwise_cons.1 hd.desc).2⟩;exact⟨h1,hd.len (c,sg) (by simp),Sh r c h1 (fun b hb=>(List.pairwise_cons.1 hd.desc).1 b hb),by simp[Bi]⟩
theorem JY:∀(bs cs:List (Nat × List ByteArray)),JX bs->JX cs->Bi bs=Bi cs->bs=cs
 | [],[],_,_,_=>rfl
 | [],(c,sg)::r,_,hd,he=>by
  obtain⟨_,h2,_,h4⟩:=Dh hd;have:=congrArg List.length he;rw[h4,List.length_append,h2]at this;have:=Nat.two_pow_pos c;simp[Bi]at *
  try omega
 |(c,sg)::r,[],hd,_,he=>by
  obtain⟨_,h2,_,h4⟩:=Dh hd;have:=congrArg List.length he;rw[h4,List.length_append,h2]at this;have:=Nat.two_pow_pos c;simp[Bi]at *
  try omega
 |(c,sg)::r,(c',sg')::r',hd,hd',he=>by
  obtain⟨h1,h2,h3,h4⟩:=Dh hd;obtain⟨g1,g2,g3,g4⟩:=Dh hd';rw[h4,g4]at he;have hl:=congrArg List.length he;rw[List.length_append,List.length_append,h2,g2]at hl;have e:c=c':=Ib (n:=2 ^ c+(Bi r).length) (by omega) (by rw[Nat.pow_succ];omega) (by omega) (by rw[Nat.pow_succ];omega);subst e;obtain⟨e1,e2⟩:=List.append_inj he (by omega);rw[e1,JY r r' h1 g1 e2]
theorem Ec{l:List ByteArray}{bs:List (Nat × List ByteArray)}(h0:l≠[])(hd:JX bs)(hc:Bi bs=l):Ai l=DE ((Hx bs).map (·.2)):=by
 obtain⟨cs,h1,h2,h3⟩:=Hy l l.length (Nat.le_refl _);rw[List.take_of_length_le (Nat.le_refl _)]at h2;unfold Ai;rw[if_neg h0,h3,JY cs bs h1 hd (h2.trans hc.symm)]
theorem Ed:∀(f x:Nat),1<=x->x<2 ^ f->1<=Lib.bitLenAux f x/\2 ^ (Lib.bitLenAux f x-1)<=x/\x<2 ^ Lib.bitLenAux f x
 | 0,x,h1,h2=>by simp at h2;omega
 | f + 1, x, h1, h2 => by
  have e:Lib.bitLenAux (f+1) x=1+Lib.bitLenAux f (x / 2):=by
   rw[Lib.bitLenAux,if_neg (by omega)]
  rw[e,Nat.add_sub_cancel_left];by_cases hx:x=1
  ·subst hx;have e2:Lib.bitLenAux f (1 / 2)=0:=by
    cases f with
    | zero=>rfl
    | succ f=>rw[Lib.bitLenAux,if_pos (by decide)]
   rw[e2];decide
  obtain⟨h3,h4,h5⟩:=Ed f (x / 2) (by omega) (by rw[Nat.pow_succ]at h2;omega);generalize Lib.bitLenAux f (x / 2)=m at *;refine⟨by omega,?_,by rw[Nat.add_comm,Nat.pow_succ];omega⟩;have:(2:Nat) ^ m=2 ^ (m-1)*2:=by rw[<- Nat.pow_succ];congr 1;omega
  omega
theorem GU(n:Nat)(h:2<=n)(h2:n<2 ^ 60):Ay n<n/\n<=2*Ay n/\1<=Ay n:=by
 obtain⟨h3,h4,h5⟩:=Ed 64 (n-1) (by omega) (Nat.lt_of_lt_of_le (show n-1<2 ^ 60 by omega) (Nat.pow_le_pow_right (by omega) (by omega)));unfold Ay Lib.bitLen;generalize Lib.bitLenAux 64 (n-1)=m at *;have e:(2:Nat) ^ m=2 ^ (m-1)*2:=by rw[<- Nat.pow_succ];congr 1;omega
 have:=Nat.two_pow_pos (m-1);omega
theorem JZ{n a:Nat}(h:2 ^ a<n)(h1:n<=2 ^ (a+1))(h2:n<2 ^ 60):Ay n=2 ^ a:=by
 have h0:=Nat.two_pow_pos a;obtain⟨h3,h4,h5⟩:=GU n (by omega) h2;obtain⟨b,hb⟩:∃ b,Ay n=2 ^ b:=⟨_,rfl⟩;rw[hb]at h3 h4 ⊢;rw[Nat.pow_succ]at h1;rw[Ib (n:=n-1) (a:=a) (c:=b) (by omega) (by rw[Nat.pow_succ];omega) (by omega) (by rw[Nat.pow_succ];omega)]
theorem Cn(n:Nat)(h2:n<=1000000)(h:2<=n):1<=Ay n/\Ay n<n:=
 have h9:=GU n h (Nat.lt_of_le_of_lt h2 (by decide))
 ⟨h9.2.2,h9.1⟩
theorem Oa(n:Nat)(h2:n<=1000000)(m:Nat)(_:m<=1000000)(h:2<=n)(h3:Ay n<m)(h4:m<=n):Ay m=Ay n:=by
 have h5:n<2 ^ 60:=Nat.lt_of_le_of_lt h2 (by decide);obtain⟨k1,k2,k3⟩:=GU n h h5;obtain⟨b,hb⟩:∃ b,Ay n=2 ^ b:=⟨_,rfl⟩;rw[hb]at k1 k2 h3 ⊢;exact JZ h3 (by rw[Nat.pow_succ];omega) (by omega)
theorem Lw(l:List ByteArray)(h2:2<=l.length)(h60:l.length<2 ^ 60):Ai l=Cr (Ai (l.take (Ay l.length))) (Ai (l.drop (Ay l.length))):=by
 have hne:∀ {x:List ByteArray},1<=x.length->x≠[]:=fun h e=>by rw[e]at h;simp at h
 obtain⟨bs,hd,hc,_⟩:=Hy l l.length (Nat.le_refl _);rw[List.take_of_length_le (Nat.le_refl _)]at hc;rw[Ec (hne (by omega)) hd hc]
 match bs,hd,hc with
 | [],hd,hc=>rw[<- hc]at h2;simp[Bi]at h2
 | [(0,seg)],hd,hc=>
  have:=(Dh hd).2.1;rw[<- hc]at h2;simp[Bi]at h2;omega
 | [(a+1,seg)],hd,hc=>
  have hl:=(Dh hd).2.1;have hs:seg=l:=by simpa[Bi]using hc
  subst hs;have hp:=Nat.two_pow_pos a;have e:Ay seg.length=2 ^ a:=JZ (by rw[hl,Nat.pow_succ];omega) (by omega) h60;have hl1:(seg.take (2 ^ a)).length=2 ^ a:=by rw[List.length_take,hl,Nat.pow_succ];omega
  have hl2:(seg.drop (2 ^ a)).length=2 ^ a:=by rw[List.length_drop,hl,Nat.pow_succ];omega
  rw[e,Ec (bs:=[(a,seg.take (2 ^ a))]) (hne (by omega)) ⟨fun b hb=>by simp at hb;subst hb;exact hl1,List.pairwise_singleton _ _⟩ (by simp[Bi]),
   Ec (bs:=[(a,seg.drop (2 ^ a))]) (hne (by omega)) ⟨fun b hb=>by simp at hb;subst hb;exact hl2,List.pairwise_singleton _ _⟩ (by simp[Bi])]
  rfl
 |(a,seg)::(c,sg)::r,hd,hc=>
  obtain⟨h1,h3,h4,h5⟩:=Dh hd;obtain⟨_,g3,_,g5⟩:=Dh h1;have hp:=Nat.two_pow_pos c;have hlen:l.length=2 ^ a+(Bi ((c,sg)::r)).length:=by rw[<- hc,h5,List.length_append,h3]
  have hlen2:1<=(Bi ((c,sg)::r)).length:=by rw[g5,List.length_append];omega
  have e:Ay l.length=2 ^ a:=JZ (by omega) (by rw[Nat.pow_succ];omega) h60;have ht:l.take (2 ^ a)=seg:=by rw[<- hc,h5,<- h3,List.take_left]
  have hdr:l.drop (2 ^ a)=Bi ((c,sg)::r):=by rw[<- hc,h5,<- h3,List.drop_left]
  rw[e,ht,hdr,Ec (bs:=[(a,seg)]) (hne (by have:=Nat.two_pow_pos a;omega)) ⟨fun b hb=>by simp at hb;subst hb;exact h3,List.pairwise_singleton _ _⟩ (by simp[Bi]),
   Ec (hne hlen2) h1 rfl]
  simp[DE,Hx,List.getLast?_cons_cons]
theorem Fa(l:List ByteArray)(h2:2<=l.length)(h:l.length<=2000):Ai l=Cr (Ai (l.take (Ay l.length))) (Ai (l.drop (Ay l.length))):=Lw l h2 (Nat.lt_of_le_of_lt h (by decide))
end
section
open Go.RowKit Go.Shelf
attribute [local go_sem] Oper.semAt_some
def Vw(w:I)(b off:Nat)(x:ByteArray × Bool):Prop:=w.cell? ⟨b,off,none⟩=some (.string x.1)/\w.cell? ⟨b,off+1,none⟩=some (.bool x.2)
set_option maxHeartbeats 400000 in
theorem Kq(n c:Nat)(A:Option Addr)(w:I) :
  Calls Tryz.prog 114 #[.slice A n c] w fun e w'=>
   e=.returned (.func (.func 169) #[] #[.pointer (some ⟨w.heap.size,0,none⟩)])/\w.alloc (.cells #[.slice A n c] 199)=w':=by
 have hmf:∀(fn:Fn) (first cap:Array U) (w:I),(Instr.makeFunc fn first cap).run Tryz.prog w=.ok (.func fn first cap) w:=fun _ _ _ _=>rfl;go_enter Tryz.func114,Tryz.ntmps114;go_wp2;go_ret;exact⟨rfl,rfl⟩
end
end Go.Proofs.YtimoapjhepmehaaGreatDoor
