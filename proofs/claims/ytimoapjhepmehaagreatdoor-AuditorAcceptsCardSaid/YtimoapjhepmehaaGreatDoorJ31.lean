/- Part 31: contracts that the last part uses. -/
import Derived.Test.YtimoapjhepmehaaGreatDoorJ25
import Derived.Lib.Overlaps
import Derived.Lib.AppendZerosOnto
set_option linter.unusedSimpArgs false
set_option linter.unusedVariables false
set_option maxHeartbeats 4000000
set_option maxRecDepth 100000
namespace Go.Proofs.YtimoapjhepmehaaGreatDoor
open Go.IntKind renaming i64->U
open Go.Value renaming int->J,slice->eC,agg->eJ
open Go renaming Value->eA,World->eB,Calls->eH
open Tryz renaming prog->eD
open Go.RowKit renaming Below->eE
open Go.Obj renaming cells->eF
open Go.Ending renaming returned->eG
open Go.IntWalk renaming i64_in->eI
open List renaming getElem?_eq_getElem->eK
section
open Go.RowKit Go.Shelf
def EI(cur:List eA)(o:Nat)(vs:List eA):List eA:=cur.take o++vs++cur.drop (o+vs.length)
theorem Blk.setCells{g:Nat}{t:TypeId}:∀(vs:List eA) (o:Nat) (W:eB) (cur:Array eA),Blk W g t cur->o+vs.length<=cur.size->Blk (W.setCells g o vs) g t (EI cur.toList o vs).toArray
 | [],o,W,cur,h,_=>by
  show Blk W g t _;simpa[EI]using h
 | v :: r, o, W, cur, h, hl => by
  have h2:=Blk.setCells r (o+1) _ _ (h.set_ o v) (by simp at hl ⊢;omega);have e:EI (cur.setIfInBounds o v).toList (o+1) r=EI cur.toList o (v::r):=by
   have ho:o<cur.toList.length:=by simp at hl ⊢;omega
   have h3:(cur.toList.set o v).take (o+1)=cur.toList.take o++[v]:=by
    rw[List.take_add_one,List.getElem?_set_self ho,List.take_set_of_le (Nat.le_refl _)];rfl
   have h4:(cur.toList.set o v).drop (o+1+r.length)=cur.toList.drop (o+(v::r).length):=by
    rw[List.drop_set_of_lt (by omega),List.length_cons];congr 1;omega
   unfold EI;rw[Array.toList_setIfInBounds,h3,h4];simp
  rw[<- e];exact h2
theorem CK{B:Nat}{w:eB}{g:Nat}(hg:B<=g):∀(vs:List eA) (o:Nat) (W:eB),eE B w W->eE B w (W.setCells g o vs)
 | [],_,_,h=>h
 | v::r,o,W,h=>CK hg r (o+1) _ (h.setCell (p:=⟨g,o,none⟩) hg v)
section
variable {α:Type} {enc:α->List eA} {k:Nat}
structure Dt (enc:α->List eA) (k:Nat):Prop where
 len:∀ x,(enc x).length=k
 one:∀ x,∀ u ∈ enc x,u.oneCell'=true
 pos:0<k
def ec(enc:α->List eA)(l:List α):List eA:=l.flatMap enc
theorem Dz(l m:List α):ec enc (l++m)=ec enc l++ec enc m:=by simp[ec]
theorem BS(h:Dt enc k)(l:List α):(ec enc l).length=l.length*k:=by
 induction l with
 | nil=>simp[ec]
 | cons a r ih=>simp[ec,h.len]at ih ⊢;rw[ih,Nat.succ_mul];omega
theorem PY(h:Dt enc k)(l:List α):∀ u ∈ ec enc l,u.oneCell'=true:=by
 intro u hu;obtain⟨x,_,hx⟩:=List.mem_flatMap.1 hu;exact h.one x u hx
theorem Cz(l:List α)(i:Nat):ec enc l=ec enc (l.take i)++ec enc (l.drop i):=by rw[<- Dz,List.take_append_drop]
theorem ec_at(h:Dt enc k){l:List α}{i:Nat}{x:α}(hx:l[i]? = some x)(j:Nat)(hj:j<k):(ec enc l)[i*k+j]? = (enc x)[j]? := by
 have hi:=(List.getElem?_eq_some_iff.1 hx).1;have hd:l.drop i=x::l.drop (i+1):=by rw[List.drop_eq_getElem_cons hi,(List.getElem?_eq_some_iff.1 hx).2]
 rw[Cz l i,List.getElem?_append_right (by rw[BS h,List.length_take,Nat.min_eq_left (by omega)];omega),BS h,List.length_take,Nat.min_eq_left (by omega),Nat.add_sub_cancel_left,hd];show(enc x++ec enc (l.drop (i+1)))[j]? = _;rw[List.getElem?_append_left (by rw[h.len];exact hj)]
def CA(enc:α->List eA)(k:Nat)(B:Nat)(e:TypeId)(W:eB)(g cap:Nat)(M:List α):Prop:=B<=g/\M.length<=cap/\cap<=maxLen/\∃(cur:Array eA) (R:List eA),Blk W g e cur/\cur.size=cap*k/\cur.toList=ec enc M++R
variable {B g cap:Nat} {e:TypeId} {W V:eB} {M:List α}
theorem CA.own(h:Dt enc k)(ho:CA enc k B e W g cap M):W.ownsRow B e k (eC (some ⟨g,0,none⟩) M.length cap) M.length (ec enc M):=by
 obtain⟨h1,h2,h3,cur,R,h4,h5,h6⟩:=ho;refine⟨BS h M,.inr ⟨g,cap,cur,rfl,h1,h4,h2,h3,h5,?_⟩⟩;rw[h6,<- BS h M,List.take_left'];rfl
theorem GJ(h:Dt enc k){v:eA}(ho:W.ownsRow B e k v M.length (ec enc M))(h0:0<M.length):∃ g cap,v=eC (some ⟨g,0,none⟩) M.length cap/\CA enc k B e W g cap M:=by
 rcases ho.2 with⟨_,h1⟩|⟨g,cap,cur,rfl,hb,hg,h1,h2,h3,h4⟩
 ·omega
 exact⟨g,cap,rfl,hb,h1,h2,cur,cur.toList.drop (M.length*k),hg,h3,by rw[<- h4,List.take_append_drop]⟩
theorem CA.ext(ho:CA enc k B e W g cap M)(hk:eE W.heap.size W V):CA enc k B e V g cap M:=by
 obtain⟨h1,h2,h3,cur,R,h4,h5,h6⟩:=ho;exact⟨h1,h2,h3,cur,R,h4.ext hk,h5,h6⟩
theorem CA.cell(h:Dt enc k)(ho:CA enc k B e W g cap M){i:Nat}{x:α}(hx:M[i]? = some x)(j:Nat)(hj:j<k):W.cell? ⟨g,i*k+j,none⟩=(enc x)[j]? := by
 obtain⟨h1,h2,h3,cur,R,h4,h5,h6⟩:=ho;have hi:=(List.getElem?_eq_some_iff.1 hx).1;rw[h4.cell,<- Array.getElem?_toList,h6,List.getElem?_append_left ?_,ec_at h hx j hj];rw[BS h]
 calc i*k+j<i*k+k:=by omega
  _=(i+1)*k:=(Nat.succ_mul i k).symm
  _<=M.length*k:=Nat.mul_le_mul_right k hi
theorem CA.frozen(ho:CA enc k B e W g cap M)(i:Nat):W.frozen? ⟨g,i,none⟩=false:=by obtain⟨_,_,_,_,_,h,_⟩:=ho;exact h.frozen i
theorem CA.cut(ho:CA enc k B e W g cap M)(m:Nat):CA enc k B e W g cap (M.take m):=by
 obtain⟨h1,h2,h3,cur,R,h4,h5,h6⟩:=ho;exact⟨h1,Nat.le_trans (by rw[List.length_take];omega) h2,h3,cur,ec enc (M.drop m)++R,h4,h5,by rw[h6,Cz M m,List.append_assoc]⟩
theorem CA.splice(h:Dt enc k)(ho:CA enc k B e W g cap M)(i m:Nat)(hm:i+m<=M.length)(X:List α)(hX:X.length=m):CA enc k B e (W.setCells g (i*k) (ec enc X)) g cap (M.take i++X++M.drop (i+m)):=by
 obtain⟨h1,h2,h3,cur,R,h4,h5,h6⟩:=ho;have hl1:(ec enc (M.take i)).length=i*k:=by rw[BS h,List.length_take,Nat.min_eq_left (by omega)]
 have hl2:(ec enc X).length=m*k:=by rw[BS h,hX]
 have hl3:(ec enc (M.take (i+m))).length=i*k+m*k:=by rw[BS h,List.length_take,Nat.min_eq_left (by omega),Nat.add_mul]
 have hfit:i*k+(ec enc X).length<=cur.size:=by
  rw[hl2,h5,<- Nat.add_mul];exact Nat.mul_le_mul_right k (by omega)
 refine⟨h1,by simp;omega,h3,_,R,Blk.setCells (ec enc X) (i*k) W cur h4 hfit,?_,?_⟩
 ·have:cur.toList.length=cap*k:=by simpa using h5
  simp[EI,List.length_append,List.length_take,List.length_drop];rw[hl2];rw[hl2]at hfit;omega
 rw[List.toList_toArray];unfold EI;have e1:cur.toList.take (i*k)=ec enc (M.take i):=by
  rw[h6,Cz M i,List.append_assoc,<- hl1,List.take_left'];rfl
 have e2:cur.toList.drop (i*k+(ec enc X).length)=ec enc (M.drop (i+m))++R:=by
  rw[h6,Cz M (i+m),List.append_assoc,hl2,<- hl3,List.drop_left'];rfl
 rw[e1,e2,Dz,Dz];simp
theorem CA.put(h:Dt enc k)(ho:CA enc k B e W g cap M)(i:Nat)(hi:i<M.length)(x:α):CA enc k B e (W.setCells g (i*k) (enc x)) g cap (M.set i x):=by
 have h2:=ho.splice h i 1 (by omega) [x] rfl;have e1:ec enc [x]=enc x:=by simp[ec]
 rw[e1,List.append_assoc]at h2;rw[List.set_eq_take_append_cons_drop,if_pos hi];exact h2
end
end
section
open Go.RowKit Go.Shelf
def Bq(n m:Nat):Nat:=n-m
def C0(k c m:Nat):Nat:=if c=m then 0 else m*k
section
variable {P:Program}
theorem Fp(w:eB){o:Oper}{a:Act}{K:Act->eB->Prop}{Q:Exit->Act->eB->Prop}(d s:Operand)(t:TypeId)(ho:o.op=.call { callee:=.builtin .copy,args:=#[d,s],argTypes:=#[t,t] })
  (v u:eA) (hd:a.eval d=v) (hs:a.eval s=u) {v':eA} {w':eB} (hr:(Builtin.copy_ #[t,t] o.type #[v,u]).run P w=.ok v' w') (h:K (a.put o.dst v') w'):o.wp P a w K Q:=by
 unfold Oper.wp execOp;simp only[ho,resolve,invoke,builtin,Sem.run_bind,Sem.run_pure,Result.andThen_ok,List.map_toArray,List.map_cons,List.map_nil,hd,hs,hr];exact h
theorem F6(w:eB){ops:Array Oper}{rest:List Oper}{o:Oper}{a:Act}{Q:Exit->Act->eB->Prop}(hgd:o.guard=none)(d s:Operand)(t:TypeId)(ho:o.op=.call { callee:=.builtin .copy,args:=#[d,s],argTypes:=#[t,t] })
  (v u:eA) (hd:a.eval d=v) (hs:a.eval s=u) {v':eA} {w':eB} (hr:(Builtin.copy_ #[t,t] o.type #[v,u]).run P w=.ok v' w') (h:wpList P ops Q rest (a.put o.dst v') w'):wpList P ops Q (o::rest) a w:=
 wpList_plain hgd fun _ hK=>Fp w d s t ho v u hd hs hr (hK _ _ h)
theorem F7{L:List eA}{o n:Nat}{vs:List eA}(hL:L.length=n)(h:o+vs.length<=n):(EI L o vs).toArray.size=n:=by
 rw[List.size_toArray];unfold EI;simp;omega
theorem minE(a b c:Nat)(h:b=c)(h2:b<=a):Nat.min a b=c:=by rw[<- h];exact Nat.min_eq_right h2
theorem F8(w:eB)(dT sT ty elem:TypeId)(sz:Nat)(g o dLen dCap:Nat)(a:Addr)(sLen sCap:Nat)(cur:Array eA)(t:TypeId)(cs:List eA)
  (hu:P.underlying dT=some (.slice elem)) (hs:(P.info? elem).map (·.size)=some sz)
  (hg:w.heap[g]? = some (.cells cur t (0,0))) (hn:cs.length=Nat.min sLen dLen*sz)
  (hsrc:∀ j v,cs[j]? = some v->w.cell? (a.add j)=some v) (hfit:o+cs.length<=cur.size) (h1:∀ v ∈ cs,v.oneCell'=true) :
  (Builtin.copy_ #[dT,sT] ty #[eC (some ⟨g,o,none⟩) dLen dCap,eC (some a) sLen sCap]).run P w =
   .ok (goInt (Nat.min sLen dLen)) (w.setRow g (EI cur.toList o cs).toArray):=by
 have hl:=run_loadCells_list (P:=P) w a cs hsrc;have hst:=run_storeCells_at P g o t cs 0 cur w hg (by simpa using hfit) h1
 cases hq:P.info? elem with
 | none=>simp[hq]at hs
 | some i=>
  have hi:i.size=sz:=by simpa[hq]using hs
  simp[Builtin.copy_,run_underlying hu,Builtin.lenOf,Builtin.firstCells,sizeOf,typeInfo,hq,hi,<- hn,hl,hst,EI]
theorem To(L D X:List eA)(a k:Nat)(hX:X.length=k)(hL:a+k<=L.length):EI (EI L (a+k) D) a X=L.take a++X++D++L.drop (a+k+D.length):=by
 subst hX;unfold EI;have h1:(L.take (a+X.length)++D++L.drop (a+X.length+D.length)).take a=L.take a:=by
  rw[List.append_assoc,List.take_append_of_le_length (by rw[List.length_take];omega),List.take_take,Nat.min_eq_left (by omega)]
 have h2:(L.take (a+X.length)++D++L.drop (a+X.length+D.length)).drop (a+X.length)=D++L.drop (a+X.length+D.length):=by
  have h3:(L.take (a+X.length)).length=a+X.length:=by rw[List.length_take];omega
  rw[List.append_assoc,List.drop_append_of_le_length (by omega),List.drop_of_length_le (by omega),List.nil_append]
 rw[h1,h2,<- List.append_assoc]
variable {α:Type} {enc:α->List eA} {k:Nat} {sT e:TypeId} {B g cap:Nat} {w:eB} {M:List α}
theorem QT{W:eB}{c2:Array eA}{R:List eA}(h:Dt enc k)(M:List α)(x:α)(i:Nat)(hi:i<=M.length)(hg:B<=g)(hr:M.length+1<=cap)(hm:cap<=maxLen)(hb:W.heap[g]? = some (.cells c2 e (0,0)))(hs:c2.size=cap*k)(hl:c2.toList=ec enc (M.take i)++enc x++ec enc (M.drop i)++R) :
  W.ownsRow B e k (eC (some ⟨g,0,none⟩) (M.length+1) cap) (M.length+1) (ec enc (M.take i++x::M.drop i)):=by
 have hn:(M.take i++x::M.drop i).length=M.length+1:=by rw[List.length_append,List.length_cons,List.length_take,List.length_drop];omega
 have he:ec enc (M.take i++x::M.drop i)=ec enc (M.take i)++enc x++ec enc (M.drop i):=by simp[ec]
 have hlen:=BS h (M.take i++x::M.drop i);rw[hn]at hlen;refine⟨hlen,.inr ⟨g,cap,c2,rfl,hg,hb,hr,hm,hs,?_⟩⟩;rw[hl,<- he,<- hlen,List.take_left'];rfl
theorem QU(h:Dt enc k)(hu:P.underlying sT=some (.slice e))(hs:(P.info? e).map (·.size)=some k)(hB:B<=w.heap.size)(ho:CA enc k B e w g cap M)(i:Nat)(hlt:i<M.length)(x:α){gx:Nat}{ex:TypeId}{ax:Array eA}(hx:Blk w gx ex ax)(hax:ax.toList=enc x)(hgn:g≠gx)(hr:M.length+1<=cap) :
  ∃ W1 WF,(∀ ty,(Builtin.copy_ #[sT,sT] ty #[eC (some ⟨g,C0 k cap (i+1),none⟩) (Bq (M.length+1) (i+1)) (Bq cap (i+1)),eC (some ⟨g,C0 k cap i,none⟩) (Bq (M.length+1) i) (Bq cap i)]).run P w.drew=.ok (goInt (M.length-i:Nat)) W1) /\
   (∀ ty,(Builtin.copy_ #[sT,sT] ty #[eC (some ⟨g,C0 k cap i,none⟩) (Bq (M.length+1) i) (Bq cap i),eC (some ⟨gx,0,none⟩) 1 1]).run P W1=.ok (goInt (1:Nat)) WF) /\
   WF.ownsRow B e k (eC (some ⟨g,0,none⟩) (M.length+1) cap) (M.length+1) (ec enc (M.take i++x::M.drop i))/\eE B w WF:=by
 obtain⟨hg0,-,hm,cur,R,hC,hcs,hcl⟩:=id ho;have hdl:(ec enc (M.drop i)).length=(M.length-i)*k:=by rw[BS h,List.length_drop]
 have htl:(ec enc (M.take i)).length=i*k:=by rw[BS h,List.length_take,Nat.min_eq_left (by omega)]
 have hk1:(i+1)*k=i*k+k:=Nat.succ_mul i k;have hk2:i*k+k+(M.length-i)*k<=cap*k:=by
  rw[<- hk1,<- Nat.add_mul];exact Nat.mul_le_mul_right k (by omega)
 have hoi:C0 k cap i=i*k:=by unfold C0;rw[if_neg (by omega)]
 have hsrc:∀ j u,(ec enc (M.drop i))[j]? = some u->cur[i*k+j]? = some u:=fun j u hj=>by
  have hj2:=(List.getElem?_eq_some_iff.1 hj).1;rw[<- Array.getElem?_toList,hcl,Cz M i,List.append_assoc,List.getElem?_append_right (by omega),htl,Nat.add_sub_cancel_left,List.getElem?_append_left hj2,hj]
 have hxs:∀(W:eB),Blk W gx ex ax->∀ j u,(enc x)[j]? = some u->W.cell? ((⟨gx,0,none⟩:Addr).add j)=some u:=fun W hW j u hj=>by
  rw[Bb,hW.cell,<- Array.getElem?_toList,hax,hj]
 obtain⟨cur1,hcur1⟩:∃ c,c=(EI cur.toList (i*k+k) (ec enc (M.drop i))).toArray:=⟨_,rfl⟩;have hC0:Blk w.drew g e cur:=hC;have hC1:Blk (w.drew.setRow g cur1) g e cur1:=setRow_heap _ g cur _ _ _ hC0;have hx1:Blk (w.drew.setRow g cur1) gx ex ax:=(show Blk w.drew gx ex ax from hx).grown (CO _ g cur1) (by intro e;injection e with e;exact hgn e.symm);have hc1s:cur1.size=cap*k:=by rw[hcur1];exact F7 (by simpa using hcs) (by rw[hdl];omega)
 refine⟨w.drew.setRow g cur1,(w.drew.setRow g cur1).setRow g (EI cur1.toList (i*k) (enc x)).toArray,fun ty=>?_,fun ty=>?_,?_,?_⟩
 ·have hmin:Nat.min (Bq (M.length+1) i) (Bq (M.length+1) (i+1))=M.length-i:=by unfold Bq;exact minE _ _ _ (by omega) (by omega)
  have h3:=F8 (P:=P) w.drew sT sT ty e k g (i*k+k) (Bq (M.length+1) (i+1)) (Bq cap (i+1)) ⟨g,i*k,none⟩ (Bq (M.length+1) i) (Bq cap i) cur e (ec enc (M.drop i)) hu hs hC (by rw[hdl,hmin]) (fun j u hj=>by
   rw[Addr.add_mid];exact(hC.cell (i*k+j)).trans (hsrc j u hj)) (by rw[hdl,hcs];omega) (PY h _)
  rw[hoi];by_cases hc:cap=i+1
  ·omega
  rw[show C0 k cap (i+1)=i*k+k by unfold C0;rw[if_neg hc,hk1],h3,hmin,hcur1]
 ·have hmin:Nat.min 1 (Bq (M.length+1) i)=1:=Nat.min_eq_left (by unfold Bq;omega);have h3:=F8 (P:=P) (w.drew.setRow g cur1) sT sT ty e k g (i*k) (Bq (M.length+1) i) (Bq cap i) ⟨gx,0,none⟩ 1 1 cur1 e (enc x) hu hs hC1 (by rw[hmin,h.len,Nat.one_mul]) (hxs _ hx1) (by rw[h.len,hc1s];omega) (h.one x);rw[hoi,h3,hmin]
 ·refine QT h M x i (by omega) hg0 hr hm (setRow_heap _ g cur1 _ _ _ hC1) (F7 (by simpa using hc1s) (by rw[h.len];omega)) (R:=cur.toList.drop (i*k+k+(ec enc (M.drop i)).length)) ?_;rw[List.toList_toArray,hcur1,List.toList_toArray,To _ _ _ _ _ (h.len x) (by simp[hcs];omega)];rw[show cur.toList.take (i*k)=ec enc (M.take i)by rw[hcl,Cz M i,List.append_assoc,<- htl,List.take_left'];rfl]
 exact((((AF w).mono hB).drew).grown (CO _ g cur1) hB (fun q e=>by injection e with e;omega)).grown (CO _ g _) (by unfold World.setRow;simpa using hB) (fun q e=>by injection e with e;omega)
theorem QV(h:Dt enc k)(hu:P.underlying sT=some (.slice e)){iT:TypeId}(hui:P.underlying iT=some (.int .i64)){ii:TypeInfo}{z:eA}(hi0:P.info? e=some ii)(hz0:ii.zero=some z)(hz1:ii.size=k)(hzc:z.cells.size=k)(hb0:0<ii.bytes)(hb1:ii.bytes<=1000)(hB:B<=w.heap.size)(ho:CA enc k B e w g cap M)(i:Nat)(hlt:i<M.length)(hn:M.length<=100000)(x:α){gx:Nat}{ex:TypeId}{ax:Array eA}(hx:Blk w gx ex ax)(hax:ax.toList=enc x)(hr:cap=M.length) :
  ∃ g2 G W2 W3 WF,(∀ ty,(Builtin.append_ #[sT,iT] ty #[eC (some ⟨g,0,none⟩) i cap,J U ((M.length:Int)+1-(i:Int))]).run P w=.ok (eC (some ⟨g2,0,none⟩) (M.length+1) G) W2) /\
   (∀ ty,(Builtin.copy_ #[sT,sT] ty #[eC (some ⟨g2,C0 k G i,none⟩) (Bq (M.length+1) i) (Bq G i),eC (some ⟨gx,0,none⟩) 1 1]).run P W2=.ok (goInt (1:Nat)) W3) /\
   (∀ ty,(Builtin.copy_ #[sT,sT] ty #[eC (some ⟨g2,C0 k G (i+1),none⟩) (Bq (M.length+1) (i+1)) (Bq G (i+1)),eC (some ⟨g,C0 k cap i,none⟩) (Bq M.length i) (Bq cap i)]).run P W3.drew=.ok (goInt (M.length-i:Nat)) WF) /\
   M.length+1<=G/\WF.ownsRow B e k (eC (some ⟨g2,0,none⟩) (M.length+1) G) (M.length+1) (ec enc (M.take i++x::M.drop i))/\eE B w WF:=by
 obtain⟨hg0,-,hm,cur,R,hC,hcs,hcl⟩:=id ho;have hs:(P.info? e).map (·.size)=some k:=by rw[hi0];simp[hz1]
 have hdl:(ec enc (M.drop i)).length=(M.length-i)*k:=by rw[BS h,List.length_drop]
 have htl:(ec enc (M.take i)).length=i*k:=by rw[BS h,List.length_take,Nat.min_eq_left (by omega)]
 have hk1:(i+1)*k=i*k+k:=Nat.succ_mul i k;have hoi:C0 k cap i=i*k:=by unfold C0;rw[if_neg (by omega)]
 have hsrc:∀ j u,(ec enc (M.drop i))[j]? = some u->cur[i*k+j]? = some u:=fun j u hj=>by
  have hj2:=(List.getElem?_eq_some_iff.1 hj).1;rw[<- Array.getElem?_toList,hcl,Cz M i,List.append_assoc,List.getElem?_append_right (by omega),htl,Nat.add_sub_cancel_left,List.getElem?_append_left hj2,hj]
 have hik:i+(M.length+1-i)=M.length+1:=by omega
 have hkk:(M.length:Int)+1-(i:Int)=((M.length+1-i:Nat):Int):=by omega
 have htk:∀ j u,(ec enc (M.take i))[j]? = some u->w.drew.cell? ((⟨g,0,none⟩:Addr).add j)=some u:=fun j u hj=>by
  have hj2:=(List.getElem?_eq_some_iff.1 hj).1;rw[Bb];refine(hC.cell j).trans ?_;rw[<- Array.getElem?_toList,hcl,Cz M i,List.append_assoc,List.getElem?_append_left hj2,hj]
 have hold:(Builtin.firstCells ii.size i (eC (some ⟨g,0,none⟩) i cap)).run P w.drew=.ok (ec enc (M.take i)).toArray w.drew:=by
  have h3:=run_loadCells_list (P:=P) w.drew ⟨g,0,none⟩ (ec enc (M.take i)) htk;rw[htl]at h3;rw[hz1];exact h3
 obtain⟨G,hG⟩:∃ G,G=grownCap w (M.length+1) cap e:=⟨_,rfl⟩;have hGn:M.length+1<=G:=by rw[hG];exact grownCap_ge w _ _ _
 have hG63:G<=maxLen:=by rw[hG];exact grownCap_le_maxLen w _ _ _ (by unfold maxLen;omega)
 obtain⟨ROW,hROW⟩:∃ ROW:Array eA,ROW=(ec enc (M.take i)).toArray++Builtin.zeroCells z.cells (M.length+1-i)++Builtin.zeroCells z.cells (G-(M.length+1)):=⟨_,rfl⟩;have hGk:i*k+(M.length+1-i)*k+(G-(M.length+1))*k=G*k:=by rw[<- Nat.add_mul,<- Nat.add_mul];congr 1;omega
 have hk2:i*k+k+(M.length-i)*k<=G*k:=by
  rw[<- hk1,<- Nat.add_mul];exact Nat.mul_le_mul_right k (by omega)
 have hRs:ROW.size=G*k:=by rw[hROW];simp[Builtin.zeroCells,hzc,htl];omega
 have hRt:ROW.toList.take (i*k)=ec enc (M.take i):=by
  rw[hROW,Array.toList_append,Array.toList_append,List.append_assoc,<- htl,List.toList_toArray,List.take_left'];rfl
 have hrz:∀ ty,(Builtin.append_ #[sT,iT] ty #[eC (some ⟨g,0,none⟩) i cap,J U ((M.length:Int)+1-(i:Int))]).run P w=.ok (eC (some ⟨w.heap.size,0,none⟩) (M.length+1) G) (w.drew.alloc (.cells ROW e)):=fun ty=>by
  have h3:=Lib.run_append_grow_zeros (P:=P) w sT iT ty e ii _ .i64 .i64 hu hui hi0 hz0 (some ⟨g,0,none⟩) i cap _ hold (M.length+1-i) (by omega) (by rw[hz1];exact h.pos) (by omega) (by omega) (Nat.le_trans (Nat.mul_le_mul (show M.length+1-i<=100001 by omega) hb1) (by decide)) (by rw[hik];exact growslice_fits (by omega) (Nat.le_trans (Nat.mul_le_mul (show M.length+1<=100001 by omega) hb1) (by decide)));rw[hik,<- hG,<- hROW]at h3;rw[hkk];exact h3
 obtain⟨g2,hg2⟩:∃ g2,g2=w.heap.size:=⟨_,rfl⟩;rw[<- hg2]at hrz;obtain⟨W2,hW2⟩:∃ W2,W2=w.drew.alloc (.cells ROW e):=⟨_,rfl⟩;have hb2:eE w.heap.size w W2:=by rw[hW2];exact AB (AF w).drew _
 have hN2:Blk W2 g2 e ROW:=by rw[hW2,hg2];exact Blk.new w.drew _ _
 have hgg:g≠g2:=by have:=hC.lt;omega
 rw[<- hW2]at hrz;obtain⟨cur1,hcur1⟩:∃ c,c=(EI ROW.toList (i*k) (enc x)).toArray:=⟨_,rfl⟩;have hc1s:cur1.size=G*k:=by rw[hcur1];exact F7 (by simpa using hRs) (by rw[h.len];omega)
 have ho5:C0 k G i=i*k:=by unfold C0;rw[if_neg (by omega)]
 have hN3:Blk (W2.setRow g2 cur1) g2 e cur1:=setRow_heap _ g2 ROW _ _ _ hN2;have hC3:Blk (W2.setRow g2 cur1) g e cur:=(hC.ext hb2).grown (CO _ g2 cur1) (by intro e;injection e with e;exact hgg e);obtain⟨W3,hW3⟩:∃ W3,W3=W2.setRow g2 cur1:=⟨_,rfl⟩;have hb3:eE w.heap.size w W3:=by rw[hW3];exact hb2.grown (CO _ g2 cur1) hb2.size (fun q e=>by injection e with e;omega)
 refine⟨g2,G,W2,W3,W3.drew.setRow g2 (EI cur1.toList (i*k+k) (ec enc (M.drop i))).toArray,hrz,fun ty=>?_,fun ty=>?_,hGn,?_,?_⟩
 ·have hmin:Nat.min 1 (Bq (M.length+1) i)=1:=Nat.min_eq_left (by unfold Bq;omega);have hx2:=hx.ext hb2;have h3:=F8 (P:=P) W2 sT sT ty e k g2 (i*k) (Bq (M.length+1) i) (Bq G i) ⟨gx,0,none⟩ 1 1 ROW e (enc x) hu hs hN2 (by rw[hmin,h.len,Nat.one_mul]) (fun j u hj=>by
   rw[Bb,hx2.cell,<- Array.getElem?_toList,hax,hj]) (by rw[hRs,h.len];omega) (h.one x)
  rw[ho5,h3,hmin,hW3,hcur1]
 ·have hmin:Nat.min (Bq M.length i) (Bq (M.length+1) (i+1))=M.length-i:=by unfold Bq;exact minE _ _ _ (by omega) (by omega)
  rw[hW3];have h3:=F8 (P:=P) (W2.setRow g2 cur1).drew sT sT ty e k g2 (i*k+k) (Bq (M.length+1) (i+1)) (Bq G (i+1)) ⟨g,i*k,none⟩ (Bq M.length i) (Bq cap i) cur1 e (ec enc (M.drop i)) hu hs hN3 (by rw[hdl,hmin]) (fun j u hj=>by
   rw[Addr.add_mid];exact(hC3.cell (i*k+j)).trans (hsrc j u hj)) (by rw[hdl,hc1s];omega) (PY h _)
  rw[hoi];by_cases hc:G=i+1
  ·have:M.length=i:=by omega
   omega
  rw[show C0 k G (i+1)=i*k+k by unfold C0;rw[if_neg hc,hk1],h3,hmin]
 ·refine QT h M x i (by omega) (by omega) hGn hG63 (setRow_heap _ g2 cur1 _ _ _ (by rw[hW3];exact hN3)) (F7 (by simpa using hc1s) (by rw[hdl];omega)) (R:=cur1.toList.drop (i*k+k+(ec enc (M.drop i)).length)) ?_;rw[List.toList_toArray];have h8:cur1.toList.take (i*k+k)=ec enc (M.take i)++enc x:=by
   rw[hcur1,List.toList_toArray];unfold EI;rw[hRt];have h9:(ec enc (M.take i)++enc x).length=i*k+k:=by rw[List.length_append,htl,h.len]
   rw[<- h9,List.take_left'];rfl
  show cur1.toList.take (i*k+k)++_++_=_;rw[h8]
 exact((hb3.drew).grown (CO _ g2 _) hb3.size (fun q e=>by injection e with e;omega)).mono hB
end
end
section
open Go.RowKit Go.Shelf
theorem Ir{α:Type}(p:α->Bool){M:List α}{j:Nat}{x:α}(hx:M[j]? = some x):(M.take (j+1)).filter (fun x => !p x)=(M.take j).filter (fun x => !p x)++(if p x then []else [x]):=by
 rw[List.take_add_one,hx,List.filter_append];cases hp:p x <;> simp[hp]
def I5{α:Type}(p:α->Bool)(x:α)(l:List α):List α:=l.take (l.findIdx p)++x::l.drop (l.findIdx p)
theorem N2{α:Type}(F X D:List α)(x:α):(F++X++x::D).set F.length x=F++[x]++(X++[x]).drop 1++D:=by
 cases X <;> simp[List.set_append]
theorem D0{B:Nat}{w W V:eB}(h:eE B w W)(hB:B<=W.heap.size)(k:eE W.heap.size W V):eE B w V:=h.trans (k.mono hB)
theorem CA.blk{α:Type}{enc:α->List eA}{k B:Nat}{e:TypeId}{W:eB}{g cap:Nat}{M:List α}(ho:CA enc k B e W g cap M):∃ cur,Blk W g e cur/\cur.size=cap*k:=by
 obtain⟨_,_,_,cur,_,h,h2,_⟩:=ho;exact⟨cur,h,h2⟩
def Dp{α:Type}(p:α->Bool)(l:List α):Int:=match l.findIdx? p with|some i=>(i:Int)|none => -1
theorem Hp{α:Type}(p:α->Bool)(l:List α):(Dp p l<0/\l.findIdx p=l.length)∨(Dp p l=(l.findIdx p:Int)/\l.findIdx p<l.length):=by
 unfold Dp
 cases h:l.findIdx? p with
 | none=>
  have h1:=List.findIdx?_eq_none_iff.1 h;exact .inl ⟨by show(-1:Int)<0;omega,List.findIdx_eq_length.2 (fun x hx=>by simpa using h1 x hx)⟩
 | some i=>
  have h1:=List.findIdx?_eq_some_iff_findIdx_eq.1 h;exact .inr ⟨by show(i:Int)=_;rw[h1.2],by rw[h1.2];exact h1.1⟩
theorem CA.tailC{α:Type}{enc:α->List eA}{k B:Nat}{e:TypeId}{W:eB}{g cap:Nat}{M:List α}(ho:CA enc k B e W g cap M)(h:Dt enc k)(i:Nat)(hi:i<=M.length)(zs:List eA)(hz:zs.length=Bq M.length i*k):CA enc k B e (W.setCells g (C0 k cap i) zs) g cap (M.take i):=by
 by_cases hc:cap=i
 ·have h0:zs=[]:=List.eq_nil_of_length_eq_zero (by have:=ho.2.1;rw[hz];unfold Bq;rw[show M.length-i=0 by omega];simp);subst h0;exact ho.cut i
 unfold C0 Bq at *;rw[if_neg hc];obtain⟨h1,h2,h3,cur,R,h4,h5,h6⟩:=ho;have hl:(ec enc (M.take i)).length=i*k:=by rw[BS h,List.length_take,Nat.min_eq_left hi]
 have hfit:i*k+zs.length<=cur.size:=by rw[hz,h5,<- Nat.add_mul];exact Nat.mul_le_mul_right k (by omega)
 refine⟨h1,by rw[List.length_take];omega,h3,_,zs++cur.toList.drop (i*k+zs.length),Blk.setCells zs (i*k) W cur h4 hfit,?_,?_⟩
 ·have:cur.toList.length=cap*k:=by simpa using h5
  simp[EI];omega
 have e1:cur.toList.take (i*k)=ec enc (M.take i):=by rw[h6,Cz M i,List.append_assoc,<- hl,List.take_left'];rfl
 rw[List.toList_toArray];unfold EI;rw[e1,List.append_assoc]
structure FnB {α:Type} (val:α->eA) (B:Nat) (I:eB->Prop) (fn:Nat) (caps:Array eA) (p:α->Bool):Prop where
 enters:∀ args w,(callFunc fn args).run eD w=.ok (.enter fn args) w
 keeps:∀ W W',I W->eE B W W'->I W'
 size:∀ W,I W->B<=W.heap.size
 tells:∀(r:α) (W:eB),I W->eH eD fn (#[val r]++caps) W fun e W'=>e=eG (.bool (p r))/\eE W.heap.size W W'
theorem CT:Dt (AY:AD->List eA) 5:=⟨fun _=>rfl,fun x u hu=>by
 simp[AY]at hu;rcases hu with rfl|rfl|rfl|rfl|rfl <;> rfl,by decide⟩
theorem infR:(Tryz.prog.info? 67).map (fun i=>(i.zero,i.size,i.bytes))=some (some (eJ #[J U 0,J U 0,J U 0,J U 0,J U 0]),5,40):=by kernel_rfl
theorem szR:(Tryz.prog.info? 67).map (·.size)=some 5:=by kernel_rfl
theorem MU(w:eB):(Go.sizeOf 67).run eD w=.ok 5 w:=by kernel_rfl
theorem Wf(w:eB):(zeroValue 67).run eD w=.ok (eJ #[J U 0,J U 0,J U 0,J U 0,J U 0]) w:=by kernel_rfl
theorem PZ(a:Nat)(n c m:Nat)(z:Int)(hz:z=(m:Int))(hm:m<=c)(w:eB):(Instr.slice 34 (eC (some ⟨a,0,none⟩) n c) none (some (J U z)) none).run eD w=.ok (eC (some ⟨a,0,none⟩) m c) w:=by
 have hel:Tryz.prog.elem 34=67:=by kernel_rfl
 subst hz;have h:=Go.run_slice_h (P:=eD) (w:=w) 34 (some ⟨a,0,none⟩) n c (by rw[hel];exact Tryz.underlying34) .i64 (m:Int) (by omega) (by omega);rw[h,hel];simp[MU,Result.andThen,sliced,Addr.add]
theorem Gg(a:Nat)(n c m:Nat)(z:Int)(hz:z=(m:Int))(hm:m<=n)(w:eB):(Instr.slice 34 (eC (some ⟨a,0,none⟩) n c) (some (J U z)) none none).run eD w=.ok (eC (some ⟨a,C0 5 c m,none⟩) (Bq n m) (Bq c m)) w:=by
 have hel:Tryz.prog.elem 34=67:=by kernel_rfl
 subst hz;have h:=Go.run_slice_l (P:=eD) (w:=w) 34 (some ⟨a,0,none⟩) n c (by rw[hel];exact Tryz.underlying34) .i64 (m:Int) (by omega) (by omega);rw[h,hel];by_cases hc:c=m <;> simp[MU,Result.andThen,sliced,Addr.add,C0,Bq,hc] <;> omega
theorem Wg(a o m c:Nat)(cur:Array eA)(W:eB)(hB:Blk W a 67 cur)(hs:o+m*5<=cur.size) :
  ∃ zs:List eA,zs.length=m*5/\∀ ty:TypeId,(Builtin.clear_ #[34] ty #[eC (some ⟨a,o,none⟩) m c]).run eD W=.ok (.tuple #[]) (W.setCells a o zs):=by
 cases m with
 | zero=>exact⟨[],by simp,fun ty=>by simp[Builtin.clear_,run_underlying Tryz.underlying34];rfl⟩
 | succ m=>
 have hzl:(Builtin.zeroCells (Value.agg #[J U 0,J U 0,J U 0,J U 0,J U 0]).cells (m+1)).toList.length=(m+1)*5:=by simp[Builtin.zeroCells,Value.cells]
 have h1:∀ u ∈ (Builtin.zeroCells (Value.agg #[J U 0,J U 0,J U 0,J U 0,J U 0]).cells (m+1)).toList,u.oneCell'=true:=by
  intro u hu;simp only[Builtin.zeroCells,Value.cells,Array.toList_map,List.mem_map]at hu;obtain⟨i,_,rfl⟩:=hu;have hi:i % 5<5:=Nat.mod_lt _ (by decide);show(#[J U 0,J U 0,J U 0,J U 0,J U 0]:Array eA)[i % 5]!.oneCell'=true;generalize i % 5=j at hi
  match j,hi with
  | 0,_=>rfl
  | 1,_=>rfl
  | 2,_=>rfl
  | 3,_=>rfl
  | 4,_=>rfl
 have hst:=run_storeCells_cells (P:=eD) a o _ 0 W (fun j hj=>by
  rw[hzl]at hj;rw[Nat.add_zero,hB.cell,Array.getElem?_eq_getElem (by omega)];rfl) (fun j hj=>hB.frozen _) h1
 refine⟨_,hzl,fun ty=>?_⟩;rw[Nat.add_zero]at hst;simp[Builtin.clear_,run_underlying Tryz.underlying34,Wf,hst]
theorem Pa{B B2:Nat}{I:eB->Prop}{fn:Nat}{caps:Array eA}{p:AD->Bool}(hf:FnB AD.val B2 I fn caps p)(M:List AD)(v:eA)(w:eB)(hv:w.ownsRow B 67 5 v M.length (ec AY M))(hI:I w)(hn:M.length<=100000) :
  eH eD 87 #[v,.func (.func fn) #[] caps] w fun e w'=>e=eG (J U (Dp p M))/\eE w.heap.size w w':=
 IC (I:=I) ⟨hf.enters,fun W W' h k=>hf.keeps W W' h (k.mono (hf.size W h)),fun r W h=>hf.tells r W h⟩ M _ w (LH hv) hI hn
theorem Tp{B:Nat}{I:eB->Prop}{fn:Nat}{caps:Array eA}{p:AD->Bool}(hf:FnB AD.val B I fn caps p)(M:List (AD))(hn:M.length<=100000)(g cap:Nat)(w:eB)(hI:I w)(ho:CA AY 5 B 67 w g cap M) :
  eH eD 239 #[eC (some ⟨g,0,none⟩) M.length cap,.func (.func fn) #[] caps] w fun e w'=>e=eG (eC (some ⟨g,0,none⟩) (M.filter (fun x => !p x)).length cap)/\CA AY 5 B 67 w' g cap (M.filter (fun x => !p x))/\eE B w w':=by
 have HIX:=Wz (Pa hf M _ w (ho.own CT) hI hn);have HO:=Wz ho;have HI:=Wz hI;have HF:=Wz hf;have HBW:=Wz (hf.size w hI);have HBG:=Wz ho.1;have HCP:=Wz ho.2.1;have eg:=hf.enters;clear ho hI hf;go_enter Tryz.func239,Tryz.ntmps239;go_wp2_with fail
 refine HIX.out.mono ?_;rintro e W1 ⟨rfl,hb1⟩;have HO1:=Wz (HO.out.ext hb1);have HE1:=Wz (hb1.mono HBW.out);clear hb1 HIX HO
 cases hix:M.findIdx? p with
 | none=>
  have hid1:Dp p M = -1:=by unfold Dp;rw[hix]
  have hfl:M.filter (fun x => !p x)=M:=List.filter_eq_self.2 (fun x hx=>by simpa using List.findIdx?_eq_none_iff.1 hix x hx);have HFL:=Wz hfl;rw[hid1];clear hix hid1 hfl;go_wp2;go_ret;exact⟨by rw[HFL.out];rfl,by rw[HFL.out];exact HO1.out,HE1.out⟩
 | some i0 =>
  have hid1:Dp p M=(i0:Int):=by unfold Dp;rw[hix]
  rw[List.findIdx?_eq_some_iff_getElem]at hix;obtain⟨hlt0,hp0,hno⟩:=hix;have HF0:=Wz (show(M.take (i0+1)).filter (fun x => !p x)=M.take i0 from by
   have h1:(M.take i0).filter (fun x => !p x)=M.take i0:=List.filter_eq_self.2 (fun x hx=>by
    rw[List.mem_take_iff_getElem]at hx;obtain⟨j,hj,rfl⟩:=hx;simpa using hno j (by omega))
   rw[List.take_add_one,eK hlt0,List.filter_append,h1];simp[hp0])
  have HL0:=Wz hlt0;rw[hid1];clear hid1 hno hp0;have hi0:IntKind.i64.wrap ((i0:Int)+1)=(i0:Int)+1:=eI _ (by omega);have hi1:((i0:Int) == -1)=false:=by simp
  go_wp2;go_loopw [5,6,7] (fun iv jv _ W=>∃(i j:Nat) (X:List (AD)),i<j/\j<=M.length/\iv=J U (i:Int)/\jv=J U (j:Int)/\((M.take j).filter (fun x => !p x)).length=i/\X.length+i=j/\CA AY 5 B 67 W g cap ((M.take j).filter (fun x => !p x)++X++M.drop j)/\eE B w W) (fun _ jv _ _=>M.length-(intOf jv).toNat)
  case atStart=>
   have h2:=HL0.out;refine⟨i0,i0+1,[M[i0]],by omega,by omega,rfl,by go_num,by rw[HF0.out,List.length_take];omega,by simp;omega,?_,HE1.out⟩;have h5:M.take i0++[M[i0]]++M.drop (i0+1)=M:=by rw[List.append_assoc];simp
   rw[HF0.out,h5];exact HO1.out
  case round =>
   obtain⟨i,j,X,hij,hj,rfl,rfl,hi,hX,hO,hE⟩:=hrel;have HO:=Wz hO;have HE:=Wz hE;have HBR:=Wz (Nat.le_trans HBW.out hE.size);have e1:IntKind.i64.wrap ((i:Int)+1)=(i:Int)+1:=eI _ (by omega);have e2:IntKind.i64.wrap ((j:Int)+1)=(j:Int)+1:=eI _ (by omega);by_cases hlt:j<M.length
   ·obtain⟨x,hx⟩:∃ x,M[j]? = some x:=⟨_,eK hlt⟩;have HDR:=Wz (show M.drop j=x::M.drop (j+1)by rw[List.drop_eq_getElem_cons hlt,(List.getElem?_eq_some_iff.1 hx).2]);have HTK:=Wz (show(M.take (j+1)).filter (fun x => !p x)=(M.take j).filter (fun x => !p x)++(if p x then []else [x])from Ir p hx);obtain⟨F,hF⟩:∃ F,F=(M.take j).filter (fun x => !p x):=⟨_,rfl⟩;rw[<- hF]at HO HTK hi;have hLj:(F++X++M.drop j)[j]? = some x:=by rw[HDR.out,List.getElem?_append_right (by simp;omega)];simp[show j-(F.length+X.length)=0 by omega]
    obtain⟨z,hz⟩:∃ z,(F++X++M.drop j)[i]? = some z:=⟨_,eK (by simp;omega)⟩;have HLI:=Wz (show i<(F++X++M.drop j).length by simp;omega);have HCI:=Wz (fun(W:eB)(ho:CA AY 5 B 67 W g cap (F++X++M.drop j))(q:Nat)(hq:q<5)=>ho.cell CT hz q hq);have c0:=HO.out.cell CT hLj 0 (by decide);have c1:=HO.out.cell CT hLj 1 (by decide);have c2:=HO.out.cell CT hLj 2 (by decide);have c3:=HO.out.cell CT hLj 3 (by decide);have c4:=HO.out.cell CT hLj 4 (by decide);have HI2:=Wz (HF.out.keeps _ _ HI.out (show eE B w (wr.alloc (eF #[J U (x).t,J U (x).k,J U (x).a,J U (x).b,J U (x).c] 67))from D0 HE.out HBR.out (AC _ _)));have HT:=Wz (HF.out.tells x);have HPX:=Wz (show p x=p x from rfl);generalize hpx:p x=px at HT HTK;have HPE:=Wz hpx;clear hpx HPX hF hx hz hLj hO hE;obtain⟨r0,r1,r2,r3,r4⟩:=x;simp only[AY,List.getElem?_cons_zero,List.getElem?_cons_succ,List.cons_append,List.nil_append,Nat.add_zero]at c0 c1 c2 c3 c4;have q0:(0:Int)<=(j:Int):=by omega
    have q1:(j:Int)<(M.length:Int):=by omega
    have d1:decide ((j:Int)<(M.length:Int))=true:=decide_eq_true q1;go_wp2_with fail
    refine(HT.out _ HI2.out).mono ?_;rintro e W2 ⟨rfl,hb2⟩;have HE2:=Wz (D0 (D0 HE.out HBR.out (AC wr (eF #[J U r0,J U r1,J U r2,J U r3,J U r4] 67))) (Nat.le_trans HBR.out (AC wr (eF #[J U r0,J U r1,J U r2,J U r3,J U r4] 67)).size) hb2);have HO2:=Wz ((HO.out.ext (AC wr (eF #[J U r0,J U r1,J U r2,J U r3,J U r4] 67))).ext hb2);have hbox:=(Blk.new wr 67 #[J U r0,J U r1,J U r2,J U r3,J U r4]).ext hb2;have x0:=hbox.cell 0;have x1:=hbox.cell 1;have x2:=hbox.cell 2;have x3:=hbox.cell 3;have x4:=hbox.cell 4;clear hb2 hbox c0 c1 c2 c3 c4
    cases px with
    | true=>
     go_wp2;go_roundw
     case rel=>
      refine⟨i,j+1,X++[(⟨r0,r1,r2,r3,r4⟩:AD)],by omega,by omega,rfl,by go_num,by rw[HTK.out];simpa using hi,by simp;omega,?_,HE2.out⟩;rw[HTK.out];have h3:=HO2.out;rw[HDR.out]at h3;simpa using h3
     simp[intOf];omega
    | false=>
     have y0:=HCI.out W2 HO2.out 0 (by decide);have g0:=HO2.out.frozen (i*5);have y1:=HCI.out W2 HO2.out 1 (by decide);have g1:=HO2.out.frozen (i*5+1);have y2:=HCI.out W2 HO2.out 2 (by decide);have g2:=HO2.out.frozen (i*5+2);have y3:=HCI.out W2 HO2.out 3 (by decide);have g3:=HO2.out.frozen (i*5+3);have y4:=HCI.out W2 HO2.out 4 (by decide);have g4:=HO2.out.frozen (i*5+4);obtain⟨z0,z1,z2,z3,z4⟩:=z;simp only[AY,List.getElem?_cons_zero,List.getElem?_cons_succ,List.cons_append,List.nil_append,Nat.add_zero]at y0 y1 y2 y3 y4;have p0:(0:Int)<=(i:Int):=by omega
     have p1:(i:Int)<(M.length:Int):=by omega
     go_wp2;go_roundw
     case rel=>
      have h3:=HO2.out.put CT i HLI.out (⟨r0,r1,r2,r3,r4⟩:AD);rw[HDR.out,<- hi,N2]at h3;refine⟨i+1,j+1,(X++[(⟨r0,r1,r2,r3,r4⟩:AD)]).drop 1,by omega,by omega,by go_num,by go_num,by rw[HTK.out];simp[hi],by simp;omega,?_,?_⟩
      ·rw[HTK.out];rw[<- hi];exact h3
      exact CK HBG.out (AY (⟨r0,r1,r2,r3,r4⟩:AD)) (i*5) W2 HE2.out
     simp[intOf];omega
   have hjn:j=M.length:=by omega
   subst hjn;have d1:decide ((M.length:Int)<(M.length:Int))=false:=decide_eq_false (by omega);rw[List.take_length]at hi HO;rw[List.drop_length,List.append_nil]at HO;obtain⟨F,hF⟩:∃ F,F=M.filter (fun x => !p x):=⟨_,rfl⟩;have HFF:=Wz hF;rw[<- hF]at HO hi;have hlen:(F++X).length=M.length:=by simp;omega
   have hs1:=Gg g M.length cap i (i:Int) rfl (by omega);have hs2:=PZ g M.length cap i (i:Int) rfl (by have:=HCP.out;omega);obtain⟨cur,hB,hcs⟩:=HO.out.blk;obtain⟨zs,hzl,hcl⟩:=Wg g (C0 5 cap i) (Bq M.length i) (Bq cap i) cur wr hB (by rw[hcs];have:=HCP.out;unfold C0 Bq;split <;> omega);have HOZ:=Wz (HO.out.tailC CT i (by omega) zs (by rw[hzl,hlen]));have HEZ:=Wz (CK HBG.out zs (C0 5 cap i) wr HE.out);clear hO hE hF hzl hB hcs;go_wp2_with (simp only[hcl])
   go_ret;have h4:(F++X).take i=F:=by rw[<- hi];simp
   rw[<- HFF.out];exact⟨by rw[hi];rfl,by have h5:=HOZ.out;rwa [h4]at h5,HEZ.out⟩
theorem Tq{B:Nat}{I:eB->Prop}{fn:Nat}{caps:Array eA}{p:AD->Bool}(hf:FnB AD.val B I fn caps p)(M:List (AD))(hn:M.length<=100000)(v:eA)(w:eB)(hI:I w)(hv:w.ownsRow B 67 5 v M.length (ec AY M)) :
  eH eD 239 #[v,.func (.func fn) #[] caps] w fun e w'=>∃ u,e=eG u/\w'.ownsRow B 67 5 u (M.filter (fun x => !p x)).length (ec AY (M.filter (fun x => !p x)))/\eE B w w':=by
 by_cases h0:0<M.length
 ·obtain⟨g,c,rfl,ho⟩:=GJ CT hv h0;exact(Tp hf M hn g c w hI ho).mono fun e W h=>⟨_,h.1,h.2.1.own CT,h.2.2⟩
 obtain rfl:M=[]:=List.eq_nil_of_length_eq_zero (by omega);have HX:=Wz (Pa hf [] v w hv hI (by simp));have HV:=Wz hv;have HB:=Wz (hf.size w hI);obtain⟨A,c,rfl⟩:=AI hv;clear hf hI hv;go_enter Tryz.func239,Tryz.ntmps239;go_wp2_with fail
 refine HX.out.mono ?_;rintro e W1 ⟨rfl,hb⟩;have HO:=Wz (AK HV.out hb);have HB1:=Wz (hb.mono HB.out);rw[show Dp p ([]:List (AD)) = -1 from rfl];clear hb;go_wp2;go_ret;exact⟨_,rfl,HO.out,HB1.out⟩
theorem Tr{I:eB->Prop}{fn:Nat}{caps:Array eA}{p:AD->Bool}{w:eB}(hf:FnB AD.val w.heap.size I fn caps p)(M:List (AD))(hn:M.length<=100000)(v:eA)(hI:I w)(hv:AR w v M) :
  eH eD 232 #[v,.func (.func fn) #[] caps] w fun e w'=>∃ u,e=eG u/\w'.ownsRow w.heap.size 67 5 u (M.filter (fun x => !p x)).length (ec AY (M.filter (fun x => !p x)))/\eE w.heap.size w w':=by
 have HCL:=Wz (EG M v hn w hv);have HF:=Wz hf;have HI:=Wz hI;obtain⟨A,c,rfl,-⟩:=hv;clear hf hI;go_enter Tryz.func232,Tryz.ntmps232;go_wp2_with fail
 refine HCL.out.mono ?_;rintro e W1 ⟨u,rfl,hu,hb1⟩;have HX:=Wz (Tq HF.out M hn u W1 (HF.out.keeps _ _ HI.out hb1) hu);have HE1:=Wz hb1;obtain⟨Au,cu,rfl⟩:=AI hu;clear hu hb1;go_wp2_with fail
 refine HX.out.mono ?_;rintro e W2 ⟨u2,rfl,hu2,hb2⟩;have HU2:=Wz hu2;have HE2:=Wz (HE1.out.trans hb2);obtain⟨A2,c2,rfl⟩:=AI hu2;clear hu2 hb2;go_wp2;go_ret;exact⟨_,rfl,HU2.out,HE2.out⟩
theorem appER(B:Nat)(W:eB)(hB:B<=W.heap.size)(v:eA)(M:List (AD))(hn:M.length<=100000)(hv:W.ownsRow B 67 5 v M.length (ec AY M))(x:AD)(gx:Nat)(hx:Blk W gx 67 #[J U (x).t,J U (x).k,J U (x).a,J U (x).b,J U (x).c]) :
  CU eD W 34 34 v (eC (some ⟨gx,0,none⟩) 1 1)/\∃ W',appW eD W 34 34 v (eC (some ⟨gx,0,none⟩) 1 1)=W'/\∃ v',CV eD W 34 34 v (eC (some ⟨gx,0,none⟩) 1 1)=v'/\W'.ownsRow B 67 5 v' (M.length+1) (ec AY (M++[x]))/\eE B W W':=by
 obtain⟨ii,hii,h0,h1,h2⟩:=info_parts infR;obtain⟨a1,W4,hW4,v4,hv4,ho4,hg4,-⟩:=Gf (P:=eD) (w:=W) B 34 34 67 ii (eJ #[J U 0,J U 0,J U 0,J U 0,J U 0]) 5 40 Tryz.underlying34 hii h0 h1 h2 rfl (by decide) v M.length _ hv ⟨gx,0,none⟩ 1 1 (AY x) rfl (fun i u hu=>by
  rw[Bb,hx.cell,<- hu];simp[AY]) (CT.one x) (by unfold maxLen;omega) (by omega) hB
 exact⟨a1,W4,hW4,v4,hv4,by rw[Dz];simpa[ec]using ho4,((AF W).mono hB).grown hg4 hB (fun k e=>(hv.lt k e).1)⟩
attribute [local go_sem ↓] AQ AU Go.wp_at_zero Go.wp_at_succ
theorem Ts(B:Nat)(w:eB)(hB:B<=w.heap.size)(v:eA)(M:List (AD))(hn:M.length<=100000)(i:Nat)(hi:i<=M.length)(hv:w.ownsRow B 67 5 v M.length (ec AY M))(x:AD)(gx:Nat)(hx:Blk w gx 67 #[J U (x).t,J U (x).k,J U (x).a,J U (x).b,J U (x).c])(hgx:v.ownBlock≠some gx) :
  eH eD 240 #[v,J U (i:Int),eC (some ⟨gx,0,none⟩) 1 1] w fun e w'=>∃ u,e=eG u/\w'.ownsRow B 67 5 u (M.length+1) (ec AY (M.take i++x::M.drop i))/\eE B w w':=by
 obtain⟨a1,W4,hW4,v4,hv4,ho4,hb4⟩:=appER B w hB v M hn hv x gx hx;have HO4:=Wz ho4;have HB4:=Wz hb4;by_cases h0:M.length=0
 ·obtain rfl:M=[]:=List.eq_nil_of_length_eq_zero h0;obtain rfl:i=0:=by simpa using hi
  obtain⟨A,c,rfl⟩:=AI hv;obtain⟨A4,c4,rfl⟩:=AI ho4;dsimp only[List.length_nil]at *;rw[show((0:Nat):Int)=0 from rfl];clear hv hx ho4 hb4
  cases A with
  | none=>
   go_enter Tryz.func240,Tryz.ntmps240;go_wp2;go_ret;exact⟨_,rfl,HO4.out,HB4.out⟩
  | some a=>
   go_enter Tryz.func240,Tryz.ntmps240;go_wp2;go_ret;exact⟨_,rfl,HO4.out,HB4.out⟩
 obtain⟨g,cap,rfl,ho⟩:=GJ CT hv (by omega);have hncap:=ho.2.1;have hcmax:=ho.2.2.1;by_cases hin:i=M.length
 ·subst hin;have HLI:=Wz (show M.take M.length++x::M.drop M.length=M++[x]by simp);have hs1:=Gg g M.length cap M.length (M.length:Int) rfl (Nat.le_refl _);obtain⟨A4,c4,rfl⟩:=AI ho4;clear hv hx ho4 hb4 ho hgx;go_enter Tryz.func240,Tryz.ntmps240;go_wp2;go_ret;exact⟨_,rfl,by rw[HLI.out];exact HO4.out,HB4.out⟩
 clear a1 hW4 hv4 ho4 hb4 HO4 HB4;have hlt:i<M.length:=by omega
 have hgn:g≠gx:=fun e=>hgx (by rw[e];rfl);obtain⟨cur,hC,hcs⟩:=ho.blk;have hshx:w.shape? gx=some (67,5):=by have:=hx;unfold Blk at this;simp[World.shape?,this]
 have hshg:w.shape? g=some (67,cur.size):=by have:=hC;unfold Blk at this;simp[World.shape?,this]
 have hk0:cur.size≠0:=by rw[hcs];exact Nat.mul_ne_zero (by omega) (by decide)
 have hov:∀ lb cb,(callFunc 249 #[eC (some ⟨gx,0,none⟩) 1 1,eC (some ⟨g,C0 5 cap (i+1),none⟩) lb cb]).run eD w=.ok (.value (.bool false)) w:=fun lb cb=>by
  rw[run_callFunc_extern Tryz.func249 (by kernel_rfl) (by kernel_rfl) (by kernel_rfl) (e:=Extern.SlicesOverlaps.overlaps #[34,34] #[4]) (by kernel_rfl),
   Lib.run_overlaps_apart w 34 4 67 Tryz.underlying34 5 MU ⟨gx,0,none⟩ ⟨g,C0 5 cap (i+1),none⟩ 1 1 lb cb (fun e=>hgn e.symm) _ _ _ _ hshx hshg hk0 (hx.frozen 0) (hx.frozen 5)]
  rfl
 have q0:(0:Int)<=(i:Int):=by omega
 have hii:((i:Int) == (M.length:Int))=false:=by simp;omega
 have e1:IntKind.i64.wrap ((i:Int)+1)=(i:Int)+1:=eI _ (by omega);have en:IntKind.i64.wrap ((M.length:Int)+1)=(M.length:Int)+1:=eI _ (by omega);have hs0:=Gg g M.length cap i (i:Int) rfl hi;by_cases hr:M.length+1<=cap
 ·have hgt:decide ((cap:Int)<(M.length:Int)+1)=false:=decide_eq_false (by omega);have hs2:=PZ g M.length cap (M.length+1) ((M.length:Int)+1) rfl hr;have hs3:=Gg g (M.length+1) cap (i+1) ((i:Int)+1) rfl (by omega);have hs4:=Gg g (M.length+1) cap i (i:Int) rfl (by omega);obtain⟨W1,WF,hcp1,hcp2,hfin,hbe⟩:=QU (P:=eD) CT Tryz.underlying34 szR hB ho i hlt x hx rfl hgn hr;have HFI:=Wz hfin;have HBE:=Wz hbe;clear hx hv ho hC hcs hshx hshg hfin hbe hgx hk0;go_enter Tryz.func240,Tryz.ntmps240;go_wp2_with (simp only[hov])
  refine DM (fun _=>True) [] (by kernel_rfl) ?_;refine AM 0 (some 69) (v:=?_) rfl rfl (by kernel_rfl) (fun _ _ _ h=>h) (fun _=>(by exact True.intro)) (Or.inl ⟨(by kernel_rfl),?_⟩) ?_;rotate_left 1
  ·(rintro w' -;go_simp;with_reducible rfl)
  refine AM 1 (some 70) (v:=?_) rfl rfl (by kernel_rfl) (fun _ _ _ h=>h) (fun _=>(by exact True.intro)) (Or.inl ⟨(by kernel_rfl),?_⟩) ?_;rotate_left 1
  ·(rintro w' -;go_simp;with_reducible rfl)
  refine AM 2 (some 71) (v:=?_) rfl rfl (by kernel_rfl) (fun _ _ _ h=>h) (fun _=>(by exact True.intro)) (Or.inl ⟨(by kernel_rfl),?_⟩) ?_;rotate_left 1
  ·(rintro w' -;go_simp;with_reducible rfl)
  refine AM 3 (some 72) (v:=?_) rfl rfl (by kernel_rfl) (fun _ _ _ h=>h) (fun _=>(by exact True.intro)) (Or.inl ⟨(by kernel_rfl),?_⟩) ?_;rotate_left 1
  ·(rintro w' -;go_simp;with_reducible rfl)
  refine AM 4 (some 73) (v:=?_) rfl rfl (by kernel_rfl) (fun _ _ _ h=>h) (fun _=>(by exact True.intro)) (Or.inl ⟨(by kernel_rfl),?_⟩) ?_;rotate_left 1
  ·(rintro w' -;go_simp;with_reducible rfl)
  refine AM 5 (some 74) (v:=?_) rfl rfl (by kernel_rfl) (fun _ _ _ h=>h) (fun _=>(by exact True.intro)) (Or.inl ⟨(by kernel_rfl),?_⟩) ?_;rotate_left 1
  ·(rintro w' -;go_simp;with_reducible rfl)
  refine AM 6 (some 75) (v:=?_) rfl rfl (by kernel_rfl) (fun _ _ _ h=>h) (fun _=>(by exact True.intro)) (Or.inl ⟨(by kernel_rfl),?_⟩) ?_;rotate_left 1
  ·(rintro w' -;go_simp;with_reducible rfl)
  refine AM 7 (some 76) (v:=?_) rfl rfl (by kernel_rfl) (fun _ _ _ h=>h) (fun _=>(by exact True.intro)) (Or.inl ⟨(by kernel_rfl),?_⟩) ?_;rotate_left 1
  ·(rintro w' -;go_simp;with_reducible rfl)
  refine Ch [8] (by kernel_rfl) (by simp) ?_;simp only[List.forall_mem_cons,List.not_mem_nil,false_implies,implies_true,and_true];refine AO rfl (by kernel_rfl) (fun K hK=>?_);refine Fp _ _ _ 34 rfl _ _ (by simp[Act.eval,Act.put]) (by simp[Act.eval,Act.put]) (hcp1 _) ?_;refine hK _ _ ⟨True.intro,?_⟩;clear hK K;refine EF (by kernel_rfl) ?_ _;go_wp2_with (at_builtin;refine F6 _ rfl _ _ 34 rfl _ _ rfl rfl (hcp2 _) ?_)
  go_ret;exact⟨_,rfl,HFI.out,HBE.out⟩
 have hgt:decide ((cap:Int)<(M.length:Int)+1)=true:=decide_eq_true (by omega);have hs2:=PZ g M.length cap i (i:Int) rfl (by omega);have hkw:IntKind.i64.wrap ((M.length:Int)+1-(i:Int))=(M.length:Int)+1-(i:Int):=eI _ (by omega);obtain⟨ii,hii0,hz0,hz1,hz2⟩:=info_parts infR;obtain⟨g2,G,W2,W3,WF,hrz,hcp1,hcp2,hGn,hfin,hbe⟩:=QV (P:=eD) CT Tryz.underlying34 Tryz.underlying3 hii0 hz0 hz1 rfl (by rw[hz2];decide) (by rw[hz2];decide) hB ho i hlt hn x hx rfl (by omega);have hs5:=Gg g2 (M.length+1) G i (i:Int) rfl (by omega);have hs6:=Gg g2 (M.length+1) G (i+1) ((i:Int)+1) rfl (by omega);have HFI:=Wz hfin;have HBE:=Wz hbe;clear hov hx hv ho hC hcs hshx hshg hfin hbe hgx hk0 hGn hii0 hz0 hz1 hz2;go_enter Tryz.func240,Tryz.ntmps240;go_wp2_with (first|(at_builtin;refine Lib.wpList_append_run _ rfl _ _ _ _ rfl _ _ rfl rfl _ _ (hrz _) ?_)|(at_builtin;refine F6 _ rfl _ _ 34 rfl _ _ rfl rfl (hcp1 _) ?_))
 refine DM (fun _=>True) [] (by kernel_rfl) ?_;refine AM 0 (some 46) (v:=?_) rfl rfl (by kernel_rfl) (fun _ _ _ h=>h) (fun _=>(by exact True.intro)) (Or.inl ⟨(by kernel_rfl),?_⟩) ?_;rotate_left 1
 ·(rintro w' -;go_simp;with_reducible rfl)
 refine AM 1 (some 47) (v:=?_) rfl rfl (by kernel_rfl) (fun _ _ _ h=>h) (fun _=>(by exact True.intro)) (Or.inl ⟨(by kernel_rfl),?_⟩) ?_;rotate_left 1
 ·(rintro w' -;go_simp;with_reducible rfl)
 refine AM 2 (some 48) (v:=?_) rfl rfl (by kernel_rfl) (fun _ _ _ h=>h) (fun _=>(by exact True.intro)) (Or.inl ⟨(by kernel_rfl),?_⟩) ?_;rotate_left 1
 ·(rintro w' -;go_simp;with_reducible rfl)
 refine AM 3 (some 49) (v:=?_) rfl rfl (by kernel_rfl) (fun _ _ _ h=>h) (fun _=>(by exact True.intro)) (Or.inl ⟨(by kernel_rfl),?_⟩) ?_;rotate_left 1
 ·(rintro w' -;go_simp;with_reducible rfl)
 refine AM 4 (some 50) (v:=?_) rfl rfl (by kernel_rfl) (fun _ _ _ h=>h) (fun _=>(by exact True.intro)) (Or.inl ⟨(by kernel_rfl),?_⟩) ?_;rotate_left 1
 ·(rintro w' -;go_simp;with_reducible rfl)
 refine AM 5 (some 51) (v:=?_) rfl rfl (by kernel_rfl) (fun _ _ _ h=>h) (fun _=>(by exact True.intro)) (Or.inl ⟨(by kernel_rfl),?_⟩) ?_;rotate_left 1
 ·(rintro w' -;go_simp;with_reducible rfl)
 refine AM 6 (some 52) (v:=?_) rfl rfl (by kernel_rfl) (fun _ _ _ h=>h) (fun _=>(by exact True.intro)) (Or.inl ⟨(by kernel_rfl),?_⟩) ?_;rotate_left 1
 ·(rintro w' -;go_simp;with_reducible rfl)
 refine AM 7 (some 53) (v:=?_) rfl rfl (by kernel_rfl) (fun _ _ _ h=>h) (fun _=>(by exact True.intro)) (Or.inl ⟨(by kernel_rfl),?_⟩) ?_;rotate_left 1
 ·(rintro w' -;go_simp;with_reducible rfl)
 refine Ch [8] (by kernel_rfl) (by simp) ?_;simp only[List.forall_mem_cons,List.not_mem_nil,false_implies,implies_true,and_true];refine AO rfl (by kernel_rfl) (fun K hK=>?_);refine Fp _ _ _ 34 rfl _ _ (by simp[Act.eval,Act.put]) (by simp[Act.eval,Act.put]) (hcp2 _) ?_;refine hK _ _ ⟨True.intro,?_⟩;clear hK K;refine EF (by kernel_rfl) ?_ _;go_wp2;go_ret;exact⟨_,rfl,HFI.out,HBE.out⟩
theorem Rs{B:Nat}{w:eB}(hB:B<=w.heap.size){I:eB->Prop}{fn:Nat}{caps:Array eA}{p:AD->Bool}(hf:FnB AD.val w.heap.size I fn caps p)(M:List (AD))(hn:M.length<=100000)(v:eA)(hI:I w)(hv:w.ownsRow B 67 5 v M.length (ec AY M))(x:AD) :
  eH eD 234 #[v,eJ #[J U (x).t,J U (x).k,J U (x).a,J U (x).b,J U (x).c],.func (.func fn) #[] caps] w fun e w'=>∃ u,e=eG u/\w'.ownsRow B 67 5 u (M.length+1) (ec AY (I5 p x M))/\eE B w w':=by
 have HB:=Wz hB;have HX:=Wz (Pa hf M v (w.alloc (eF #[J U (x).t,J U (x).k,J U (x).a,J U (x).b,J U (x).c] 67)) (AK hv (AC _ _)) (hf.keeps _ _ hI (AC _ _)) hn);have HV:=Wz hv;have HLT:=Wz (fun g (h:v.ownBlock=some g)=>(hv.lt g h).2);have hz:=Hp p M;have HIP:=Wz (show I5 p x M=M.take (M.findIdx p)++x::M.drop (M.findIdx p)from rfl);generalize Dp p M=z at hz HX;generalize M.findIdx p=i at hz HIP;have HZ:=Wz hz;obtain⟨A,c,rfl⟩:=AI hv;clear hf hI hv hB hz;go_enter Tryz.func234,Tryz.ntmps234;go_wp2_with fail
 refine HX.out.mono ?_;rintro e W1 ⟨rfl,hb1⟩;have hE1:=AA (AC w (eF #[J U (x).t,J U (x).k,J U (x).a,J U (x).b,J U (x).c] 67)) hb1;have HP:=Wz ((Blk.new w 67 #[J U (x).t,J U (x).k,J U (x).a,J U (x).b,J U (x).c]).ext hb1);have HX2:=Wz (fun hi:i<=M.length=>Ts B (W1.alloc (eF #[J U (x).t,J U (x).k,J U (x).a,J U (x).b,J U (x).c] 67)) (by rw[World.size_alloc];have:=hE1.size;have:=HB.out;omega) (eC A M.length c) M hn i hi (AK (AK HV.out hE1) (AC _ _)) x W1.heap.size (Blk.new _ _ _) (fun h=>by have:=HLT.out _ h;have:=hE1.size;omega));have HE1:=Wz (AB hE1 (eF #[J U (x).t,J U (x).k,J U (x).a,J U (x).b,J U (x).c] 67));clear hb1 hE1 HX;have p0:=HP.out.cell 0;have p1:=HP.out.cell 1;have p2:=HP.out.cell 2;have p3:=HP.out.cell 3;have p4:=HP.out.cell 4;rcases HZ.out with⟨h1,h2⟩|⟨h1,h2⟩
 ·rw[h2]at HX2 HIP;clear h2;go_wp2_with fail
  refine(HX2.out (Nat.le_refl _)).mono ?_;rintro e W2 ⟨u,rfl,hu,hb2⟩;have HU:=Wz hu;have HE2:=Wz ((HE1.out.mono HB.out).trans hb2);obtain⟨A2,c2,rfl⟩:=AI hu;clear hu hb2;go_wp2;go_ret;exact⟨_,rfl,by rw[HIP.out];exact HU.out,HE2.out⟩
 have h3:¬ z<0:=by omega
 have H2:=Wz h2;rw[h1]at h3;rw[h1];clear h1 h2;go_wp2_with fail
 refine(HX2.out (Nat.le_of_lt H2.out)).mono ?_;rintro e W2 ⟨u,rfl,hu,hb2⟩;have HU:=Wz hu;have HE2:=Wz ((HE1.out.mono HB.out).trans hb2);obtain⟨A2,c2,rfl⟩:=AI hu;clear hu hb2;go_wp2;go_ret;exact⟨_,rfl,by rw[HIP.out];exact HU.out,HE2.out⟩
end
section
open Go.RowKit Go.Shelf
def Ca(x:AD × AD):List eA:=AY x.1++AY x.2
def Fq(x:AD × AD):eA:=eJ #[J U x.1.t,J U x.1.k,J U x.1.a,J U x.1.b,J U x.1.c,J U x.2.t,J U x.2.k,J U x.2.a,J U x.2.b,J U x.2.c]
theorem AL:Dt (Ca:AD × AD->List eA) 10:=⟨fun _=>rfl,fun x u hu=>by
 simp[Ca,AY]at hu;rcases hu with rfl|rfl|rfl|rfl|rfl|rfl|rfl|rfl|rfl|rfl <;> rfl,by decide⟩
theorem Wh:(Tryz.prog.info? 340).map (fun i=>(i.zero,i.size,i.bytes))=some (some (eJ #[J U 0,J U 0,J U 0,J U 0,J U 0,J U 0,J U 0,J U 0,J U 0,J U 0]),10,80):=by kernel_rfl
theorem szP:(Tryz.prog.info? 340).map (·.size)=some 10:=by kernel_rfl
theorem MV(w:eB):(Go.sizeOf 340).run eD w=.ok 10 w:=by kernel_rfl
theorem Wi(w:eB):(zeroValue 340).run eD w=.ok (eJ #[J U 0,J U 0,J U 0,J U 0,J U 0,J U 0,J U 0,J U 0,J U 0,J U 0]) w:=by kernel_rfl
theorem Pb(a:Nat)(n c m:Nat)(z:Int)(hz:z=(m:Int))(hm:m<=c)(w:eB):(Instr.slice 338 (eC (some ⟨a,0,none⟩) n c) none (some (J U z)) none).run eD w=.ok (eC (some ⟨a,0,none⟩) m c) w:=by
 have hel:Tryz.prog.elem 338=340:=by kernel_rfl
 subst hz;have h:=Go.run_slice_h (P:=eD) (w:=w) 338 (some ⟨a,0,none⟩) n c (by rw[hel];exact Tryz.underlying338) .i64 (m:Int) (by omega) (by omega);rw[h,hel];simp[MV,Result.andThen,sliced,Addr.add]
theorem Gh(a:Nat)(n c m:Nat)(z:Int)(hz:z=(m:Int))(hm:m<=n)(w:eB):(Instr.slice 338 (eC (some ⟨a,0,none⟩) n c) (some (J U z)) none none).run eD w=.ok (eC (some ⟨a,C0 10 c m,none⟩) (Bq n m) (Bq c m)) w:=by
 have hel:Tryz.prog.elem 338=340:=by kernel_rfl
 subst hz;have h:=Go.run_slice_l (P:=eD) (w:=w) 338 (some ⟨a,0,none⟩) n c (by rw[hel];exact Tryz.underlying338) .i64 (m:Int) (by omega) (by omega);rw[h,hel];by_cases hc:c=m <;> simp[MV,Result.andThen,sliced,Addr.add,C0,Bq,hc] <;> omega
theorem Wj(a o m c:Nat)(cur:Array eA)(W:eB)(hB:Blk W a 340 cur)(hs:o+m*10<=cur.size) :
  ∃ zs:List eA,zs.length=m*10/\∀ ty:TypeId,(Builtin.clear_ #[338] ty #[eC (some ⟨a,o,none⟩) m c]).run eD W=.ok (.tuple #[]) (W.setCells a o zs):=by
 cases m with
 | zero=>exact⟨[],by simp,fun ty=>by simp[Builtin.clear_,run_underlying Tryz.underlying338];rfl⟩
 | succ m=>
 have hzl:(Builtin.zeroCells (Value.agg #[J U 0,J U 0,J U 0,J U 0,J U 0,J U 0,J U 0,J U 0,J U 0,J U 0]).cells (m+1)).toList.length=(m+1)*10:=by simp[Builtin.zeroCells,Value.cells]
 have h1:∀ u ∈ (Builtin.zeroCells (Value.agg #[J U 0,J U 0,J U 0,J U 0,J U 0,J U 0,J U 0,J U 0,J U 0,J U 0]).cells (m+1)).toList,u.oneCell'=true:=by
  intro u hu;simp only[Builtin.zeroCells,Value.cells,Array.toList_map,List.mem_map]at hu;obtain⟨i,_,rfl⟩:=hu;have hi:i % 10<10:=Nat.mod_lt _ (by decide);show(#[J U 0,J U 0,J U 0,J U 0,J U 0,J U 0,J U 0,J U 0,J U 0,J U 0]:Array eA)[i % 10]!.oneCell'=true;generalize i % 10=j at hi
  match j,hi with
  | 0,_=>rfl
  | 1,_=>rfl
  | 2,_=>rfl
  | 3,_=>rfl
  | 4,_=>rfl
  | 5,_=>rfl
  | 6,_=>rfl
  | 7,_=>rfl
  | 8,_=>rfl
  | 9,_=>rfl
 have hst:=run_storeCells_cells (P:=eD) a o _ 0 W (fun j hj=>by
  rw[hzl]at hj;rw[Nat.add_zero,hB.cell,Array.getElem?_eq_getElem (by omega)];rfl) (fun j hj=>hB.frozen _) h1
 refine⟨_,hzl,fun ty=>?_⟩;rw[Nat.add_zero]at hst;simp[Builtin.clear_,run_underlying Tryz.underlying338,Wi,hst]
theorem Rt{α:Type}{p:α->Bool}{l:List α}(h:l.any p=false):Dp p l = -1:=by
 have:l.findIdx? p=none:=List.findIdx?_eq_none_iff.2 (fun x hx=>by
  have:=List.any_eq_false.1 h x hx;simpa using this)
 unfold Dp;rw[this]
theorem Ru{α:Type}{p:α->Bool}{l:List α}{k:Nat}{r:α}(h:(l.take k).any p=false)(hr:l[k]? = some r)(hp:p r=true):Dp p l=(k:Int):=by
 have hk:=(List.getElem?_eq_some_iff.1 hr).1;have : l.findIdx? p = some k := by
  rw[List.findIdx?_eq_some_iff_getElem];refine⟨hk,by rw[(List.getElem?_eq_some_iff.1 hr).2];exact hp,fun j hj=>?_⟩;have h1:=List.any_eq_false.1 h l[j] (by
   rw[List.mem_take_iff_getElem];exact⟨j,by omega,rfl⟩)
  simpa using h1
 unfold Dp;rw[this]
theorem MW{B B2:Nat}{I:eB->Prop}{fn:Nat}{caps:Array eA}{p:AD × AD->Bool}(hf:FnB Fq B2 I fn caps p)(l:List (AD × AD))(v:eA)(w:eB)(hv:w.ownsRow B 340 10 v l.length (ec Ca l))(hI:I w)(hn:l.length<=100000) :
  eH eD 245 #[v,.func (.func fn) #[] caps] w fun e w'=>e=eG (J U (Dp p l))/\eE w.heap.size w w':=by
 have HI:=Wz hI;have HF:=Wz hf;have eg:=hf.enters;have HL:=Wz (fun h0:0<l.length=>GJ AL hv h0);obtain⟨A,c,rfl⟩:=AI hv;clear hI hf hv;go_enter Tryz.func245,Tryz.ntmps245;go_wp2;go_loopw [8] (fun iv W=>∃ k:Nat,k<=l.length/\iv=J U (k:Int)/\(l.take k).any p=false/\eE w.heap.size w W) (fun iv _=>l.length-(intOf iv).toNat)
 case atStart=>exact⟨0,Nat.zero_le _,rfl,by simp,AF _⟩
 case round=>
  obtain⟨k,hk,rfl,hno,hE⟩:=hrel;have HNO:=Wz hno;have HE:=Wz hE;clear hno hE;by_cases hlt:k<l.length
  ·obtain⟨r,hr⟩:∃ r,l[k]? = some r:=⟨_,eK hlt⟩;obtain⟨g,c',hA,ho⟩:=HL.out (by omega);injection hA with hA hn' hc'
   subst hA;subst hc';clear hn';have ho2:=ho.ext HE.out;have c0:=ho2.cell AL hr 0 (by decide);have c1:=ho2.cell AL hr 1 (by decide);have c2:=ho2.cell AL hr 2 (by decide);have c3:=ho2.cell AL hr 3 (by decide);have c4:=ho2.cell AL hr 4 (by decide);have c5:=ho2.cell AL hr 5 (by decide);have c6:=ho2.cell AL hr 6 (by decide);have c7:=ho2.cell AL hr 7 (by decide);have c8:=ho2.cell AL hr 8 (by decide);have c9:=ho2.cell AL hr 9 (by decide);have HR:=Wz hr;have HT:=Wz (HF.out.tells r wr (HF.out.keeps _ _ HI.out (HE.out.mono (HF.out.size _ HI.out))));have htk:=List.take_add_one (i:=k) (l:=l);rw[hr]at htk;have HTK:=Wz htk;obtain⟨px,hp⟩:∃ px,p r=px:=⟨_,rfl⟩;have HP:=Wz hp;rw[hp]at HT;clear hp;obtain⟨⟨r0,r1,r2,r3,r4⟩,⟨s0,s1,s2,s3,s4⟩⟩:=r;simp only[AY,Ca,List.getElem?_cons_zero,List.getElem?_cons_succ,List.cons_append,List.nil_append,Nat.add_zero]at c0 c1 c2 c3 c4 c5 c6 c7 c8 c9;have d1:decide ((k:Int)<(l.length:Int))=true:=by simp;omega
   have q0:(0:Int)<=(k:Int):=by omega
   have q1:(k:Int)<(l.length:Int):=by omega
   clear hr htk ho ho2;go_wp2_with fail
   refine HT.out.mono ?_;rintro e W2 ⟨rfl,hb2⟩;have HE2:=Wz (AA HE.out hb2);clear hb2
   cases px with
   | true=>
    go_wp2;go_ret;exact⟨by rw[Ru HNO.out HR.out HP.out];rfl,HE2.out⟩
   | false=>
    go_wp2;go_roundw
    case rel=>exact⟨k+1,by omega,by go_num,by rw[HTK.out,List.any_append,HNO.out];simpa using HP.out,HE2.out⟩
    simp[intOf];omega
  have HNO2:=Wz (show l.any p=false by rw[<- HNO.out,List.take_of_length_le (by omega)]);have d1:decide ((k:Int)<(l.length:Int))=false:=by simp;omega
  go_wp2;go_ret;exact⟨by rw[Rt HNO2.out];rfl,HE.out⟩
theorem Tt{B:Nat}{I:eB->Prop}{fn:Nat}{caps:Array eA}{p:AD × AD->Bool}(hf:FnB Fq B I fn caps p)(M:List (AD × AD))(hn:M.length<=100000)(g cap:Nat)(w:eB)(hI:I w)(ho:CA Ca 10 B 340 w g cap M) :
  eH eD 251 #[eC (some ⟨g,0,none⟩) M.length cap,.func (.func fn) #[] caps] w fun e w'=>e=eG (eC (some ⟨g,0,none⟩) (M.filter (fun x => !p x)).length cap)/\CA Ca 10 B 340 w' g cap (M.filter (fun x => !p x))/\eE B w w':=by
 have HIX:=Wz (MW hf M _ w (ho.own AL) hI hn);have HO:=Wz ho;have HI:=Wz hI;have HF:=Wz hf;have HBW:=Wz (hf.size w hI);have HBG:=Wz ho.1;have HCP:=Wz ho.2.1;have eg:=hf.enters;clear ho hI hf;go_enter Tryz.func251,Tryz.ntmps251;go_wp2_with fail
 refine HIX.out.mono ?_;rintro e W1 ⟨rfl,hb1⟩;have HO1:=Wz (HO.out.ext hb1);have HE1:=Wz (hb1.mono HBW.out);clear hb1 HIX HO
 cases hix:M.findIdx? p with
 | none=>
  have hid1:Dp p M = -1:=by unfold Dp;rw[hix]
  have hfl:M.filter (fun x => !p x)=M:=List.filter_eq_self.2 (fun x hx=>by simpa using List.findIdx?_eq_none_iff.1 hix x hx);have HFL:=Wz hfl;rw[hid1];clear hix hid1 hfl;go_wp2;go_ret;exact⟨by rw[HFL.out];rfl,by rw[HFL.out];exact HO1.out,HE1.out⟩
 | some i0 =>
  have hid1:Dp p M=(i0:Int):=by unfold Dp;rw[hix]
  rw[List.findIdx?_eq_some_iff_getElem]at hix;obtain⟨hlt0,hp0,hno⟩:=hix;have HF0:=Wz (show(M.take (i0+1)).filter (fun x => !p x)=M.take i0 from by
   have h1:(M.take i0).filter (fun x => !p x)=M.take i0:=List.filter_eq_self.2 (fun x hx=>by
    rw[List.mem_take_iff_getElem]at hx;obtain⟨j,hj,rfl⟩:=hx;simpa using hno j (by omega))
   rw[List.take_add_one,eK hlt0,List.filter_append,h1];simp[hp0])
  have HL0:=Wz hlt0;rw[hid1];clear hid1 hno hp0;have hi0:IntKind.i64.wrap ((i0:Int)+1)=(i0:Int)+1:=eI _ (by omega);have hi1:((i0:Int) == -1)=false:=by simp
  go_wp2;go_loopw [5,6,7] (fun iv jv _ W=>∃(i j:Nat) (X:List (AD × AD)),i<j/\j<=M.length/\iv=J U (i:Int)/\jv=J U (j:Int)/\((M.take j).filter (fun x => !p x)).length=i/\X.length+i=j/\CA Ca 10 B 340 W g cap ((M.take j).filter (fun x => !p x)++X++M.drop j)/\eE B w W) (fun _ jv _ _=>M.length-(intOf jv).toNat)
  case atStart=>
   have h2:=HL0.out;refine⟨i0,i0+1,[M[i0]],by omega,by omega,rfl,by go_num,by rw[HF0.out,List.length_take];omega,by simp;omega,?_,HE1.out⟩;have h5:M.take i0++[M[i0]]++M.drop (i0+1)=M:=by rw[List.append_assoc];simp
   rw[HF0.out,h5];exact HO1.out
  case round =>
   obtain⟨i,j,X,hij,hj,rfl,rfl,hi,hX,hO,hE⟩:=hrel;have HO:=Wz hO;have HE:=Wz hE;have HBR:=Wz (Nat.le_trans HBW.out hE.size);have e1:IntKind.i64.wrap ((i:Int)+1)=(i:Int)+1:=eI _ (by omega);have e2:IntKind.i64.wrap ((j:Int)+1)=(j:Int)+1:=eI _ (by omega);by_cases hlt:j<M.length
   ·obtain⟨x,hx⟩:∃ x,M[j]? = some x:=⟨_,eK hlt⟩;have HDR:=Wz (show M.drop j=x::M.drop (j+1)by rw[List.drop_eq_getElem_cons hlt,(List.getElem?_eq_some_iff.1 hx).2]);have HTK:=Wz (show(M.take (j+1)).filter (fun x => !p x)=(M.take j).filter (fun x => !p x)++(if p x then []else [x])from Ir p hx);obtain⟨F,hF⟩:∃ F,F=(M.take j).filter (fun x => !p x):=⟨_,rfl⟩;rw[<- hF]at HO HTK hi;have hLj:(F++X++M.drop j)[j]? = some x:=by rw[HDR.out,List.getElem?_append_right (by simp;omega)];simp[show j-(F.length+X.length)=0 by omega]
    obtain⟨z,hz⟩:∃ z,(F++X++M.drop j)[i]? = some z:=⟨_,eK (by simp;omega)⟩;have HLI:=Wz (show i<(F++X++M.drop j).length by simp;omega);have HCI:=Wz (fun(W:eB)(ho:CA Ca 10 B 340 W g cap (F++X++M.drop j))(q:Nat)(hq:q<10)=>ho.cell AL hz q hq);have c0:=HO.out.cell AL hLj 0 (by decide);have c1:=HO.out.cell AL hLj 1 (by decide);have c2:=HO.out.cell AL hLj 2 (by decide);have c3:=HO.out.cell AL hLj 3 (by decide);have c4:=HO.out.cell AL hLj 4 (by decide);have c5:=HO.out.cell AL hLj 5 (by decide);have c6:=HO.out.cell AL hLj 6 (by decide);have c7:=HO.out.cell AL hLj 7 (by decide);have c8:=HO.out.cell AL hLj 8 (by decide);have c9:=HO.out.cell AL hLj 9 (by decide);have HI2:=Wz (HF.out.keeps _ _ HI.out (show eE B w (wr.alloc (eF #[J U (x.1).t,J U (x.1).k,J U (x.1).a,J U (x.1).b,J U (x.1).c,J U (x.2).t,J U (x.2).k,J U (x.2).a,J U (x.2).b,J U (x.2).c] 340))from D0 HE.out HBR.out (AC _ _)));have HT:=Wz (HF.out.tells x);have HPX:=Wz (show p x=p x from rfl);generalize hpx:p x=px at HT HTK;have HPE:=Wz hpx;clear hpx HPX hF hx hz hLj hO hE;obtain⟨⟨r0,r1,r2,r3,r4⟩,⟨s0,s1,s2,s3,s4⟩⟩:=x;simp only[AY,Ca,List.getElem?_cons_zero,List.getElem?_cons_succ,List.cons_append,List.nil_append,Nat.add_zero]at c0 c1 c2 c3 c4 c5 c6 c7 c8 c9;have q0:(0:Int)<=(j:Int):=by omega
    have q1:(j:Int)<(M.length:Int):=by omega
    have d1:decide ((j:Int)<(M.length:Int))=true:=decide_eq_true q1;go_wp2_with fail
    refine(HT.out _ HI2.out).mono ?_;rintro e W2 ⟨rfl,hb2⟩;have HE2:=Wz (D0 (D0 HE.out HBR.out (AC wr (eF #[J U r0,J U r1,J U r2,J U r3,J U r4,J U s0,J U s1,J U s2,J U s3,J U s4] 340))) (Nat.le_trans HBR.out (AC wr (eF #[J U r0,J U r1,J U r2,J U r3,J U r4,J U s0,J U s1,J U s2,J U s3,J U s4] 340)).size) hb2);have HO2:=Wz ((HO.out.ext (AC wr (eF #[J U r0,J U r1,J U r2,J U r3,J U r4,J U s0,J U s1,J U s2,J U s3,J U s4] 340))).ext hb2);have hbox:=(Blk.new wr 340 #[J U r0,J U r1,J U r2,J U r3,J U r4,J U s0,J U s1,J U s2,J U s3,J U s4]).ext hb2;have x0:=hbox.cell 0;have x1:=hbox.cell 1;have x2:=hbox.cell 2;have x3:=hbox.cell 3;have x4:=hbox.cell 4;have x5:=hbox.cell 5;have x6:=hbox.cell 6;have x7:=hbox.cell 7;have x8:=hbox.cell 8;have x9:=hbox.cell 9;clear hb2 hbox c0 c1 c2 c3 c4 c5 c6 c7 c8 c9
    cases px with
    | true=>
     go_wp2;go_roundw
     case rel=>
      refine⟨i,j+1,X++[(⟨⟨r0,r1,r2,r3,r4⟩,⟨s0,s1,s2,s3,s4⟩⟩:AD × AD)],by omega,by omega,rfl,by go_num,by rw[HTK.out];simpa using hi,by simp;omega,?_,HE2.out⟩;rw[HTK.out];have h3:=HO2.out;rw[HDR.out]at h3;simpa using h3
     simp[intOf];omega
    | false=>
     have y0:=HCI.out W2 HO2.out 0 (by decide);have g0:=HO2.out.frozen (i*10);have y1:=HCI.out W2 HO2.out 1 (by decide);have g1:=HO2.out.frozen (i*10+1);have y2:=HCI.out W2 HO2.out 2 (by decide);have g2:=HO2.out.frozen (i*10+2);have y3:=HCI.out W2 HO2.out 3 (by decide);have g3:=HO2.out.frozen (i*10+3);have y4:=HCI.out W2 HO2.out 4 (by decide);have g4:=HO2.out.frozen (i*10+4);have y5:=HCI.out W2 HO2.out 5 (by decide);have g5:=HO2.out.frozen (i*10+5);have y6:=HCI.out W2 HO2.out 6 (by decide);have g6:=HO2.out.frozen (i*10+6);have y7:=HCI.out W2 HO2.out 7 (by decide);have g7:=HO2.out.frozen (i*10+7);have y8:=HCI.out W2 HO2.out 8 (by decide);have g8:=HO2.out.frozen (i*10+8);have y9:=HCI.out W2 HO2.out 9 (by decide);have g9:=HO2.out.frozen (i*10+9);obtain⟨⟨z0,z1,z2,z3,z4⟩,⟨z5,z6,z7,z8,z9⟩⟩:=z;simp only[AY,Ca,List.getElem?_cons_zero,List.getElem?_cons_succ,List.cons_append,List.nil_append,Nat.add_zero]at y0 y1 y2 y3 y4 y5 y6 y7 y8 y9;have p0:(0:Int)<=(i:Int):=by omega
     have p1:(i:Int)<(M.length:Int):=by omega
     go_wp2;go_roundw
     case rel=>
      have h3:=HO2.out.put AL i HLI.out (⟨⟨r0,r1,r2,r3,r4⟩,⟨s0,s1,s2,s3,s4⟩⟩:AD × AD);rw[HDR.out,<- hi,N2]at h3;refine⟨i+1,j+1,(X++[(⟨⟨r0,r1,r2,r3,r4⟩,⟨s0,s1,s2,s3,s4⟩⟩:AD × AD)]).drop 1,by omega,by omega,by go_num,by go_num,by rw[HTK.out];simp[hi],by simp;omega,?_,?_⟩
      ·rw[HTK.out];rw[<- hi];exact h3
      exact CK HBG.out (Ca (⟨⟨r0,r1,r2,r3,r4⟩,⟨s0,s1,s2,s3,s4⟩⟩:AD × AD)) (i*10) W2 HE2.out
     simp[intOf];omega
   have hjn:j=M.length:=by omega
   subst hjn;have d1:decide ((M.length:Int)<(M.length:Int))=false:=decide_eq_false (by omega);rw[List.take_length]at hi HO;rw[List.drop_length,List.append_nil]at HO;obtain⟨F,hF⟩:∃ F,F=M.filter (fun x => !p x):=⟨_,rfl⟩;have HFF:=Wz hF;rw[<- hF]at HO hi;have hlen:(F++X).length=M.length:=by simp;omega
   have hs1:=Gh g M.length cap i (i:Int) rfl (by omega);have hs2:=Pb g M.length cap i (i:Int) rfl (by have:=HCP.out;omega);obtain⟨cur,hB,hcs⟩:=HO.out.blk;obtain⟨zs,hzl,hcl⟩:=Wj g (C0 10 cap i) (Bq M.length i) (Bq cap i) cur wr hB (by rw[hcs];have:=HCP.out;unfold C0 Bq;split <;> omega);have HOZ:=Wz (HO.out.tailC AL i (by omega) zs (by rw[hzl,hlen]));have HEZ:=Wz (CK HBG.out zs (C0 10 cap i) wr HE.out);clear hO hE hF hzl hB hcs;go_wp2_with (simp only[hcl])
   go_ret;have h4:(F++X).take i=F:=by rw[<- hi];simp
   rw[<- HFF.out];exact⟨by rw[hi];rfl,by have h5:=HOZ.out;rwa [h4]at h5,HEZ.out⟩
theorem VJ(b off n c:Nat)(hn:0<n)(hn2:n<=100000)(w:eB)(hf:IE w b off (n*10)):eH eD 252 #[eC (some ⟨b,off,none⟩) n c] w fun e w'=>
  ∃ u,e=eG u/\JE w w' u b off n 10 340/\eE w.heap.size w w':=by
 obtain⟨is,his,hzs0,hzs1,hzs2⟩:=info_parts Wh;have hsn:=fun W:eB=>Lib.run_eql_slice_nil (P:=eD) W 338 340 (some ⟨b,off,none⟩) n c 0 0 Tryz.underlying338;have HOE:=Wz (show(w.alloc (eF #[] 340)).ownsRow w.heap.size 340 10 (eC (some ⟨w.heap.size,0,none⟩) 0 0) 0 []from
  ⟨rfl,.inr ⟨w.heap.size,0,#[],rfl,Nat.le_refl _,World.alloc_heap_new w _,Nat.le_refl _,Nat.zero_le _,rfl,rfl⟩⟩)
 have HNW:=Wz (hf.news (AC w (eF #[] 340)));have hml:=BH w b off (n*10);have hone:=hf.one;have HF:=Wz hf;obtain⟨xs,hxs⟩:∃ xs,xs=BD w b off (n*10):=⟨_,rfl⟩;have HXS:=Wz hxs;rw[<- hxs]at HNW hml hone;clear hf hxs;go_enter Tryz.func252,Tryz.ntmps252;go_wp2_with (at_builtin;refine wpList_append_own _ rfl (.tmp 5) (.tmp 6) 338 rfl w.heap.size 340 is (eJ #[J U 0,J U 0,J U 0,J U 0,J U 0,J U 0,J U 0,J U 0,J U 0,J U 0]) 10 80 Tryz.underlying338 his hzs0 hzs1 hzs2 rfl (by decide) (eC (some ⟨w.heap.size,0,none⟩) 0 0) 0 [] rfl HOE.out ⟨b,off,none⟩ n c xs rfl hml HNW.out hone ?_ ?_ ?_ ?_;(unfold maxLen;omega);omega;(rw[World.size_alloc];omega);intro v6 W6 ho6 hg6 _;obtain⟨A7,c7,h7⟩:=AI ho6;subst h7;have HO6:=Wz ho6;have HG6:=Wz hg6;clear hg6 ho6)
 go_ret;have ho:=HO6.out;rw[Nat.zero_add,List.nil_append]at ho;have HBW:eE w.heap.size w W6:=(AC w (eF #[] 340)).grown HG6.out (AC w (eF #[] 340)).size (fun k e=>by have e2:w.heap.size=k:=Option.some.inj e;omega);obtain⟨g,k,h1,h2,h3,h4,h5⟩:=Bj ho hn;injection h1 with h1 _ h6
 subst h1 h6;refine⟨_,rfl,⟨g,c7,rfl,h2,h3,h4,by rw[<- HXS.out];exact ho,fun i hi=>?_⟩,HBW⟩;obtain⟨v,h7,_⟩:=HF.out i hi;have h8:=h5 i v (by rw[HXS.out,BN hi,h7];rfl);rw[h8,h7]
theorem Tu(A:Option Addr)(c:Nat)(w:eB):eH eD 252 #[eC A 0 c] w fun e w'=>∃ u,e=eG u/\w'.ownsRow w.heap.size 340 10 u 0 []/\eE w.heap.size w w':=by
 cases A with
 | none=>
  have hsn:=fun W:eB=>Lib.run_eql_slice_nil (P:=eD) W 338 340 none 0 c 0 0 Tryz.underlying338;go_enter Tryz.func252,Tryz.ntmps252;go_wp2;go_ret;exact⟨_,rfl,World.ownsRow_nil _ _ _ _,AF _⟩
 | some a=>
  have hsn:=fun W:eB=>Lib.run_eql_slice_nil (P:=eD) W 338 340 (some a) 0 c 0 0 Tryz.underlying338;go_enter Tryz.func252,Tryz.ntmps252;go_wp2;go_ret;exact⟨_,rfl,⟨rfl,.inr ⟨w.heap.size,0,#[],rfl,Nat.le_refl _,World.alloc_heap_new w _,Nat.le_refl _,Nat.zero_le _,rfl,rfl⟩⟩,AC _ _⟩
theorem CA.full{α:Type}{enc:α->List eA}{k B:Nat}{e:TypeId}{W:eB}{g cap:Nat}{M:List α}(h:Dt enc k)(ho:CA enc k B e W g cap M):IE W g 0 (M.length*k)/\BD W g 0 (M.length*k)=ec enc M:=by
 obtain⟨_,_,_,cur,R,h4,h5,h6⟩:=ho;have hl:=BS h M;have hc:∀ i,i<M.length*k->W.cell? ⟨g,0+i,none⟩=(ec enc M)[i]? := fun i hi=>by
  rw[Nat.zero_add,h4.cell,<- Array.getElem?_toList,h6,List.getElem?_append_left (by omega)]
 refine⟨fun i hi=>?_,?_⟩
 ·rw[hc i hi];have h1:i<(ec enc M).length:=by omega
  exact⟨_,eK h1,PY h M _ (List.getElem_mem h1)⟩
 apply List.ext_getElem?;intro i;by_cases hi:i<M.length*k
 ·rw[BN hi,hc i hi,eK (by omega)];rfl
 rw[List.getElem?_eq_none (by rw[BH];omega),List.getElem?_eq_none (by omega)]
theorem Pc{B:Nat}(M:List (AD × AD))(v:eA)(hl:M.length<=100000)(w:eB)(hv:w.ownsRow B 340 10 v M.length (ec Ca M)):eH eD 252 #[v] w fun e w'=>∃ u,e=eG u/\w'.ownsRow w.heap.size 340 10 u M.length (ec Ca M)/\eE w.heap.size w w':=by
 by_cases h0:0<M.length
 ·obtain⟨g,c,rfl,ho⟩:=GJ AL hv h0;have hf:=ho.full AL;refine(VJ g 0 M.length c h0 hl w hf.1).mono ?_;rintro e W ⟨u,rfl,⟨_,_,_,_,_,_,h,_⟩,hb⟩;exact⟨u,rfl,by rw[<- hf.2];exact h,hb⟩
 obtain rfl:M=[]:=List.eq_nil_of_length_eq_zero (by omega);obtain⟨A,c,rfl⟩:=AI hv;exact Tu A c w
theorem Tv{B:Nat}{I:eB->Prop}{fn:Nat}{caps:Array eA}{p:AD × AD->Bool}(hf:FnB Fq B I fn caps p)(M:List (AD × AD))(hn:M.length<=100000)(v:eA)(w:eB)(hI:I w)(hv:w.ownsRow B 340 10 v M.length (ec Ca M)) :
  eH eD 251 #[v,.func (.func fn) #[] caps] w fun e w'=>∃ u,e=eG u/\w'.ownsRow B 340 10 u (M.filter (fun x => !p x)).length (ec Ca (M.filter (fun x => !p x)))/\eE B w w':=by
 by_cases h0:0<M.length
 ·obtain⟨g,c,rfl,ho⟩:=GJ AL hv h0;exact(Tt hf M hn g c w hI ho).mono fun e W h=>⟨_,h.1,h.2.1.own AL,h.2.2⟩
 obtain rfl:M=[]:=List.eq_nil_of_length_eq_zero (by omega);have HX:=Wz (MW hf [] v w hv hI (by simp));have HV:=Wz hv;have HB:=Wz (hf.size w hI);obtain⟨A,c,rfl⟩:=AI hv;clear hf hI hv;go_enter Tryz.func251,Tryz.ntmps251;go_wp2_with fail
 refine HX.out.mono ?_;rintro e W1 ⟨rfl,hb⟩;have HO:=Wz (AK HV.out hb);have HB1:=Wz (hb.mono HB.out);rw[show Dp p ([]:List (AD × AD)) = -1 from rfl];clear hb;go_wp2;go_ret;exact⟨_,rfl,HO.out,HB1.out⟩
theorem N3{I:eB->Prop}{fn:Nat}{caps:Array eA}{p:AD × AD->Bool}{w:eB}(hf:FnB Fq w.heap.size I fn caps p)(M:List (AD × AD))(hn:M.length<=100000)(v:eA)(hI:I w){B:Nat}(hv:w.ownsRow B 340 10 v M.length (ec Ca M)) :
  eH eD 242 #[v,.func (.func fn) #[] caps] w fun e w'=>∃ u,e=eG u/\w'.ownsRow w.heap.size 340 10 u (M.filter (fun x => !p x)).length (ec Ca (M.filter (fun x => !p x)))/\eE w.heap.size w w':=by
 have HCL:=Wz (Pc M v hn w hv);have HF:=Wz hf;have HI:=Wz hI;obtain⟨A,c,rfl⟩:=AI hv;clear hf hI;go_enter Tryz.func242,Tryz.ntmps242;go_wp2_with fail
 refine HCL.out.mono ?_;rintro e W1 ⟨u,rfl,hu,hb1⟩;have HX:=Wz (Tv HF.out M hn u W1 (HF.out.keeps _ _ HI.out hb1) hu);have HE1:=Wz hb1;obtain⟨Au,cu,rfl⟩:=AI hu;clear hu hb1;go_wp2_with fail
 refine HX.out.mono ?_;rintro e W2 ⟨u2,rfl,hu2,hb2⟩;have HU2:=Wz hu2;have HE2:=Wz (HE1.out.trans hb2);obtain⟨A2,c2,rfl⟩:=AI hu2;clear hu2 hb2;go_wp2;go_ret;exact⟨_,rfl,HU2.out,HE2.out⟩
theorem Vq(B:Nat)(W:eB)(hB:B<=W.heap.size)(v:eA)(M:List (AD × AD))(hn:M.length<=100000)(hv:W.ownsRow B 340 10 v M.length (ec Ca M))(x:AD × AD)(gx:Nat)(hx:Blk W gx 340 #[J U (x.1).t,J U (x.1).k,J U (x.1).a,J U (x.1).b,J U (x.1).c,J U (x.2).t,J U (x.2).k,J U (x.2).a,J U (x.2).b,J U (x.2).c]) :
  CU eD W 338 338 v (eC (some ⟨gx,0,none⟩) 1 1)/\∃ W',appW eD W 338 338 v (eC (some ⟨gx,0,none⟩) 1 1)=W'/\∃ v',CV eD W 338 338 v (eC (some ⟨gx,0,none⟩) 1 1)=v'/\W'.ownsRow B 340 10 v' (M.length+1) (ec Ca (M++[x]))/\eE B W W':=by
 obtain⟨ii,hii,h0,h1,h2⟩:=info_parts Wh;obtain⟨a1,W4,hW4,v4,hv4,ho4,hg4,-⟩:=Gf (P:=eD) (w:=W) B 338 338 340 ii (eJ #[J U 0,J U 0,J U 0,J U 0,J U 0,J U 0,J U 0,J U 0,J U 0,J U 0]) 10 80 Tryz.underlying338 hii h0 h1 h2 rfl (by decide) v M.length _ hv ⟨gx,0,none⟩ 1 1 (Ca x) rfl (fun i u hu=>by
  rw[Bb,hx.cell,<- hu];simp[Ca,AY]) (AL.one x) (by unfold maxLen;omega) (by omega) hB
 exact⟨a1,W4,hW4,v4,hv4,by rw[Dz];simpa[ec]using ho4,((AF W).mono hB).grown hg4 hB (fun k e=>(hv.lt k e).1)⟩
attribute [local go_sem ↓] AQ AU Go.wp_at_zero Go.wp_at_succ
theorem Tw(B:Nat)(w:eB)(hB:B<=w.heap.size)(v:eA)(M:List (AD × AD))(hn:M.length<=100000)(i:Nat)(hi:i<=M.length)(hv:w.ownsRow B 340 10 v M.length (ec Ca M))(x:AD × AD)(gx:Nat)(hx:Blk w gx 340 #[J U (x.1).t,J U (x.1).k,J U (x.1).a,J U (x.1).b,J U (x.1).c,J U (x.2).t,J U (x.2).k,J U (x.2).a,J U (x.2).b,J U (x.2).c])(hgx:v.ownBlock≠some gx) :
  eH eD 253 #[v,J U (i:Int),eC (some ⟨gx,0,none⟩) 1 1] w fun e w'=>∃ u,e=eG u/\w'.ownsRow B 340 10 u (M.length+1) (ec Ca (M.take i++x::M.drop i))/\eE B w w':=by
 obtain⟨a1,W4,hW4,v4,hv4,ho4,hb4⟩:=Vq B w hB v M hn hv x gx hx;have HO4:=Wz ho4;have HB4:=Wz hb4;by_cases h0:M.length=0
 ·obtain rfl:M=[]:=List.eq_nil_of_length_eq_zero h0;obtain rfl:i=0:=by simpa using hi
  obtain⟨A,c,rfl⟩:=AI hv;obtain⟨A4,c4,rfl⟩:=AI ho4;dsimp only[List.length_nil]at *;rw[show((0:Nat):Int)=0 from rfl];clear hv hx ho4 hb4
  cases A with
  | none=>
   go_enter Tryz.func253,Tryz.ntmps253;go_wp2;go_ret;exact⟨_,rfl,HO4.out,HB4.out⟩
  | some a=>
   go_enter Tryz.func253,Tryz.ntmps253;go_wp2;go_ret;exact⟨_,rfl,HO4.out,HB4.out⟩
 obtain⟨g,cap,rfl,ho⟩:=GJ AL hv (by omega);have hncap:=ho.2.1;have hcmax:=ho.2.2.1;by_cases hin:i=M.length
 ·subst hin;have HLI:=Wz (show M.take M.length++x::M.drop M.length=M++[x]by simp);have hs1:=Gh g M.length cap M.length (M.length:Int) rfl (Nat.le_refl _);obtain⟨A4,c4,rfl⟩:=AI ho4;clear hv hx ho4 hb4 ho hgx;go_enter Tryz.func253,Tryz.ntmps253;go_wp2;go_ret;exact⟨_,rfl,by rw[HLI.out];exact HO4.out,HB4.out⟩
 clear a1 hW4 hv4 ho4 hb4 HO4 HB4;have hlt:i<M.length:=by omega
 have hgn:g≠gx:=fun e=>hgx (by rw[e];rfl);obtain⟨cur,hC,hcs⟩:=ho.blk;have hshx:w.shape? gx=some (340,10):=by have:=hx;unfold Blk at this;simp[World.shape?,this]
 have hshg:w.shape? g=some (340,cur.size):=by have:=hC;unfold Blk at this;simp[World.shape?,this]
 have hk0:cur.size≠0:=by rw[hcs];exact Nat.mul_ne_zero (by omega) (by decide)
 have hov:∀ lb cb,(callFunc 255 #[eC (some ⟨gx,0,none⟩) 1 1,eC (some ⟨g,C0 10 cap (i+1),none⟩) lb cb]).run eD w=.ok (.value (.bool false)) w:=fun lb cb=>by
  rw[run_callFunc_extern Tryz.func255 (by kernel_rfl) (by kernel_rfl) (by kernel_rfl) (e:=Extern.SlicesOverlaps.overlaps #[338,338] #[4]) (by kernel_rfl),
   Lib.run_overlaps_apart w 338 4 340 Tryz.underlying338 10 MV ⟨gx,0,none⟩ ⟨g,C0 10 cap (i+1),none⟩ 1 1 lb cb (fun e=>hgn e.symm) _ _ _ _ hshx hshg hk0 (hx.frozen 0) (hx.frozen 10)]
  rfl
 have q0:(0:Int)<=(i:Int):=by omega
 have hii:((i:Int) == (M.length:Int))=false:=by simp;omega
 have e1:IntKind.i64.wrap ((i:Int)+1)=(i:Int)+1:=eI _ (by omega);have en:IntKind.i64.wrap ((M.length:Int)+1)=(M.length:Int)+1:=eI _ (by omega);have hs0:=Gh g M.length cap i (i:Int) rfl hi;by_cases hr:M.length+1<=cap
 ·have hgt:decide ((cap:Int)<(M.length:Int)+1)=false:=decide_eq_false (by omega);have hs2:=Pb g M.length cap (M.length+1) ((M.length:Int)+1) rfl hr;have hs3:=Gh g (M.length+1) cap (i+1) ((i:Int)+1) rfl (by omega);have hs4:=Gh g (M.length+1) cap i (i:Int) rfl (by omega);obtain⟨W1,WF,hcp1,hcp2,hfin,hbe⟩:=QU (P:=eD) AL Tryz.underlying338 szP hB ho i hlt x hx rfl hgn hr;have HFI:=Wz hfin;have HBE:=Wz hbe;clear hx hv ho hC hcs hshx hshg hfin hbe hgx hk0;go_enter Tryz.func253,Tryz.ntmps253;go_wp2_with (simp only[hov])
  refine DM (fun _=>True) [] (by kernel_rfl) ?_;refine AM 0 (some 69) (v:=?_) rfl rfl (by kernel_rfl) (fun _ _ _ h=>h) (fun _=>(by exact True.intro)) (Or.inl ⟨(by kernel_rfl),?_⟩) ?_;rotate_left 1
  ·(rintro w' -;go_simp;with_reducible rfl)
  refine AM 1 (some 70) (v:=?_) rfl rfl (by kernel_rfl) (fun _ _ _ h=>h) (fun _=>(by exact True.intro)) (Or.inl ⟨(by kernel_rfl),?_⟩) ?_;rotate_left 1
  ·(rintro w' -;go_simp;with_reducible rfl)
  refine AM 2 (some 71) (v:=?_) rfl rfl (by kernel_rfl) (fun _ _ _ h=>h) (fun _=>(by exact True.intro)) (Or.inl ⟨(by kernel_rfl),?_⟩) ?_;rotate_left 1
  ·(rintro w' -;go_simp;with_reducible rfl)
  refine AM 3 (some 72) (v:=?_) rfl rfl (by kernel_rfl) (fun _ _ _ h=>h) (fun _=>(by exact True.intro)) (Or.inl ⟨(by kernel_rfl),?_⟩) ?_;rotate_left 1
  ·(rintro w' -;go_simp;with_reducible rfl)
  refine AM 4 (some 73) (v:=?_) rfl rfl (by kernel_rfl) (fun _ _ _ h=>h) (fun _=>(by exact True.intro)) (Or.inl ⟨(by kernel_rfl),?_⟩) ?_;rotate_left 1
  ·(rintro w' -;go_simp;with_reducible rfl)
  refine AM 5 (some 74) (v:=?_) rfl rfl (by kernel_rfl) (fun _ _ _ h=>h) (fun _=>(by exact True.intro)) (Or.inl ⟨(by kernel_rfl),?_⟩) ?_;rotate_left 1
  ·(rintro w' -;go_simp;with_reducible rfl)
  refine AM 6 (some 75) (v:=?_) rfl rfl (by kernel_rfl) (fun _ _ _ h=>h) (fun _=>(by exact True.intro)) (Or.inl ⟨(by kernel_rfl),?_⟩) ?_;rotate_left 1
  ·(rintro w' -;go_simp;with_reducible rfl)
  refine AM 7 (some 76) (v:=?_) rfl rfl (by kernel_rfl) (fun _ _ _ h=>h) (fun _=>(by exact True.intro)) (Or.inl ⟨(by kernel_rfl),?_⟩) ?_;rotate_left 1
  ·(rintro w' -;go_simp;with_reducible rfl)
  refine Ch [8] (by kernel_rfl) (by simp) ?_;simp only[List.forall_mem_cons,List.not_mem_nil,false_implies,implies_true,and_true];refine AO rfl (by kernel_rfl) (fun K hK=>?_);refine Fp _ _ _ 338 rfl _ _ (by simp[Act.eval,Act.put]) (by simp[Act.eval,Act.put]) (hcp1 _) ?_;refine hK _ _ ⟨True.intro,?_⟩;clear hK K;refine EF (by kernel_rfl) ?_ _;go_wp2_with (at_builtin;refine F6 _ rfl _ _ 338 rfl _ _ rfl rfl (hcp2 _) ?_)
  go_ret;exact⟨_,rfl,HFI.out,HBE.out⟩
 have hgt:decide ((cap:Int)<(M.length:Int)+1)=true:=decide_eq_true (by omega);have hs2:=Pb g M.length cap i (i:Int) rfl (by omega);have hkw:IntKind.i64.wrap ((M.length:Int)+1-(i:Int))=(M.length:Int)+1-(i:Int):=eI _ (by omega);obtain⟨ii,hii0,hz0,hz1,hz2⟩:=info_parts Wh;obtain⟨g2,G,W2,W3,WF,hrz,hcp1,hcp2,hGn,hfin,hbe⟩:=QV (P:=eD) AL Tryz.underlying338 Tryz.underlying3 hii0 hz0 hz1 rfl (by rw[hz2];decide) (by rw[hz2];decide) hB ho i hlt hn x hx rfl (by omega);have hs5:=Gh g2 (M.length+1) G i (i:Int) rfl (by omega);have hs6:=Gh g2 (M.length+1) G (i+1) ((i:Int)+1) rfl (by omega);have HFI:=Wz hfin;have HBE:=Wz hbe;clear hov hx hv ho hC hcs hshx hshg hfin hbe hgx hk0 hGn hii0 hz0 hz1 hz2;go_enter Tryz.func253,Tryz.ntmps253;go_wp2_with (first|(at_builtin;refine Lib.wpList_append_run _ rfl _ _ _ _ rfl _ _ rfl rfl _ _ (hrz _) ?_)|(at_builtin;refine F6 _ rfl _ _ 338 rfl _ _ rfl rfl (hcp1 _) ?_))
 refine DM (fun _=>True) [] (by kernel_rfl) ?_;refine AM 0 (some 46) (v:=?_) rfl rfl (by kernel_rfl) (fun _ _ _ h=>h) (fun _=>(by exact True.intro)) (Or.inl ⟨(by kernel_rfl),?_⟩) ?_;rotate_left 1
 ·(rintro w' -;go_simp;with_reducible rfl)
 refine AM 1 (some 47) (v:=?_) rfl rfl (by kernel_rfl) (fun _ _ _ h=>h) (fun _=>(by exact True.intro)) (Or.inl ⟨(by kernel_rfl),?_⟩) ?_;rotate_left 1
 ·(rintro w' -;go_simp;with_reducible rfl)
 refine AM 2 (some 48) (v:=?_) rfl rfl (by kernel_rfl) (fun _ _ _ h=>h) (fun _=>(by exact True.intro)) (Or.inl ⟨(by kernel_rfl),?_⟩) ?_;rotate_left 1
 ·(rintro w' -;go_simp;with_reducible rfl)
 refine AM 3 (some 49) (v:=?_) rfl rfl (by kernel_rfl) (fun _ _ _ h=>h) (fun _=>(by exact True.intro)) (Or.inl ⟨(by kernel_rfl),?_⟩) ?_;rotate_left 1
 ·(rintro w' -;go_simp;with_reducible rfl)
 refine AM 4 (some 50) (v:=?_) rfl rfl (by kernel_rfl) (fun _ _ _ h=>h) (fun _=>(by exact True.intro)) (Or.inl ⟨(by kernel_rfl),?_⟩) ?_;rotate_left 1
 ·(rintro w' -;go_simp;with_reducible rfl)
 refine AM 5 (some 51) (v:=?_) rfl rfl (by kernel_rfl) (fun _ _ _ h=>h) (fun _=>(by exact True.intro)) (Or.inl ⟨(by kernel_rfl),?_⟩) ?_;rotate_left 1
 ·(rintro w' -;go_simp;with_reducible rfl)
 refine AM 6 (some 52) (v:=?_) rfl rfl (by kernel_rfl) (fun _ _ _ h=>h) (fun _=>(by exact True.intro)) (Or.inl ⟨(by kernel_rfl),?_⟩) ?_;rotate_left 1
 ·(rintro w' -;go_simp;with_reducible rfl)
 refine AM 7 (some 53) (v:=?_) rfl rfl (by kernel_rfl) (fun _ _ _ h=>h) (fun _=>(by exact True.intro)) (Or.inl ⟨(by kernel_rfl),?_⟩) ?_;rotate_left 1
 ·(rintro w' -;go_simp;with_reducible rfl)
 refine Ch [8] (by kernel_rfl) (by simp) ?_;simp only[List.forall_mem_cons,List.not_mem_nil,false_implies,implies_true,and_true];refine AO rfl (by kernel_rfl) (fun K hK=>?_);refine Fp _ _ _ 338 rfl _ _ (by simp[Act.eval,Act.put]) (by simp[Act.eval,Act.put]) (hcp2 _) ?_;refine hK _ _ ⟨True.intro,?_⟩;clear hK K;refine EF (by kernel_rfl) ?_ _;go_wp2;go_ret;exact⟨_,rfl,HFI.out,HBE.out⟩
theorem Rv{B:Nat}{w:eB}(hB:B<=w.heap.size){I:eB->Prop}{fn:Nat}{caps:Array eA}{p:AD × AD->Bool}(hf:FnB Fq w.heap.size I fn caps p)(M:List (AD × AD))(hn:M.length<=100000)(v:eA)(hI:I w)(hv:w.ownsRow B 340 10 v M.length (ec Ca M))(x:AD × AD) :
  eH eD 247 #[v,eJ #[J U (x.1).t,J U (x.1).k,J U (x.1).a,J U (x.1).b,J U (x.1).c,J U (x.2).t,J U (x.2).k,J U (x.2).a,J U (x.2).b,J U (x.2).c],.func (.func fn) #[] caps] w fun e w'=>∃ u,e=eG u/\w'.ownsRow B 340 10 u (M.length+1) (ec Ca (I5 p x M))/\eE B w w':=by
 have HB:=Wz hB;have HX:=Wz (MW hf M v (w.alloc (eF #[J U (x.1).t,J U (x.1).k,J U (x.1).a,J U (x.1).b,J U (x.1).c,J U (x.2).t,J U (x.2).k,J U (x.2).a,J U (x.2).b,J U (x.2).c] 340)) (AK hv (AC _ _)) (hf.keeps _ _ hI (AC _ _)) hn);have HV:=Wz hv;have HLT:=Wz (fun g (h:v.ownBlock=some g)=>(hv.lt g h).2);have hz:=Hp p M;have HIP:=Wz (show I5 p x M=M.take (M.findIdx p)++x::M.drop (M.findIdx p)from rfl);generalize Dp p M=z at hz HX;generalize M.findIdx p=i at hz HIP;have HZ:=Wz hz;obtain⟨A,c,rfl⟩:=AI hv;clear hf hI hv hB hz;go_enter Tryz.func247,Tryz.ntmps247;go_wp2_with fail
 refine HX.out.mono ?_;rintro e W1 ⟨rfl,hb1⟩;have hE1:=AA (AC w (eF #[J U (x.1).t,J U (x.1).k,J U (x.1).a,J U (x.1).b,J U (x.1).c,J U (x.2).t,J U (x.2).k,J U (x.2).a,J U (x.2).b,J U (x.2).c] 340)) hb1;have HP:=Wz ((Blk.new w 340 #[J U (x.1).t,J U (x.1).k,J U (x.1).a,J U (x.1).b,J U (x.1).c,J U (x.2).t,J U (x.2).k,J U (x.2).a,J U (x.2).b,J U (x.2).c]).ext hb1);have HX2:=Wz (fun hi:i<=M.length=>Tw B (W1.alloc (eF #[J U (x.1).t,J U (x.1).k,J U (x.1).a,J U (x.1).b,J U (x.1).c,J U (x.2).t,J U (x.2).k,J U (x.2).a,J U (x.2).b,J U (x.2).c] 340)) (by rw[World.size_alloc];have:=hE1.size;have:=HB.out;omega) (eC A M.length c) M hn i hi (AK (AK HV.out hE1) (AC _ _)) x W1.heap.size (Blk.new _ _ _) (fun h=>by have:=HLT.out _ h;have:=hE1.size;omega));have HE1:=Wz (AB hE1 (eF #[J U (x.1).t,J U (x.1).k,J U (x.1).a,J U (x.1).b,J U (x.1).c,J U (x.2).t,J U (x.2).k,J U (x.2).a,J U (x.2).b,J U (x.2).c] 340));clear hb1 hE1 HX;have p0:=HP.out.cell 0;have p1:=HP.out.cell 1;have p2:=HP.out.cell 2;have p3:=HP.out.cell 3;have p4:=HP.out.cell 4;have p5:=HP.out.cell 5;have p6:=HP.out.cell 6;have p7:=HP.out.cell 7;have p8:=HP.out.cell 8;have p9:=HP.out.cell 9;rcases HZ.out with⟨h1,h2⟩|⟨h1,h2⟩
 ·rw[h2]at HX2 HIP;clear h2;go_wp2_with fail
  refine(HX2.out (Nat.le_refl _)).mono ?_;rintro e W2 ⟨u,rfl,hu,hb2⟩;have HU:=Wz hu;have HE2:=Wz ((HE1.out.mono HB.out).trans hb2);obtain⟨A2,c2,rfl⟩:=AI hu;clear hu hb2;go_wp2;go_ret;exact⟨_,rfl,by rw[HIP.out];exact HU.out,HE2.out⟩
 have h3:¬ z<0:=by omega
 have H2:=Wz h2;rw[h1]at h3;rw[h1];clear h1 h2;go_wp2_with fail
 refine(HX2.out (Nat.le_of_lt H2.out)).mono ?_;rintro e W2 ⟨u,rfl,hu,hb2⟩;have HU:=Wz hu;have HE2:=Wz ((HE1.out.mono HB.out).trans hb2);obtain⟨A2,c2,rfl⟩:=AI hu;clear hu hb2;go_wp2;go_ret;exact⟨_,rfl,by rw[HIP.out];exact HU.out,HE2.out⟩
end
end Go.Proofs.YtimoapjhepmehaaGreatDoor
