/-
  Part 7 of 54: the contracts that the proof of the last part uses; each stands under its own head.
-/
import Derived.Test.YtimoapjhepmehaaGreatDoorP5
import Derived.Test.YtimoapjhepmehaaGreatDoorP4
import Derived.Laws.CopyOwn
import Derived.Test.YtimoapjhepmehaaGreatDoorP3
import Derived.Laws.StructEq
import Derived.ChangeKeysEq
import Derived.Deep.RegionHeld3
import Derived.Deep.MidRow
import Derived.LoopN
import Derived.WalkMore
set_option linter.unusedSimpArgs false
set_option linter.unusedVariables false
namespace Go.Proofs.YtimoapjhepmehaaGreatDoor
section
open Go.RowKit
section
variable {P:Program}
end
end
section
open Go.RowKit
end
section
open Go.RowKit Go.Shelf
end
section
open Go.RowKit Go.Shelf
end
section
open Go.RowKit Go.Shelf
def LdOK (P:Program) (w:World) (p:Value) (ty:TypeId):Prop:=∃ v,(Instr.loadAt ty p).run P w=.ok v w
def ldV (P:Program) (w:World) (p:Value) (ty:TypeId):Value:=match (Instr.loadAt ty p).run P w with | .ok v _=>v|_=>undef
theorem ld_run {P:Program} {w:World} {p:Value} {ty:TypeId} (h:LdOK P w p ty):(Instr.loadAt ty p).run P w=.ok (ldV P w p ty) w:=by
  obtain ⟨v,h⟩:=h
  unfold ldV
  rw [h]
theorem ld_exec {P:Program} {w:World} {ρ:Operand→Value} {d:Option Tmp} {x:Operand} {ty t:TypeId} {p:String} {af:Array Edge} {g:Option (Nat × Bool)} (h:LdOK P w (ρ x) ty) :
    (execOp ρ { dst:=d,op:=.load ty x,type:=t,pos:=p,after:=af,guard:=g }).run P w=.ok (.value (ldV P w (ρ x) ty)) w:=by
  have h':=ld_run h
  unfold execOp
  simp only [Sem.run_bind,Sem.run_pure,Result.andThen_ok,h']
theorem ld_sem {P:Program} {w:World} {ro:Option Nat} {ρ:Operand→Value} {d:Option Tmp} {x:Operand} {ty t:TypeId} {p:String} {af:Array Edge} {g:Option (Nat × Bool)} (h:LdOK P w (ρ x) ty) :
    (Oper.semAt ro ρ { dst:=d,op:=.load ty x,type:=t,pos:=p,after:=af,guard:=g }).run P w=.ok (.value (ldV P w (ρ x) ty)) w:=by
  rw [Oper.semAt_eq ro ρ _ (by intro c h;cases h)]
  exact ld_exec h
attribute [local go_sem ↓] ld_exec ld_sem
end
section
open Go.RowKit Go.Shelf
attribute [local go_sem ↓] Go.wp_at_zero Go.wp_at_succ
theorem own_frozen {w:World} {base e n cap g:Nat} {xs:List Value} (h:w.ownsRow base e 1 (.slice (some ⟨g,0,none⟩) n cap) n xs) (i:Nat):w.frozen? ⟨g,i,none⟩=false:=by
  rcases h.2 with ⟨he,_⟩|⟨g',cap',cur,he,_,hg,_⟩
  · cases he
  · injection he with h1 h2 h3
    injection h1 with h1
    injection h1 with h1
    subst h1
    exact Blk.frozen (show Blk w g e cur from hg) i
def ProofPost (w:World) (l:List ByteArray) (e:Ending) (w':World):Prop:=
  ∃ v,e=.returned (.tuple #[v,.int .i64 0])∧Strs (fun b=>w.heap.size≤b) w' v l∧Below w.heap.size w w'
end
section
open Go.RowKit
theorem rootF_1 (x:ByteArray):rootF [x]=leafF x:=by
  simp [rootF,stackTo,merged,mergeR,foldBack]
def perfF:Nat→List ByteArray→ByteArray
  | 0,l=>leafF (l.getD 0 ⟨#[]⟩)
  | a+1,l=>nodeF (perfF a (l.take (2 ^ a))) (perfF a (l.drop (2 ^ a)))
structure DecB (bs:List (Nat × List ByteArray)):Prop where
  len:∀ b ∈ bs,b.2.length=2 ^ b.1
  desc:bs.Pairwise (fun x y=>y.1<x.1)
def stOf (bs:List (Nat × List ByteArray)):List (Nat × ByteArray):=bs.map fun b=>(2 ^ b.1,perfF b.1 b.2)
def partC (bs:List (Nat × List ByteArray)):List ByteArray:=bs.flatMap (·.2)
theorem partC_append (x y:List (Nat × List ByteArray)):partC (x++y)=partC x++partC y:=List.flatMap_append
theorem dec_push:∀ (n:Nat) (bs:List (Nat × List ByteArray)) (a:Nat) (seg:List ByteArray),bs.length=n→DecB bs→seg.length=2 ^ a→(∀ b ∈ bs,a≤b.1) →
    ∃ cs,DecB cs∧partC cs=partC bs++seg∧merged (stOf bs++[(2 ^ a,perfF a seg)])=stOf cs
  | 0,bs,a,seg,hn,hd,hs,ha=>by
    obtain rfl:=List.eq_nil_of_length_eq_zero hn
    exact ⟨[(a,seg)],⟨fun b hb=>by simp at hb;subst hb;exact hs,List.pairwise_singleton _ _⟩,by simp [partC],merged_short _ (by simp [stOf])⟩
  | n + 1, bs, a, seg, hn, hd, hs, ha => by
    obtain ⟨i,⟨c,sg⟩,rfl⟩:∃ i x,bs=i++[x]:=by
      rcases List.eq_nil_or_concat bs with rfl|⟨i,x,h⟩
      · simp at hn
      · exact ⟨i,x,by simpa using h⟩
    have hi:i.length=n:=by simpa using hn
    have hdi:DecB i:=⟨fun b hb=>hd.len b (by simp [hb]),(List.pairwise_append.1 hd.desc).1⟩
    have hlt:∀ b ∈ i,c<b.1:=fun b hb=>(List.pairwise_append.1 hd.desc).2.2 b hb (c,sg) (by simp)
    have hsg:sg.length=2 ^ c:=hd.len (c,sg) (by simp)
    have hac:a≤c:=ha (c,sg) (by simp)
    by_cases e:a=c
    · subst e
      obtain ⟨cs,h1,h2,h3⟩:=dec_push n i (a+1) (sg++seg) hi hdi (by rw [List.length_append,hsg,hs,Nat.pow_succ];omega) (fun b hb=>hlt b hb)
      refine ⟨cs,h1,by rw [h2,partC_append];simp [partC],?_⟩
      rw [← h3]
      have hp:perfF (a+1) (sg++seg)=nodeF (perfF a sg) (perfF a seg):=by
        rw [perfF,← hsg,List.take_left,List.drop_left]
      rw [hp,show stOf (i++[(a,sg)])++[(2 ^ a,perfF a seg)]=stOf i++[(2 ^ a,perfF a sg),(2 ^ a,perfF a seg)] by simp [stOf],merged_step,show 2*2 ^ a=2 ^ (a+1) by rw [Nat.pow_succ];omega]
    · have hne:(2:Nat) ^ c≠2 ^ a:=fun h=>by
        have:=(Nat.pow_lt_pow_iff_right (a:=2) (n:=a) (m:=c) (by omega)).2 (by omega)
        omega
      refine ⟨i++[(c,sg)]++[(a,seg)],⟨fun b hb=>?_,?_⟩,by rw [partC_append];simp [partC],?_⟩
      · rcases List.mem_append.1 hb with hb|hb
        · exact hd.len b hb
        · simp at hb;subst hb;exact hs
      · refine List.pairwise_append.2 ⟨hd.desc,List.pairwise_singleton _ _,fun b hb y hy=>?_⟩
        simp at hy
        subst hy
        rcases List.mem_append.1 hb with hb|hb
        · have:=hlt b hb
          show a<b.1
          omega
        · simp at hb
          subst hb
          show a<c
          omega
      · rw [show stOf (i++[(c,sg)])++[(2 ^ a,perfF a seg)]=stOf i++[(2 ^ c,perfF c sg),(2 ^ a,perfF a seg)] by simp [stOf],merged_diff _ _ _ _ _ hne]
        simp [stOf]
theorem dec_stack (l:List ByteArray):∀ k,k≤l.length→∃ bs,DecB bs∧partC bs=l.take k∧stackTo l k=stOf bs
  | 0,_=>⟨[],⟨(fun b hb=>by simp at hb),List.Pairwise.nil⟩,by simp [partC],rfl⟩
  | k + 1, hk => by
    obtain ⟨bs,h1,h2,h3⟩:=dec_stack l k (by omega)
    obtain ⟨cs,g1,g2,g3⟩:=dec_push _ bs 0 [l.getD k ⟨#[]⟩] rfl h1 rfl (fun _ _=>Nat.zero_le _)
    refine ⟨cs,g1,?_,?_⟩
    · rw [g2,h2,List.take_succ_eq_append_getElem (by omega),List.getD_eq_getElem?_getD,List.getElem?_eq_getElem (by omega)]
      rfl
    · rw [← g3,stackTo,h3]
      rfl
theorem dec_lt:∀ (bs:List (Nat × List ByteArray)) (a:Nat),DecB bs→(∀ b ∈ bs,b.1<a)→(partC bs).length<2 ^ a
  | [],a,_,_=>by simpa [partC] using Nat.two_pow_pos a
  | (c,sg)::r,a,hd,ha=>by
    have h1:=dec_lt r c ⟨fun b hb=>hd.len b (by simp [hb]),(List.pairwise_cons.1 hd.desc).2⟩ (fun b hb=>(List.pairwise_cons.1 hd.desc).1 b hb)
    have h2:sg.length=2 ^ c:=hd.len (c,sg) (by simp)
    have h3:(2:Nat) ^ (c+1)≤2 ^ a:=Nat.pow_le_pow_right (by omega) (ha (c,sg) (by simp))
    have h4:(partC ((c,sg)::r)).length=sg.length+(partC r).length:=by simp [partC]
    rw [h4,h2]
    rw [Nat.pow_succ] at h3
    omega
theorem pow_between {a c n:Nat} (h1:2 ^ a≤n) (h2:n<2 ^ (a+1)) (h3:2 ^ c≤n) (h4:n<2 ^ (c+1)):a=c:=by
  have k1:a<c+1:=(Nat.pow_lt_pow_iff_right (by omega)).1 (Nat.lt_of_le_of_lt h1 h4)
  have k2:c<a+1:=(Nat.pow_lt_pow_iff_right (by omega)).1 (Nat.lt_of_le_of_lt h3 h2)
  omega
theorem dec_head {c:Nat} {sg:List ByteArray} {r:List (Nat × List ByteArray)} (hd:DecB ((c,sg)::r)):DecB r∧sg.length=2 ^ c∧(partC r).length<2 ^ c∧partC ((c,sg)::r)=sg++partC r:=by
  have h1:DecB r:=⟨fun b hb=>hd.len b (by simp [hb]),(List.pairwise_cons.1 hd.desc).2⟩
  exact ⟨h1,hd.len (c,sg) (by simp),dec_lt r c h1 (fun b hb=>(List.pairwise_cons.1 hd.desc).1 b hb),by simp [partC]⟩
theorem dec_unique:∀ (bs cs:List (Nat × List ByteArray)),DecB bs→DecB cs→partC bs=partC cs→bs=cs
  | [],[],_,_,_=>rfl
  | [],(c,sg)::r,_,hd,he=>by
    obtain ⟨_,h2,_,h4⟩:=dec_head hd
    have:=congrArg List.length he
    rw [h4,List.length_append,h2] at this
    have:=Nat.two_pow_pos c
    simp [partC] at *
    try omega
  | (c,sg)::r,[],hd,_,he=>by
    obtain ⟨_,h2,_,h4⟩:=dec_head hd
    have:=congrArg List.length he
    rw [h4,List.length_append,h2] at this
    have:=Nat.two_pow_pos c
    simp [partC] at *
    try omega
  | (c,sg)::r,(c',sg')::r',hd,hd',he=>by
    obtain ⟨h1,h2,h3,h4⟩:=dec_head hd
    obtain ⟨g1,g2,g3,g4⟩:=dec_head hd'
    rw [h4,g4] at he
    have hl:=congrArg List.length he
    rw [List.length_append,List.length_append,h2,g2] at hl
    have e:c=c':=pow_between (n:=2 ^ c+(partC r).length) (by omega) (by rw [Nat.pow_succ];omega) (by omega) (by rw [Nat.pow_succ];omega)
    subst e
    obtain ⟨e1,e2⟩:=List.append_inj he (by omega)
    rw [e1,dec_unique r r' h1 g1 e2]
theorem rootF_dec {l:List ByteArray} {bs:List (Nat × List ByteArray)} (h0:l≠[]) (hd:DecB bs) (hc:partC bs=l):rootF l=foldBack ((stOf bs).map (·.2)):=by
  obtain ⟨cs,h1,h2,h3⟩:=dec_stack l l.length (Nat.le_refl _)
  rw [List.take_of_length_le (Nat.le_refl _)] at h2
  unfold rootF
  rw [if_neg h0,h3,dec_unique cs bs h1 hd (h2.trans hc.symm)]
theorem bitLenAux_bounds:∀ (f x:Nat),1≤x→x<2 ^ f→1≤Lib.bitLenAux f x∧2 ^ (Lib.bitLenAux f x-1)≤x∧x<2 ^ Lib.bitLenAux f x
  | 0,x,h1,h2=>by simp at h2;omega
  | f + 1, x, h1, h2 => by
    have e:Lib.bitLenAux (f+1) x=1+Lib.bitLenAux f (x / 2):=by
      rw [Lib.bitLenAux,if_neg (by omega)]
    rw [e,Nat.add_sub_cancel_left]
    by_cases hx:x=1
    · subst hx
      have e2:Lib.bitLenAux f (1 / 2)=0:=by
        cases f with
        | zero=>rfl
        | succ f=>rw [Lib.bitLenAux,if_pos (by decide)]
      rw [e2]
      decide
    · obtain ⟨h3,h4,h5⟩:=bitLenAux_bounds f (x / 2) (by omega) (by rw [Nat.pow_succ] at h2;omega)
      generalize Lib.bitLenAux f (x / 2)=m at *
      refine ⟨by omega,?_,by rw [Nat.add_comm,Nat.pow_succ];omega⟩
      have:(2:Nat) ^ m=2 ^ (m-1)*2:=by rw [← Nat.pow_succ];congr 1;omega
      omega
theorem leftF_spec (n:Nat) (h:2≤n) (h2:n<2 ^ 60):leftF n<n∧n≤2*leftF n∧1≤leftF n:=by
  obtain ⟨h3,h4,h5⟩:=bitLenAux_bounds 64 (n-1) (by omega) (Nat.lt_of_lt_of_le (show n-1<2 ^ 60 by omega) (Nat.pow_le_pow_right (by omega) (by omega)))
  unfold leftF Lib.bitLen
  generalize Lib.bitLenAux 64 (n-1)=m at *
  have e:(2:Nat) ^ m=2 ^ (m-1)*2:=by rw [← Nat.pow_succ];congr 1;omega
  have:=Nat.two_pow_pos (m-1)
  omega
theorem leftF_eq {n a:Nat} (h:2 ^ a<n) (h1:n≤2 ^ (a+1)) (h2:n<2 ^ 60):leftF n=2 ^ a:=by
  have h0:=Nat.two_pow_pos a
  obtain ⟨h3,h4,h5⟩:=leftF_spec n (by omega) h2
  obtain ⟨b,hb⟩:∃ b,leftF n=2 ^ b:=⟨_,rfl⟩
  rw [hb] at h3 h4 ⊢
  rw [Nat.pow_succ] at h1
  rw [pow_between (n:=n-1) (a:=a) (c:=b) (by omega) (by rw [Nat.pow_succ];omega) (by omega) (by rw [Nat.pow_succ];omega)]
theorem leftF_bounds (n:Nat) (h2:n≤1000000) (h:2≤n):1≤leftF n∧leftF n<n:=
  have h9:=leftF_spec n h (Nat.lt_of_le_of_lt h2 (by decide))
  ⟨h9.2.2,h9.1⟩
theorem leftF_same (n:Nat) (h2:n≤1000000) (m:Nat) (_:m≤1000000) (h:2≤n) (h3:leftF n<m) (h4:m≤n):leftF m=leftF n:=by
  have h5:n<2 ^ 60:=Nat.lt_of_le_of_lt h2 (by decide)
  obtain ⟨k1,k2,k3⟩:=leftF_spec n h h5
  obtain ⟨b,hb⟩:∃ b,leftF n=2 ^ b:=⟨_,rfl⟩
  rw [hb] at k1 k2 h3 ⊢
  exact leftF_eq h3 (by rw [Nat.pow_succ];omega) (by omega)
theorem rootF_splitG (l:List ByteArray) (h2:2≤l.length) (h60:l.length<2 ^ 60):rootF l=nodeF (rootF (l.take (leftF l.length))) (rootF (l.drop (leftF l.length))):=by
  have hne:∀ {x:List ByteArray},1≤x.length→x≠[]:=fun h e=>by rw [e] at h;simp at h
  obtain ⟨bs,hd,hc,_⟩:=dec_stack l l.length (Nat.le_refl _)
  rw [List.take_of_length_le (Nat.le_refl _)] at hc
  rw [rootF_dec (hne (by omega)) hd hc]
  match bs,hd,hc with
  | [],hd,hc=>rw [← hc] at h2;simp [partC] at h2
  | [(0,seg)],hd,hc=>
    have:=(dec_head hd).2.1
    rw [← hc] at h2
    simp [partC] at h2
    omega
  | [(a+1,seg)],hd,hc=>
    have hl:=(dec_head hd).2.1
    have hs:seg=l:=by simpa [partC] using hc
    subst hs
    have hp:=Nat.two_pow_pos a
    have e:leftF seg.length=2 ^ a:=leftF_eq (by rw [hl,Nat.pow_succ];omega) (by omega) h60
    have hl1:(seg.take (2 ^ a)).length=2 ^ a:=by rw [List.length_take,hl,Nat.pow_succ];omega
    have hl2:(seg.drop (2 ^ a)).length=2 ^ a:=by rw [List.length_drop,hl,Nat.pow_succ];omega
    rw [e,rootF_dec (bs:=[(a,seg.take (2 ^ a))]) (hne (by omega)) ⟨fun b hb=>by simp at hb;subst hb;exact hl1,List.pairwise_singleton _ _⟩ (by simp [partC]),
      rootF_dec (bs:=[(a,seg.drop (2 ^ a))]) (hne (by omega)) ⟨fun b hb=>by simp at hb;subst hb;exact hl2,List.pairwise_singleton _ _⟩ (by simp [partC])]
    rfl
  | (a,seg)::(c,sg)::r,hd,hc=>
    obtain ⟨h1,h3,h4,h5⟩:=dec_head hd
    obtain ⟨_,g3,_,g5⟩:=dec_head h1
    have hp:=Nat.two_pow_pos c
    have hlen:l.length=2 ^ a+(partC ((c,sg)::r)).length:=by rw [← hc,h5,List.length_append,h3]
    have hlen2:1≤(partC ((c,sg)::r)).length:=by rw [g5,List.length_append];omega
    have e:leftF l.length=2 ^ a:=leftF_eq (by omega) (by rw [Nat.pow_succ];omega) h60
    have ht:l.take (2 ^ a)=seg:=by rw [← hc,h5,← h3,List.take_left]
    have hdr:l.drop (2 ^ a)=partC ((c,sg)::r):=by rw [← hc,h5,← h3,List.drop_left]
    rw [e,ht,hdr,rootF_dec (bs:=[(a,seg)]) (hne (by have:=Nat.two_pow_pos a;omega)) ⟨fun b hb=>by simp at hb;subst hb;exact h3,List.pairwise_singleton _ _⟩ (by simp [partC]),
      rootF_dec (hne hlen2) h1 rfl]
    simp [foldBack,stOf,List.getLast?_cons_cons]
theorem rootF_split (l:List ByteArray) (h2:2≤l.length) (h:l.length≤2000):rootF l=nodeF (rootF (l.take (leftF l.length))) (rootF (l.drop (leftF l.length))):=rootF_splitG l h2 (Nat.lt_of_le_of_lt h (by decide))
end
section
open Go.RowKit Go.Shelf
attribute [local go_sem] Oper.semAt_some
def SideAt (w:World) (b off:Nat) (x:ByteArray × Bool):Prop:=w.cell? ⟨b,off,none⟩=some (.string x.1)∧w.cell? ⟨b,off+1,none⟩=some (.bool x.2)
set_option maxHeartbeats 400000 in
theorem backS_any (n c:Nat) (A:Option Addr) (w:World) :
    Calls Tryz.prog 114 #[.slice A n c] w fun e w'=>
      e=.returned (.func (.func 169) #[] #[.pointer (some ⟨w.heap.size,0,none⟩)])∧w.alloc (.cells #[.slice A n c] 199)=w':=by
  have hmf:∀ (fn:Fn) (first cap:Array Value) (w:World),(Instr.makeFunc fn first cap).run Tryz.prog w=.ok (.func fn first cap) w:=fun _ _ _ _=>rfl
  go_enter Tryz.func114,Tryz.ntmps114
  go_wp2
  go_ret
  exact ⟨rfl,rfl⟩
end
end Go.Proofs.YtimoapjhepmehaaGreatDoor
