/-
  package origin: filled, Commit at any changes: refused, or the record and the head are told.
-/
import Derived.Test.YtnajpjnnlocfgaaGreatDoorJ18
import Derived.Test.YtnajpjnnlocfgaaGreatDoorJ21
import Derived.Test.YtnajpjnnlocfgaaGreatDoorJ25
import Derived.Test.YtnajpjnnlocfgaaGreatDoorJ9
set_option linter.unusedSimpArgs false
set_option linter.unusedVariables false
set_option maxHeartbeats 4000000
set_option maxRecDepth 100000
namespace Go.Proofs.YtnajpjnnlocfgaaGreatDoor
open Go.RowKit Go.Shelf
attribute [local go_sem ↓] Go.wp_at_zero Go.wp_at_succ
theorem delR_sub (rs:List RowT) (t k:Int):(delR rs t k).Sublist rs:=by
  unfold delR
  split
  · exact List.eraseIdx_sublist rs _
  · exact List.Sublist.refl _
theorem putR_mem {rs:List RowT} {r x:RowT} (h:x ∈ putR rs r):x ∈ rs∨x=r:=by
  unfold putR at h
  split at h
  · exact List.mem_or_eq_of_mem_set h
  · rcases List.mem_append.1 h with h|h
    · exact .inl h
    · simp at h;exact .inr h
theorem is_iff (t k:Int) (r:RowT):RowT.is t k r=true↔t=r.t∧k=r.k:=by
  unfold RowT.is
  rw [Bool.and_eq_true,decide_eq_true_eq,decide_eq_true_eq]
theorem Apart.set {r:RowT}:∀ {rs:List RowT} {i:Nat} {x:RowT},Apart rs→rs[i]? = some x→x.t=r.t→x.k=r.k→Apart (rs.set i r)
  | [],_,_,h,hi,_,_=>by simp at hi
  | a::rs,0,x,h,hi,ht,hk=>by
    simp at hi
    subst hi
    unfold Apart at h ⊢
    rw [List.set_cons_zero,List.pairwise_cons]
    rw [List.pairwise_cons] at h
    exact ⟨fun b hb e=>h.1 b hb ⟨ht.trans e.1,hk.trans e.2⟩,h.2⟩
  | a::rs,i+1,x,h,hi,ht,hk=>by
    have hi':rs[i]? = some x:=by simpa using hi
    unfold Apart at h ⊢
    rw [List.set_cons_succ,List.pairwise_cons]
    rw [List.pairwise_cons] at h
    refine ⟨fun b hb e=>?_,Apart.set (rs:=rs) h.2 hi' ht hk⟩
    rcases List.mem_or_eq_of_mem_set hb with hb|rfl
    · exact h.1 b hb e
    · exact h.1 x (List.mem_of_getElem? hi') ⟨e.1.trans ht.symm,e.2.trans hk.symm⟩
theorem Apart.put {rs:List RowT} (h:Apart rs) (r:RowT):Apart (putR rs r):=by
  unfold putR
  split
  · rename_i i hi
    rw [List.findIdx?_eq_some_iff_getElem] at hi
    obtain ⟨hlt,his,_⟩:=hi
    have h2:=(is_iff _ _ _).1 his
    exact h.set (List.getElem?_eq_getElem hlt) h2.1.symm h2.2.symm
  · rename_i hi
    rw [List.findIdx?_eq_none_iff] at hi
    unfold Apart
    rw [List.pairwise_append]
    refine ⟨h,by simp,fun a ha b hb e=>?_⟩
    simp at hb
    subst hb
    have h2:=hi a ha
    have h3:=(is_iff b.t b.k a).2 ⟨e.1.symm,e.2.symm⟩
    rw [h3] at h2
    cases h2
theorem Apart.apply:∀ (l:List ChgT) {rs:List RowT},Apart rs→Apart (applyF rs l)
  | [],_,h=>h
  | c::l,rs,h=>by
    show Apart (applyF (applyC rs c) l)
    refine Apart.apply l ?_
    unfold applyC
    split
    · exact h.put _
    · exact List.Pairwise.sublist (delR_sub _ _ _) h
theorem rows_ok_apply:∀ {l:List ChgT} {rs:List RowT},(∀ r ∈ rs,r.ok)→(∀ c ∈ l,c.ok)→∀ r ∈ applyF rs l,r.ok
  | [],_,h,_=>h
  | c :: l, rs, h, hl => by
    show ∀ r ∈ applyF (applyC rs c) l,r.ok
    refine rows_ok_apply (fun r hr=>?_) (fun x hx=>hl x (List.mem_cons_of_mem _ hx))
    unfold applyC at hr
    split at hr
    · rcases putR_mem hr with hr|rfl
      · exact h r hr
      · have hc:=hl c (List.mem_cons_self ..)
        exact ⟨hc.1.1,hc.1.2,hc.2.2.2.2⟩
    · exact h r ((delR_sub _ _ _).subset hr)
theorem stF_snoc (Ls:List (List ChgT)) (l:List ChgT):stF (Ls++[l])=applyF (stF Ls) l:=by
  unfold stF
  rw [List.foldl_append]
  rfl
theorem trs_snoc (R:List (List ChgT × Nat × Nat)) (x:List ChgT × Nat × Nat):trs (R++[x])=trs R++[x.1]:=by simp [trs]
theorem trs_length (R:List (List ChgT × Nat × Nat)):(trs R).length=R.length:=by simp [trs]
theorem RunG.nil:RunG (trs []):=⟨fun i l h=>by simp [trs] at h⟩
theorem RunG.snoc {R:List (List ChgT × Nat × Nat)} {rs:List RowT} {l:List ChgT} {g d:Nat} (h:RunG (trs R)) (hr:rs=stF (trs R)) (h1:ChgsOK l) (h2:validF l=true) (h3:∀ c ∈ l,fillC rs c=c) (h4:rs.length≤60):RunG (trs (R++[(l,g,d)])):=⟨fun i m hi=>by
  rw [trs_snoc] at hi ⊢
  by_cases hlt:i<(trs R).length
  · rw [List.getElem?_append_left hlt] at hi
    rw [List.take_append_of_le_length (by omega)]
    exact h.step i m hi
  · have hi2:i=(trs R).length:=by
      have:=(List.getElem?_eq_some_iff.1 hi).1
      simp at this
      omega
    subst hi2
    rw [List.getElem?_append_right (Nat.le_refl _),Nat.sub_self] at hi
    simp at hi
    subst hi
    rw [List.take_append_of_le_length (Nat.le_refl _),List.take_length,← hr]
    exact ⟨h1,h2,h3,by omega⟩⟩
theorem rows_snoc {R:List (List ChgT × Nat × Nat)} {rs:List RowT} {l:List ChgT} {g d:Nat} (h:rs=stF (trs R)):applyF rs l=stF (trs (R++[(l,g,d)])):=by
  rw [trs_snoc,stF_snoc,← h]
theorem stRootF_size (rs:List RowT):(stRootF rs).size=32:=rootF_size _
def HeadsOK (R:List (List ChgT × Nat × Nat)) (H:List (ByteArray × ByteArray)):Prop:=∀ (i:Nat) (h:ByteArray × ByteArray),H[i]? = some h→h.2=stRootF (stF ((trs R).take i))
def ChainOK (R:List (List ChgT × Nat × Nat)) (H:List (ByteArray × ByteArray)):Prop:=∀ (i:Nat) (x:List ChgT × Nat × Nat) (h k:ByteArray × ByteArray),R[i]? = some x→H[i]? = some h→H[i+1]? = some k→k.1=chainF h.1 (encG (encRec ((i:Int)+1) x.1))
theorem HeadsOK.snoc {R:List (List ChgT × Nat × Nat)} {H:List (ByteArray × ByteArray)} {rs:List RowT} {l:List ChgT} {g d:Nat} {cz:ByteArray} (h:HeadsOK R H) (hl:H.length=R.length+1) (hr:rs=stF (trs R)):HeadsOK (R++[(l,g,d)]) (H++[(cz,stRootF (applyF rs l))]):=fun i x hi=>by
  by_cases hlt:i<H.length
  · rw [List.getElem?_append_left hlt] at hi
    rw [trs_snoc,List.take_append_of_le_length (by rw [trs_length];omega)]
    exact h i x hi
  · have h0:=(List.getElem?_eq_some_iff.1 hi).1
    rw [List.length_append,List.length_singleton] at h0
    have hi2:i=H.length:=by omega
    rw [hi2,List.getElem?_append_right (Nat.le_refl _),Nat.sub_self] at hi
    simp at hi
    subst hi
    rw [List.take_of_length_le (by rw [trs_length,List.length_append,List.length_singleton];omega),← rows_snoc hr]
theorem ChainOK.snoc {R:List (List ChgT × Nat × Nat)} {H:List (ByteArray × ByteArray)} {l:List ChgT} {g d:Nat} {last:ByteArray × ByteArray} {t:ByteArray} (h:ChainOK R H) (hl:H.length=R.length+1) (hla:H[R.length]? = some last):ChainOK (R++[(l,g,d)]) (H++[(chainF last.1 (encG (encRec ((R.length:Int)+1) l)),t)]):=fun i x a b hx ha hb=>by
  have h0:=(List.getElem?_eq_some_iff.1 hx).1
  rw [List.length_append,List.length_singleton] at h0
  rw [List.getElem?_append_left (by omega)] at ha
  by_cases hlt:i<R.length
  · rw [List.getElem?_append_left hlt] at hx
    rw [List.getElem?_append_left (by omega)] at hb
    exact h i x a b hx ha hb
  · have hi2:i=R.length:=by omega
    subst hi2
    rw [List.getElem?_append_right (Nat.le_refl _),Nat.sub_self] at hx
    rw [List.getElem?_append_right (by omega),show R.length+1-H.length=0 by omega] at hb
    simp at hx hb
    subst hx hb
    rw [hla] at ha
    injection ha with ha
    subst ha
    rfl
structure ServX (B:Nat) (w:World) (gs gl gst gm:Nat) (cs:Array Value) (rv hv:Value) (R:List (List ChgT × Nat × Nat)) (H:List (ByteArray × ByteArray)) (rs:List RowT):Prop where
  srv:Blk w gs 140 cs
  c0:cs[0]? = some (.pointer (some ⟨gl,0,none⟩))
  c1:cs[1]? = some (.pointer (some ⟨gst,0,none⟩))
  log:LogG B w gl rv hv R H
  st:StateR w gst gm (R.length:Int) rs
  rok:∀ r ∈ rs,r.ok
  apart:Apart rs
  size:rs.length≤60
  good:∀ x ∈ R,GoodL x.1
  run:RunG (trs R)
  rows:rs=stF (trs R)
  heads:HeadsOK R H
  chain:ChainOK R H
  base:B≤gl∧B≤gst∧B≤gm
theorem ServX.ext {B gs gl gst gm:Nat} {w W:World} {cs:Array Value} {rv hv:Value} {R:List (List ChgT × Nat × Nat)} {H:List (ByteArray × ByteArray)} {rs:List RowT} (h:ServX B w gs gl gst gm cs rv hv R H rs) (k:Below w.heap.size w W):ServX B W gs gl gst gm cs rv hv R H rs:=
  ⟨h.srv.ext k,h.c0,h.c1,h.log.ext k,h.st.ext k,h.rok,h.apart,h.size,h.good,h.run,h.rows,h.heads,h.chain,h.base⟩
theorem cloneE (A:Option Addr) (c:Nat) (w:World):Calls Tryz.prog 99 #[.slice A 0 c] w fun e w'=>∃ A2 c2,e=.returned (.slice A2 0 c2)∧Below w.heap.size w w':=by
  cases A with
  | none=>
    have hsn:=fun W:World=>Lib.run_eql_slice_nil (P:=Tryz.prog) W 41 62 none 0 c 0 0 Tryz.underlying41
    go_enter Tryz.func99,Tryz.ntmps99
    go_wp2
    go_ret
    exact ⟨_,_,rfl,ext_refl _⟩
  | some a=>
    obtain ⟨is,his,hzs0,hzs1,hzs2⟩:=info_parts chg_info
    have hsn:=fun W:World=>Lib.run_eql_slice_nil (P:=Tryz.prog) W 41 62 (some a) 0 c 0 0 Tryz.underlying41
    have HOE:=Lib.hid (show (w.alloc (.cells #[] 62)).ownsRow w.heap.size 62 10 (.slice (some ⟨w.heap.size,0,none⟩) 0 0) 0 [] from
      ⟨rfl,.inr ⟨w.heap.size,0,#[],rfl,Nat.le_refl _,World.alloc_heap_new w _,Nat.le_refl _,Nat.zero_le _,rfl,rfl⟩⟩)
    go_enter Tryz.func99,Tryz.ntmps99
    go_wp2_with (at_builtin;refine wpList_append_own _ rfl (.tmp 5) (.tmp 6) 41 rfl w.heap.size 62 is (.agg #[.int .i64 0,.int .i64 0,.bool false,.int .i64 0,.int .i64 0,.int .i64 0,.bool false,.int .i64 0,.int .i64 0,.int .i64 0]) 10 80 Tryz.underlying41 his hzs0 hzs1 hzs2 rfl (by decide) (.slice (some ⟨w.heap.size,0,none⟩) 0 0) 0 [] rfl HOE.out a 0 c [] rfl rfl (fun i u hu=>by simp at hu) (by simp) ?_ ?_ ?_ ?_;(unfold maxLen;omega);omega;(rw [World.size_alloc];omega);intro v6 W6 ho6 hg6 _;obtain ⟨A7,c7,h7⟩:=own_shape ho6;subst h7;have HO6:=Lib.hid ho6;have HG6:=Lib.hid hg6;clear hg6 ho6)
    go_ret
    have HBW:Below w.heap.size w W6:=(ext_new w (.cells #[] 62)).grown HG6.out (ext_new w (.cells #[] 62)).size (fun k e=>by have e2:w.heap.size=k:=Option.some.inj e;omega)
    exact ⟨⟨_,_,rfl⟩,HBW⟩
theorem filledX (rs:List RowT) (l:List ChgT) (v:Value) (gs gl gst n cl:Nat) (A:Option Addr) (u:Value) (hn:n≤1000) (w:World) (h0:w.cell? ⟨gs,0,none⟩=some (.pointer (some ⟨gl,0,none⟩))) (h1:w.cell? ⟨gs,1,none⟩=some (.pointer (some ⟨gst,0,none⟩)))
    (hl:Blk w gl 115 #[.slice A n cl,u]) (hv:ChgsAt w v l) (hlen:l.length≤20)
    (hG:∀ t k W,Below w.heap.size w W→Calls Tryz.prog 108 #[.pointer (some ⟨gst,0,none⟩),.int .i64 t,.int .i64 k] W fun e w'=>e=.returned (.tuple #[.agg #[.int .i64 ((getR rs t k).getD zeroR).t,.int .i64 ((getR rs t k).getD zeroR).k,.int .i64 ((getR rs t k).getD zeroR).a,.int .i64 ((getR rs t k).getD zeroR).b,.int .i64 ((getR rs t k).getD zeroR).c],.bool (getR rs t k).isSome])∧Below W.heap.size W w') :
    Calls Tryz.prog 65 #[.pointer (some ⟨gs,0,none⟩),v] w fun e w'=>∃ x,e=.returned (.agg #[.int .i64 ((n:Int)+1),x])∧ChgsAt w' x (l.map (fillC rs))∧Below w.heap.size w w':=by
  have e1:IntKind.i64.wrap ((n:Int)+1)=(n:Int)+1:=IntWalk.i64_in _ (by omega)
  obtain ⟨W0,hW0⟩:∃ W0,W0=w.alloc (.cells #[.int .i64 0,.slice none 0 0] 43):=⟨_,rfl⟩
  have HE0:=Lib.hid (show Below w.heap.size w W0 by rw [hW0];exact ext_new _ _)
  have HR0:=Lib.hid (show Blk W0 w.heap.size 43 #[.int .i64 0,.slice none 0 0] by rw [hW0];exact Blk.new _ _ _)
  have HW0:=Lib.hid hW0
  have H0:=Lib.hid (cell_ext h0 HE0.out)
  have H1:=Lib.hid h1
  have HL:=Lib.hid (hl.ext HE0.out)
  have HV:=Lib.hid (hv.ext HE0.out)
  have HG:=Lib.hid hG
  clear hW0 h0 h1 hl hv hG
  go_enter Tryz.func65,Tryz.ntmps65
  go_upto_region 1 with (fail)
  rw [← HW0.out]
  go_wp2_with fail
  refine (srvPos gs gl n cl A u W0 H0.out HL.out).mono ?_
  rintro e w' ⟨rfl,hw'⟩
  subst w'
  go_wp2_with fail
  by_cases hl0:l.length=0
  · obtain ⟨A9,c9,hv0,-⟩:=HV.out
    rw [hl0] at hv0
    subst hv0
    refine (cloneE A9 c9 W0).mono ?_
    rintro e W1 ⟨A2,c2,rfl,hb1⟩
    have hHR:=HR0.out.ext hb1
    have HHR:=Lib.hid hHR
    have HE9:=Lib.hid (ext_call HE0.out hb1)
    have z0:=hHR.cell 0
    have z1:=hHR.cell 1
    have zf0:=hHR.frozen 0
    have zf1:=hHR.frozen 1
    have zl:=hHR.lt
    clear hb1 hHR
    go_wp2
    refine wp_loop_rounds 1 ?_
    rw [rounds_succ]
    go_wp2
    have hBf:=(((HHR.out.set_ 0 (.int .i64 ((n:Int)+1))).set_ 1 (.slice A2 0 c2)).alloc (.cells #[.int .i64 ((n:Int)+1),.slice A2 0 c2] 43))
    have y0:=hBf.cell 0;have y1:=hBf.cell 1
    have hE9:=HE9.out
    exact bodyPost_ret (v:=.agg #[.int .i64 ((n:Int)+1),.slice A2 0 c2]) (by simp [results,Tryz.results65,go_sem,y0,y1]) rfl ⟨.slice A2 0 c2,rfl,⟨A2,c2,by simp [hl0],by simp [hl0],by simp [hl0]⟩,ext_alloc (ext_set (ext_set hE9 (Nat.le_refl _) _) (Nat.le_refl _) _) _⟩
  refine (cloneChgs l v W0 HV.out (by omega) (by omega)).mono ?_
  rintro e W1 ⟨g,d,rfl,hg,hd,hb,hb1⟩
  have HB1:=Lib.hid hb
  have HE1:=Lib.hid hb1
  have HD:=Lib.hid hd
  have hgs0:w.heap.size<W0.heap.size:=HR0.out.lt
  have hg1:g<W1.heap.size:=hb.lt
  clear hb hb1 hd
  go_wp2
  obtain ⟨X,hX⟩:∃ X,X=W1.alloc (.cells #[.int .i64 ((n:Int)+1),.slice (some ⟨g,0,none⟩) l.length d] 43):=⟨_,rfl⟩
  rw [← hX]
  have HRX:=Lib.hid (show Blk X W1.heap.size 43 #[.int .i64 ((n:Int)+1),.slice (some ⟨g,0,none⟩) l.length d] by rw [hX];exact Blk.new _ _ _)
  have HGX:=Lib.hid (show ChgB X g l by rw [hX];exact HB1.out.alloc _)
  have HEX:=Lib.hid (show Below w.heap.size w X by rw [hX];exact ext_alloc (ext_call HE0.out HE1.out) _)
  have HZX:=Lib.hid (show Blk X w.heap.size 43 #[.int .i64 0,.slice none 0 0] by rw [hX];exact (HR0.out.ext HE1.out).alloc _)
  generalize W1.heap.size=rb at *
  clear hX HB1 HE1 HL HV H0 HE0 HR0 HW0
  have x1:=HRX.out.cell 1
  clear x1
  go_loopw [6,7,8,9,19,26] (fun _ _ _ _ i _ W=>∃ k:Nat,k≤l.length∧i=.int .i64 k∧ChgB W g (mixC rs l k)∧Blk W rb 43 #[.int .i64 ((n:Int)+1),.slice (some ⟨g,0,none⟩) l.length d]∧Blk W w.heap.size 43 #[.int .i64 0,.slice none 0 0]∧Below w.heap.size w W) (fun _ _ _ _ i _ _=>l.length-(intOf i).toNat)
  case atStart=>exact ⟨0,Nat.zero_le _,rfl,by rw [mixC_zero];exact HGX.out,HRX.out,HZX.out,HEX.out⟩
  case round=>
    obtain ⟨k,hk,rfl,hgb,hrb,hzb,hE⟩:=hrel
    have HGB:=Lib.hid hgb
    have HRB:=Lib.hid hrb
    have HZB:=Lib.hid hzb
    have HE:=Lib.hid hE
    clear hgb hrb hzb hE HGX HRX HZX HEX
    by_cases hlt:k<l.length
    · obtain ⟨x,hx⟩:∃ x,l[k]? = some x:=⟨_,List.getElem?_eq_getElem hlt⟩
      have HX:=Lib.hid hx
      have HXM:=Lib.hid (mixC_at rs l k x hx)
      have hx0:=HGB.out.cell HXM.out 0 (by omega)
      have hx1:=HGB.out.cell HXM.out 1 (by omega)
      have hs1:=HE.out.cell (p:=⟨gs,1,none⟩) (lt_of_cell H1.out)
      rw [H1.out] at hs1
      have hr1:=HRB.out.cell 1
      have hrl:=HRB.out.lt
      have e2:IntKind.i64.wrap ((k:Int)+1)=(k:Int)+1:=by rw [IntWalk.i64_in _ (by omega)]
      have d1:decide ((k:Int)<(l.length:Int))=true:=by simp;omega
      have q0:(0:Int)≤(k:Int):=by omega
      have q1:(k:Int)<(l.length:Int):=by omega
      have HF:=Lib.hid (show fillC rs x={ x with had:=(getR rs x.t x.k).isSome,o1:=((getR rs x.t x.k).getD zeroR).a,o2:=((getR rs x.t x.k).getD zeroR).b,o3:=((getR rs x.t x.k).getD zeroR).c } from rfl)
      have HGT:=Lib.hid (fun (W:World) (h:Below w.heap.size w W)=>HG.out x.t x.k W h)
      obtain ⟨t,kk,had0,p1,p2,p3,has,n1,n2,n3⟩:=x
      simp only [ChgT.arr] at hx0 hx1
      dsimp only at HGT HF
      generalize (getR rs t kk).isSome=had at HGT HF
      generalize (getR rs t kk).getD zeroR=r at HGT HF
      obtain ⟨r0,r1,o0,o1,o2⟩:=r
      dsimp only at HGT HF
      have c0:wr.cell? ⟨g,k*10,none⟩=some (.int .i64 t):=by simpa using hx0
      have c1:wr.cell? ⟨g,k*10+1,none⟩=some (.int .i64 kk):=by simpa using hx1
      have HK:=Lib.hid (show wr.cell? ⟨gs,1,none⟩=some (.pointer (some ⟨gst,0,none⟩))∧wr.cell? ⟨g,k*10,none⟩=some (.int .i64 t)∧wr.cell? ⟨g,k*10+1,none⟩=some (.int .i64 kk) from ⟨hs1,c0,c1⟩)
      clear hx0 hx1 hx
      go_upto_region 6 with (fail)
      go_region_held3 (fun w'=>w'.cell? ⟨gs,1,none⟩=some (.pointer (some ⟨gst,0,none⟩))∧w'.cell? ⟨g,k*10,none⟩=some (.int .i64 t)∧w'.cell? ⟨g,k*10+1,none⟩=some (.int .i64 kk)∧Below wr.heap.size wr w')
        (first|with_reducible assumption|exact keepK HK.out (by repeat (first|with_reducible refine ext_alloc ?_ _|with_reducible refine Below.drew ?_|with_reducible assumption|with_reducible exact ext_refl _|refine ext_set ?_ (Nat.le_refl _) _)))
        (first|(go_at_call 108;(with_reducible refine (HGT.out _ ?_).mono ?_);(exact ext_call HE.out (keep3E (by assumption)));rintro e Z ⟨rfl,hb'⟩;have hXZ:=ext_call (keep3E (by assumption)) hb';try (have hbx:=(show Blk Z wr.heap.size 108 #[.int .i64 0,.int .i64 0,.int .i64 0,.int .i64 0,.int .i64 0] from ((Blk.new wr _ _).drew).ext hb');have bx0:=hbx.cell 0;have bf0:=hbx.frozen 0;have bx1:=hbx.cell 1;have bf1:=hbx.frozen 1;have bx2:=hbx.cell 2;have bf2:=hbx.frozen 2;have bx3:=hbx.cell 3;have bf3:=hbx.frozen 3;have bx4:=hbx.cell 4;have bf4:=hbx.frozen 4;have HBX:=Lib.hid hbx;clear hbx)))
      all_goals
        clear hs1 hr1 c0 c1
        first
        | (generalize hV:(World.setCell (World.setCell (World.setCell (World.setCell (World.setCell Z ⟨wr.heap.size,0,none⟩ (.int .i64 r0)) ⟨wr.heap.size,1,none⟩ (.int .i64 r1)) ⟨wr.heap.size,2,none⟩ (.int .i64 o0)) ⟨wr.heap.size,3,none⟩ (.int .i64 o1)) ⟨wr.heap.size,4,none⟩ (.int .i64 o2))=V
           have HBv:=Lib.hid (show Blk V wr.heap.size 108 #[.int .i64 r0,.int .i64 r1,.int .i64 o0,.int .i64 o1,.int .i64 o2] by subst hV;exact (((((HBX.out.set_ 0 _).set_ 1 _).set_ 2 _).set_ 3 _).set_ 4 _))
           have HEv:=Lib.hid (show Below wr.heap.size wr V by subst hV;exact (ext_set (ext_set (ext_set (ext_set (ext_set hXZ (Nat.le_refl _) _) (Nat.le_refl _) _) (Nat.le_refl _) _) (Nat.le_refl _) _) (Nat.le_refl _) _))
           clear bx0 bf0 bx1 bf1 bx2 bf2 bx3 bf3 bx4 bf4 hV HBX hb' hXZ
           obtain ⟨bb,hrr⟩:∃ bb,bb=wr.heap.size:=⟨_,rfl⟩
           rw [← hrr] at HBv ⊢
           have hrb:wr.heap.size≤bb:=by omega)
        | (generalize hV:World.alloc Z (.cells #[.int .i64 r0,.int .i64 r1,.int .i64 o0,.int .i64 o1,.int .i64 o2] 108)=V
           have HBv:=Lib.hid (show Blk V Z.heap.size 108 #[.int .i64 r0,.int .i64 r1,.int .i64 o0,.int .i64 o1,.int .i64 o2] by subst hV;exact Blk.new _ _ _)
           have HEv:=Lib.hid (show Below wr.heap.size wr V by subst hV;exact ext_alloc hXZ _)
           have hrb:wr.heap.size≤Z.heap.size:=hXZ.size
           clear hV hb' hXZ
           generalize hrr:Z.heap.size=bb at HBv hrb ⊢)
        clear hrr
        have hxg:g<wr.heap.size:=HGB.out.lt
        have hne:¬ bb=g:=by omega
        have hne':¬ g=bb:=by omega
        clear hxg
        have HGv:=Lib.hid (HGB.out.ext HEv.out)
        have HRv:=Lib.hid (HRB.out.ext HEv.out)
        have HZv:=Lib.hid (HZB.out.ext HEv.out)
        have hgv:=HGv.out
        have c2:=hgv.cell HXM.out 2 (by omega)
        have c3:=hgv.cell HXM.out 3 (by omega)
        have c4:=hgv.cell HXM.out 4 (by omega)
        have c5:=hgv.cell HXM.out 5 (by omega)
        simp only [ChgT.arr] at c2 c3 c4 c5
        have f2:=hgv.frozen (k*10+2)
        have f3:=hgv.frozen (k*10+3)
        have f4:=hgv.frozen (k*10+4)
        have f5:=hgv.frozen (k*10+5)
        have y2:=HBv.out.cell 2
        have y3:=HBv.out.cell 3
        have y4:=HBv.out.cell 4
        clear hgv
        go_upto_region 7 with (fail)
        go_region
        have hg2:rb≠g:=by omega
        have hg3:w.heap.size≠g:=by omega
        generalize hU:((((V.setCell ⟨g,k*10+2,none⟩ (.bool had)).setCell ⟨g,k*10+3,none⟩ (.int .i64 o0)).setCell ⟨g,k*10+3+1,none⟩ (.int .i64 o1)).setCell ⟨g,k*10+3+2,none⟩ (.int .i64 o2)).drew=U
        have HGu:=Lib.hid (show ChgB U g (mixC rs l (k+1)) by
          rw [← mixC_succ rs l k _ HX.out,HF.out,← hU]
          exact ChgB.drew (ChgB.fill HGv.out HXM.out had o0 o1 o2))
        have HRu:=Lib.hid (show Blk U rb 43 #[.int .i64 ((n:Int)+1),.slice (some ⟨g,0,none⟩) l.length d] by
          rw [← hU]
          exact Blk.drew ((((HRv.out.far hg2 (.bool had) (p:=⟨g,k*10+2,none⟩)).far hg2 (.int .i64 o0) (p:=⟨g,k*10+3,none⟩)).far hg2 (.int .i64 o1) (p:=⟨g,k*10+3+1,none⟩)).far hg2 (.int .i64 o2) (p:=⟨g,k*10+3+2,none⟩)))
        have HZu:=Lib.hid (show Blk U w.heap.size 43 #[.int .i64 0,.slice none 0 0] by
          rw [← hU]
          exact Blk.drew ((((HZv.out.far hg3 (.bool had) (p:=⟨g,k*10+2,none⟩)).far hg3 (.int .i64 o0) (p:=⟨g,k*10+3,none⟩)).far hg3 (.int .i64 o1) (p:=⟨g,k*10+3+1,none⟩)).far hg3 (.int .i64 o2) (p:=⟨g,k*10+3+2,none⟩)))
        have hgg:w.heap.size≤g:=by omega
        have HEu:=Lib.hid (show Below w.heap.size w U by rw [← hU];exact (ext_set (ext_set (ext_set (ext_set (ext_call HE.out HEv.out) hgg _) hgg _) hgg _) hgg _).drew)
        clear hU c2 c3 c4 c5 f2 f3 f4 f5 y2 y3 y4
        go_wp2
        go_roundw
        case rel=>exact ⟨k+1,by omega,by go_num,HGu.out,HRu.out,HZu.out,HEu.out⟩
        case measure=>simp [intOf];omega
    · have d1:decide ((k:Int)<(l.length:Int))=false:=by simp;omega
      have hHR:=HZB.out
      have z0:=hHR.cell 0
      have z1:=hHR.cell 1
      have zf0:=hHR.frozen 0
      have zf1:=hHR.frozen 1
      have hRB:=HRB.out
      have x0:=hRB.cell 0
      have x1:=hRB.cell 1
      have hrl:=hRB.lt
      have hgb:ChgB wr g (l.map (fillC rs)):=by rw [← mixC_all rs l k (by omega)];exact HGB.out
      have HGB2:=Lib.hid hgb
      clear hHR hRB hgb
      go_wp2
      have hBf:=(HZB.out.set_ 0 (.int .i64 ((n:Int)+1))).set_ 1 (.slice (some ⟨g,0,none⟩) l.length d)
      have y0:=hBf.cell 0;have y1:=hBf.cell 1
      have hg3:g≠w.heap.size:=by omega
      refine bodyPost_ret (v:=.agg #[.int .i64 ((n:Int)+1),.slice (some ⟨g,0,none⟩) l.length d]) (by simp [results,Tryz.results65,go_sem,y0,y1]) rfl ⟨_,rfl,?_,ext_set (ext_set HE.out (Nat.le_refl _) _) (Nat.le_refl _) _⟩
      have h9:=ChgB.at_ ((HGB2.out.far hg3 (p:=⟨w.heap.size,0,none⟩) (.int .i64 ((n:Int)+1))).far hg3 (p:=⟨w.heap.size,1,none⟩) (.slice (some ⟨g,0,none⟩) l.length d)) (c:=d) (by rw [List.length_map];exact HD.out)
      rw [List.length_map] at h9
      exact h9
theorem commitX (w0:World) (hR:RoundOK w0) (gs gl gst gm:Nat) (cs:Array Value) (rv hv:Value) (R:List (List ChgT × Nat × Nat)) (H:List (ByteArray × ByteArray)) (rs:List RowT) (last:ByteArray × ByteArray) (hlast:H[R.length]? = some last) (l:List ChgT) (v:Value) (w:World) (hE0:Below w0.heap.size w0 w)
    (hS:ServX w0.heap.size w gs gl gst gm cs rv hv R H rs) (hn:R.length≤50) (hvl:ChgsAt w v l) (hl20:l.length≤20) (hrs:(applyF rs (l.map (fillC rs))).length≤60) :
    Calls Tryz.prog 26 #[.pointer (some ⟨gs,0,none⟩),v] w fun e w'=>
      (vrecF (l.map (fillC rs))=false∧e=.returned (.tuple #[.int .i64 0,.int .i64 270])∧Below w.heap.size w w') ∨
      (vrecF (l.map (fillC rs))=true∧e=.returned (.tuple #[.int .i64 ((R.length:Int)+1),.int .i64 0])∧(∃ rv2 hv2 g d,ServX w0.heap.size w' gs gl gst gm cs rv2 hv2 (R++[(l.map (fillC rs),g,d)]) (H++[(chainF last.1 (encG (encRec ((R.length:Int)+1) (l.map (fillC rs)))),stRootF (applyF rs (l.map (fillC rs))))]) (applyF rs (l.map (fillC rs))))∧Below w0.heap.size w0 w'∧ExtS (fun k=>StS gst gm k∨ApX gl rv hv k) w w'):=by
  have h0:w.cell? ⟨gs,0,none⟩=some (.pointer (some ⟨gl,0,none⟩)):=(hS.srv.cell 0).trans hS.c0
  have h1:w.cell? ⟨gs,1,none⟩=some (.pointer (some ⟨gst,0,none⟩)):=(hS.srv.cell 1).trans hS.c1
  obtain ⟨A,cr,hrv⟩:=own_shape hS.log.recs
  have hF:=filledX rs l v gs gl gst R.length cr A hv (by omega) w h0 h1 (by have h9:=hS.log.log;rw [hrv] at h9;exact h9) hvl (by omega) (fun t k W hk=>getR_any gst gm _ rs t k W (hS.st.ext hk))
  have HF:=Lib.hid hF
  have hfit2:∀ c ∈ l.map (fillC rs),fillC rs c=c:=fun c hc=>by
    obtain ⟨d,hd,rfl⟩:=List.mem_map.1 hc
    exact fill_fill rs d
  have hlen2:(l.map (fillC rs)).length≤20:=by rw [List.length_map];exact hl20
  have HLT:=Lib.hid hlast
  obtain ⟨l2,hl2⟩:∃ l2,l2=l.map (fillC rs):=⟨_,rfl⟩
  rw [← hl2] at HF hfit2 hlen2 hrs ⊢
  have HFT:=Lib.hid hfit2
  have HL20:=Lib.hid hlen2
  have HRS:=Lib.hid hrs
  have HS:=Lib.hid hS
  have HE0:=Lib.hid hE0
  have HR:=Lib.hid hR
  have hR50:=hn
  have hgsl:=hS.srv.lt
  obtain ⟨n,hnn⟩:∃ n,n=R.length:=⟨_,rfl⟩
  have HNN:=Lib.hid hnn
  rw [← hnn] at HF HLT hn ⊢
  have H0:=Lib.hid (And.intro h0 h1)
  clear h0 h1 hrv hF hfit2 hlen2 hl2 hS hE0 hR hvl hl20 hrs hlast hR50 hnn
  go_enter Tryz.func26,Tryz.ntmps26
  go_wp2_with fail
  refine HF.out.mono ?_
  rintro e W1 ⟨u,rfl,hu,hb1⟩
  have hu2:=hu
  obtain ⟨Au,cu,huv,-⟩:=hu2
  subst huv
  go_wp2
  obtain ⟨X,hX⟩:∃ X,X=W1.alloc (.cells #[.int .i64 ((n:Int)+1),.slice Au l2.length cu] 43):=⟨_,rfl⟩
  rw [← hX]
  have HE:=Lib.hid (show Below w.heap.size w X by rw [hX];exact ext_alloc hb1 _)
  have HRX:=Lib.hid (show Blk X W1.heap.size 43 #[.int .i64 ((n:Int)+1),.slice Au l2.length cu] by rw [hX];exact Blk.new _ _ _)
  have HUX:=Lib.hid (show ChgsAt X (.slice Au l2.length cu) l2 by rw [hX];exact hu.ext (ext_new _ _))
  have HSX:=Lib.hid (HS.out.ext HE.out)
  have hw1:=hb1.size
  clear hX hu hb1
  have hpos:(0:Int)≤(n:Int)∧(n:Int)≤1000:=by omega
  have hfew:=HSX.out.size
  have HST:=Lib.hid (show StateR X gst gm (n:Int) rs by have:=HSX.out.st;rw [← HNN.out] at this;exact this)
  have HA:=Lib.hid (fun (W:World) (k:Below X.heap.size X W)=>applyG rs l2 (.slice Au l2.length cu) gst gm (n:Int) hpos W (HST.out.ext k) (HUX.out.ext k) (by have:=HL20.out;omega) (by omega) HFT.out)
  clear hpos hfew
  have a0:=HRX.out.cell 0
  have a1:=HRX.out.cell 1
  have s0:=cell_ext H0.out.1 HE.out
  have s1:=cell_ext H0.out.2 HE.out
  cases hvf:vrecF l2 with
  | false=>
    have HA2:=Lib.hid (fun (W:World) (k:Below X.heap.size X W)=>show Calls Tryz.prog 13 #[.pointer (some ⟨gst,0,none⟩),.agg #[.int .i64 ((n:Int)+1),.slice Au l2.length cu]] W fun e w'=>e=.returned (.int .i64 40)∧Below W.heap.size W w' from
      (HA.out W k).mono fun e w' h=>by
        rcases h with ⟨_,h1,h2⟩|⟨h1,_⟩
        · exact ⟨h1,h2⟩
        · rw [hvf] at h1;cases h1)
    have HVF:=Lib.hid hvf
    have HK:=Lib.hid (show X.cell? ⟨gs,1,none⟩=some (.pointer (some ⟨gst,0,none⟩))∧X.cell? ⟨W1.heap.size,0,none⟩=some (.int .i64 ((n:Int)+1))∧X.cell? ⟨W1.heap.size,1,none⟩=some (.slice Au l2.length cu) from ⟨s1,a0,a1⟩)
    clear HA hvf
    go_region_held3 (fun w'=>w'.cell? ⟨gs,1,none⟩=some (.pointer (some ⟨gst,0,none⟩))∧w'.cell? ⟨W1.heap.size,0,none⟩=some (.int .i64 ((n:Int)+1))∧w'.cell? ⟨W1.heap.size,1,none⟩=some (.slice Au l2.length cu)∧Below X.heap.size X w')
      (first|with_reducible assumption|exact keep3B HK.out (by repeat (first|with_reducible refine Below.drew ?_|with_reducible assumption|with_reducible exact ext_refl _)))
      (first|(go_at_call 13;(with_reducible refine (HA2.out _ ?_).mono ?_);(exact keep3E (by assumption));rintro e W2 ⟨rfl,hb'⟩;have hE2:=ext_call (keep3E (by assumption)) hb'))
    all_goals
      have HE2:=Lib.hid (ext_call HE.out hE2)
      clear hb' hE2 a0 a1 s0 s1
      go_wp2
      go_ret2
      exact .inl ⟨HVF.out,rfl,HE2.out⟩
  | true =>
    have HVF:=Lib.hid hvf
    have HCV:=Lib.hid ((vrecF_iff l2).1 hvf)
    have HA2:=Lib.hid (fun (W:World) (k:Below X.heap.size X W)=>show Calls Tryz.prog 13 #[.pointer (some ⟨gst,0,none⟩),.agg #[.int .i64 ((n:Int)+1),.slice Au l2.length cu]] W fun e w'=>e=.returned (.int .i64 0)∧StateR w' gst gm ((n:Int)+1) (applyF rs l2)∧Ext2 gst gm W w' from
      (HA.out W k).mono fun e w' h=>by
        rcases h with ⟨h1,_⟩|⟨_,h1,h2,h3⟩
        · rw [hvf] at h1;cases h1
        · exact ⟨h1,h2,h3⟩)
    have hns:¬ StS gst gm gs:=by
      rintro (e|e)
      · exact blkNe HSX.out.srv HST.out.1 (by decide) e
      · subst e
        obtain ⟨es,c,hm,_⟩:=HST.out.2
        have hb:=HSX.out.srv
        unfold Blk at hb
        unfold MapAt at hm
        rw [hm] at hb
        cases hb
    have HNS:=Lib.hid hns
    have hnr:¬ StS gst gm W1.heap.size:=by
      rintro (e|e)
      · have:=HS.out.st.1.lt;omega
      · have:=HS.out.st.2.lt;omega
    have HK:=Lib.hid (show X.cell? ⟨gs,0,none⟩=some (.pointer (some ⟨gl,0,none⟩))∧X.cell? ⟨gs,1,none⟩=some (.pointer (some ⟨gst,0,none⟩))∧X.cell? ⟨W1.heap.size,0,none⟩=some (.int .i64 ((n:Int)+1))∧X.cell? ⟨W1.heap.size,1,none⟩=some (.slice Au l2.length cu) ∧
      ¬ StS gst gm gs∧¬ StS gst gm gs∧¬ StS gst gm W1.heap.size∧¬ StS gst gm W1.heap.size from ⟨s0,s1,a0,a1,hns,hns,hnr,hnr⟩)
    clear HA hvf hns hnr
    go_region_held3 (fun w'=>w'.cell? ⟨gs,0,none⟩=some (.pointer (some ⟨gl,0,none⟩))∧w'.cell? ⟨gs,1,none⟩=some (.pointer (some ⟨gst,0,none⟩))∧w'.cell? ⟨W1.heap.size,0,none⟩=some (.int .i64 ((n:Int)+1))∧w'.cell? ⟨W1.heap.size,1,none⟩=some (.slice Au l2.length cu)∧ExtS (StS gst gm) X w')
      (first|with_reducible assumption|exact keepS4 HK.out (by first|with_reducible assumption|exact ExtS.of_ext (ext_refl X).drew))
      (first|(go_at_call 13;(with_reducible refine (HA2.out _ ?_).mono ?_);(exact (ext_refl X).drew);rintro e W2 ⟨rfl,hs2,he2⟩;have hx2:ExtS (StS gst gm) X W2:=(ExtS.of_ext (ext_refl X).drew).trans (ExtS.of_ext2 he2 (.inl rfl) (.inr rfl))))
    have HS2:=Lib.hid hs2
    have HX2:=Lib.hid hx2
    have HLG2:=Lib.hid (HSX.out.log.keepSt HST.out hx2)
    have HU2:=Lib.hid (HUX.out.extS HST.out hx2)
    have HSV2:=Lib.hid (ExtS.blk HSX.out.srv hx2 HNS.out)
    have HE2:=Lib.hid (show Below w0.heap.size w0 W2 from ExtS.below (ext_call HE0.out HE.out) (by rintro k (rfl|rfl);exact HS.out.base.2.1;exact HS.out.base.2.2) hx2)
    have HK2:=Lib.hid (keepS4 HK.out hx2)
    have HOK2:=Lib.hid (And.intro (rows_ok_apply HS.out.rok HCV.out.1.ok) (HS.out.apart.apply l2))
    clear hs2 he2 hx2 a0 a1 s0 s1 HK
    have s0:=HK2.out.1
    have s1:=HK2.out.2.1
    have a0:=HK2.out.2.2.1
    have a1:=HK2.out.2.2.2.1
    have hna:∀ k:Nat,w.heap.size≤k→¬ ApX gl rv hv k:=fun k hk=>by
      rintro (h|h|h)
      · have:=HS.out.log.log.lt;omega
      · have:=(HS.out.log.recs.lt k h).2;omega
      · have:=(HS.out.log.heads.lt k h).2;omega
    have hngs:¬ ApX gl rv hv gs:=by
      rintro (h|h|h)
      · exact blkNe HS.out.srv HS.out.log.log (by decide) h
      · exact own_not HS.out.log.recs HS.out.srv (by decide) h
      · exact own_not HS.out.log.heads HS.out.srv (by decide) h
    have hnr:=hna W1.heap.size hw1
    have HNG:=Lib.hid hngs
    have HK:=Lib.hid (show W2.cell? ⟨gs,0,none⟩=some (.pointer (some ⟨gl,0,none⟩))∧W2.cell? ⟨gs,1,none⟩=some (.pointer (some ⟨gst,0,none⟩))∧W2.cell? ⟨W1.heap.size,0,none⟩=some (.int .i64 ((n:Int)+1))∧W2.cell? ⟨W1.heap.size,1,none⟩=some (.slice Au l2.length cu) ∧
      ¬ ApX gl rv hv gs∧¬ ApX gl rv hv gs∧¬ ApX gl rv hv W1.heap.size∧¬ ApX gl rv hv W1.heap.size from ⟨s0,s1,a0,a1,hngs,hngs,hnr,hnr⟩)
    have HRt:=Lib.hid (fun (W:World) (k:Below W2.heap.size W2 W)=>stateRootS (applyF rs l2) HOK2.out.1 HRS.out HOK2.out.2 gst gm ((n:Int)+1) W (HS2.out.ext k) (HR.out.below (ext_call HE2.out k)))
    have HAp:=Lib.hid (fun (t:ByteArray) (ht:t.size=32) (W:World) (k:Below W2.heap.size W2 W)=>show Calls Tryz.prog 19 #[.pointer (some ⟨gl,0,none⟩),.agg #[.int .i64 ((n:Int)+1),.slice Au l2.length cu],.string t] W fun e w'=>e=.returned (.int .i64 0)∧(∃ rv2 hv2 g d,LogG w0.heap.size w' gl rv2 hv2 (R++[(l2,g,d)]) (H++[(chainF last.1 (encG (encRec ((n:Int)+1) l2)),t)]))∧ExtS (ApX gl rv hv) W w' from by
      have h9:=logAppendX w0.heap.size gl rv hv R H l2 (.slice Au l2.length cu) t ht (by have:=HNN.out;omega) W (Nat.le_trans HE2.out.size k.size) (HLG2.out.ext k) last (by rw [← HNN.out];exact HLT.out) (HU2.out.ext k) HCV.out.1 HCV.out.2 (HR.out.below (ext_call HE2.out k))
      rw [← HNN.out] at h9
      exact h9.mono fun e w' ⟨h1,rv2,hv2,g,d,h2,h3⟩=>⟨h1,⟨rv2,hv2,g,d,h2⟩,h3⟩)
    clear hna hngs hnr HK2
    go_upto_region 6 with (fail)
    go_region_held3 (fun w'=>w'.cell? ⟨gs,0,none⟩=some (.pointer (some ⟨gl,0,none⟩))∧w'.cell? ⟨gs,1,none⟩=some (.pointer (some ⟨gst,0,none⟩))∧w'.cell? ⟨W1.heap.size,0,none⟩=some (.int .i64 ((n:Int)+1))∧w'.cell? ⟨W1.heap.size,1,none⟩=some (.slice Au l2.length cu)∧ExtS (ApX gl rv hv) W2 w')
      (first|with_reducible assumption|exact keepS4 HK.out (by first|with_reducible assumption|exact ExtS.of_ext (ext_refl W2).drew|exact ExtS.of_ext (by assumption)))
      (first
        | (go_at_call 10;(with_reducible refine (HRt.out _ ?_).mono ?_);(exact (ext_refl W2).drew);rintro e W3 ⟨rfl,hb3⟩;have ht:=stRootF_size (applyF rs l2);have hE3:Below W2.heap.size W2 W3:=ext_call (ext_refl W2).drew hb3)
        | (go_at_call 19;(with_reducible refine (HAp.out _ ?_ _ ?_).mono ?_);(assumption);(assumption);rintro e W4 ⟨rfl,hlr,he4⟩;have hx4:ExtS (ApX gl rv hv) W2 W4:=(ExtS.of_ext (by assumption)).trans he4))
    have HLR:=Lib.hid hlr
    have HX4:=Lib.hid hx4
    have r0:=(keepS4 HK.out hx4).2.2.1
    clear hlr he4 hx4 hE3 hb3 s0 s1 a0 a1
    go_wp2
    go_ret2
    refine .inr ⟨HVF.out,rfl,?_,?_,((ExtS.of_ext HE.out).trans (HX2.out.mono fun k h=>.inl h)).trans (HX4.out.mono fun k h=>.inr h)⟩
    · obtain ⟨rv2,hv2,g,d,hl4⟩:=HLR.out
      have HNC:=Lib.hid (show ChainOK (R++[(l2,g,d)]) (H++[(chainF last.1 (encG (encRec ((n:Int)+1) l2)),stRootF (applyF rs l2))]) by
        have h9:=HS.out.chain.snoc (l:=l2) (g:=g) (d:=d) (last:=last) (t:=stRootF (applyF rs l2)) HS.out.log.len (by rw [← HNN.out];exact HLT.out)
        rwa [← HNN.out] at h9)
      refine ⟨rv2,hv2,g,d,ExtS.blk HSV2.out HX4.out HNG.out,HS.out.c0,HS.out.c1,hl4,?_,HOK2.out.1,HOK2.out.2,by have:=HRS.out;omega,fun x hx=>?_,HS.out.run.snoc HS.out.rows HCV.out.1 HCV.out.2 HFT.out HS.out.size,rows_snoc HS.out.rows,HS.out.heads.snoc HS.out.log.len HS.out.rows,HNC.out,HS.out.base⟩
      · have h9:=HS2.out.keepLog HLG2.out HX4.out
        rw [List.length_append,← HNN.out]
        have e9:((n+1:Nat):Int)=(n:Int)+1:=by omega
        simpa [e9] using h9
      · rcases List.mem_append.1 hx with h|h
        · exact HS.out.good x h
        · simp at h;subst h;exact ⟨HCV.out.1,HCV.out.2⟩
    · refine ExtS.below HE2.out ?_ HX4.out
      rintro k (h|h|h)
      · rw [h];exact HS.out.base.1
      · exact (HS.out.log.recs.lt k h).1
      · exact (HS.out.log.heads.lt k h).1
end Go.Proofs.YtnajpjnnlocfgaaGreatDoor
