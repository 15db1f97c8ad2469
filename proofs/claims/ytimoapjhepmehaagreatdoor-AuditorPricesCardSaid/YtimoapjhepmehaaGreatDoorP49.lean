/-
  package proof: Check at an answer to a query for a row.
-/
import Derived.Test.YtimoapjhepmehaaGreatDoorP46
import Derived.Test.YtimoapjhepmehaaGreatDoorP47
import Derived.Test.YtimoapjhepmehaaGreatDoorP48
import Derived.Test.YtimoapjhepmehaaGreatDoorP21
import Derived.Deep.RegionHeld3
set_option linter.unusedSimpArgs false
set_option linter.unusedVariables false
set_option maxHeartbeats 4000000
set_option maxRecDepth 100000
namespace Go.Proofs.YtimoapjhepmehaaGreatDoor
open Go.RowKit Go.Shelf
attribute [local go_sem ↓] Go.wp_at_zero Go.wp_at_succ
theorem isFalseG (p:RPT) (s:ByteArray) (bh:Nat) (a b d q c1:Value) (w:World) (hh:Blk w bh 52 #[q,c1,.string s]) (hs:RPS (fun _=>True) w p a b d)
    (hV:∀ W:World,Below w.heap.size w W→Calls Tryz.prog 60 #[.string s,.agg (p.nums a b d)] W fun e w'=>e=.returned (.bool true)∧Below W.heap.size W w') :
    Calls Tryz.prog 59 #[.agg (p.nums a b d),.pointer (some ⟨bh,0,none⟩)] w fun e w'=>e=.returned (.bool false)∧Below w.heap.size w w':=by
  obtain ⟨A1,c1',ha,-⟩:=hs.rows
  obtain ⟨A2,c2',hb,-⟩:=hs.paths
  obtain ⟨A3,c3',hd,-⟩:=hs.roots
  obtain ⟨t,jj,lo,hi,n,f,rows,paths,roots⟩:=p
  dsimp only [RPT.nums] at *
  generalize rows.length=l1 at *
  generalize paths.length=l2 at *
  generalize roots.length=l3 at *
  subst ha hb hd
  have HE:=Lib.hid (ext_new w (.cells #[.int .i64 t,.int .i64 jj,.int .i64 lo,.int .i64 hi,.int .i64 n,.int .i64 f,.slice A1 l1 c1',.slice A2 l2 c2',.slice A3 l3 c3'] 126))
  have HV:=Lib.hid (hV _ HE.out)
  have h2:w.cell? ⟨bh,2,none⟩=some (.string s):=hh.cell 2
  have hl:=hh.lt
  clear hh hV hs
  go_enter Tryz.func59,Tryz.ntmps59
  go_wp2_with fail
  refine HV.out.mono ?_
  rintro e W1 ⟨rfl,hb1⟩
  have HE1:=Lib.hid (ext_call HE.out hb1)
  clear hb1
  go_wp2
  go_ret
  exact ⟨rfl,HE1.out⟩
theorem containsNoG (p:RPT) (s:ByteArray) (bh:Nat) (rv q c1:Value) (w:World) (hh:Blk w bh 52 #[q,c1,.string s]) (hr:RPsS (fun _=>True) w rv [p])
    (hV:∀ (a b d:Value) (W:World),Below w.heap.size w W→RPS (fun _=>True) W p a b d→Calls Tryz.prog 60 #[.string s,.agg (p.nums a b d)] W fun e w'=>e=.returned (.bool true)∧Below W.heap.size W w') :
    Calls Tryz.prog 61 #[rv,.func (.func 59) #[] #[.pointer (some ⟨bh,0,none⟩)]] w fun e w'=>e=.returned (.bool false)∧Below w.heap.size w w':=by
  obtain ⟨g,c,a,b,d,rfl,hs,hg⟩:=hr.one
  have HI:=Lib.hid (show Calls Tryz.prog 106 #[.slice (some ⟨g,0,none⟩) 1 c,.func (.func 59) #[] #[.pointer (some ⟨bh,0,none⟩)]] w fun e w'=>e=.returned (.int .i64 (-1))∧Below w.heap.size w w' from by
    have HF:=Lib.hid (isFalseG p s bh a b d q c1 w hh hs (fun W h=>hV a b d W h (hs.ext h)))
    obtain ⟨A1,c1',ha,-⟩:=hs.rows
    obtain ⟨A2,c2',hb,-⟩:=hs.paths
    obtain ⟨A3,c3',hd,-⟩:=hs.roots
    obtain ⟨t,jj,lo,hi,n,f,rows,paths,roots⟩:=p
    dsimp only [RPT.nums] at *
    generalize rows.length=l1 at *
    generalize paths.length=l2 at *
    generalize roots.length=l3 at *
    subst ha hb hd
    have q0:=hg 0 (by omega)
    have q1:=hg 1 (by omega)
    have q2:=hg 2 (by omega)
    have q3:=hg 3 (by omega)
    have q4:=hg 4 (by omega)
    have q5:=hg 5 (by omega)
    have q6:=hg 6 (by omega)
    have q7:=hg 7 (by omega)
    have q8:=hg 8 (by omega)
    simp only [List.getElem?_toArray,List.getElem?_cons_zero,List.getElem?_cons_succ] at q0 q1 q2 q3 q4 q5 q6 q7 q8
    clear hg hh hr hV hs
    go_enter Tryz.func106,Tryz.ntmps106
    go_wp2
    refine wp_loop_rounds 2 ?_
    rw [rounds_succ]
    go_wp2_with fail
    refine HF.out.mono ?_
    rintro e W1 ⟨rfl,hb1⟩
    have HE1:=Lib.hid hb1
    clear hb1 q0 q1 q2 q3 q4 q5 q6 q7 q8
    go_wp2
    rw [rounds_succ]
    go_wp2
    go_ret
    exact ⟨rfl,HE1.out⟩)
  clear hg hh hr hV hs
  go_enter Tryz.func61,Tryz.ntmps61
  go_wp2_with fail
  refine HI.out.mono ?_
  rintro e W1 ⟨rfl,hb1⟩
  have HE1:=Lib.hid hb1
  clear hb1
  go_wp2
  go_ret
  exact ⟨rfl,HE1.out⟩
theorem checkQ (rs:List RowT) (hrs:∀ r ∈ rs,r.ok) (hsz:rs.length≤60) (hap:Apart rs) (T:Nat) (hT:T≤3) (k:Int) (hq:QryT.Ok ⟨1,(T:Int),0,k,k,0,0⟩) (hk1:1≤k) (Lc:List (List ChgT)) (base q:Nat) (hqe:q=base+Lc.length) (h60:q≤60)
    (hch:∀ L ∈ Lc,L.length≤8∧∀ c ∈ L,c.ok∧c.turns=true) (hfo:∀ l ∈ Lc,ChgsOK l∧validF l=true) (hlen:(rowsP (proveF rs (T:Int) 0 k k) 0).length≤100) (hone:OneK (T:Int) k (rowsP (proveF rs (T:Int) 0 k k) 0))
    (ca sa cb sb:ByteArray) (hca:ca.size=32) (hsa:sa=stRootF rs) (hcb:cb.size=32) (hsb:sb.size=32) (hcc:cb=chainK base ca Lc Lc.length) (hst:Lc.length=0→sa=sb)
    (u rv lv:Value) (w:World) (ha:AnsQ w (replF (T:Int) k (rowsP (proveF rs (T:Int) 0 k k) 0) Lc) (proveF rs (T:Int) 0 k k) base Lc u rv lv) (hR:RoundOK w) :
    Calls Tryz.prog 31 #[.agg #[.int .i64 (base:Int),.string ca,.string sa],.agg #[.int .i64 (q:Int),.string cb,.string sb],.agg (ansArr (T:Int) k u 0 false (sinceF (T:Int) k base Lc Lc.length:Int) (q:Int) (base:Int) rv lv)] w
      fun e w'=>e=.returned (.bool true)∧Below w.heap.size w w':=by
  have hmf:∀ (fn:Fn) (first cap:Array Value) (w:World),(Instr.makeFunc fn first cap).run Tryz.prog w=.ok (.func fn first cap) w:=fun _ _ _ _=>rfl
  have hcp:=proveF_comp hap hrs hsz (T:Int) (by omega) 0 (by omega) k k (by omega)
  have hpl:(proveF rs (T:Int) 0 k k).paths.length=(proveF rs (T:Int) 0 k k).rows.length:=proveF_pathsLen rs (T:Int) 0 k k
  have hrl:(proveF rs (T:Int) 0 k k).rows.length≤1000:=by
    have h1:=proveF_rowsLen rs (T:Int) 0 k k
    have h2:toN rs (T:Int) 0 k≤(ordR rs (T:Int) 0).length:=by unfold toN;omega
    have h3:(ordR rs (T:Int) 0).length≤rs.length:=selF_length _ _ _ _ _
    omega
  have hps:∀ x ∈ (proveF rs (T:Int) 0 k k).paths,x.length≤1000:=fun x hx=>by
    obtain ⟨i,_,rfl⟩:=List.mem_map.1 (show x ∈ (List.range (toN rs (T:Int) 0 k-fromN rs (T:Int) 0 k)).map (fun i=>pathF (ordS rs (T:Int) 0) (fromN rs (T:Int) 0 k+i)) from hx)
    unfold pathF
    rw [List.length_reverse,List.length_map]
    exact Nat.le_trans (wayL_length _ _ _) (Nat.le_trans (ordS_length rs (T:Int) 0) (by omega))
  have hro:(proveF rs (T:Int) 0 k k).roots.length≤1000:=by show (sumsF rs).length≤1000;simp [sumsF]
  have hsa32:sa.size=32:=by rw [hsa];exact stRootF_size rs
  have hol:=hone.repl Lc
  have HST:=Lib.hid (fun (a b d:Value) (W:World) (h:RoundOK W) (hs:RPS (fun _=>True) W (proveF rs (T:Int) 0 k k) a b d)=>show Calls Tryz.prog 60 #[.string sa,.agg ((proveF rs (T:Int) 0 k k).nums a b d)] W fun e w'=>e=.returned (.bool true)∧Below W.heap.size W w' from by
    rw [hsa];exact stVerifyG rs hrs hsz hap T 0 hT (by omega) k k (by omega) a b d W hs h)
  obtain ⟨si,hsi⟩:∃ si:Int,si=(sinceF (T:Int) k base Lc Lc.length:Int):=⟨_,rfl⟩
  obtain ⟨un,hun⟩:∃ un:Int,un=(q:Int):=⟨_,rfl⟩
  have HBU:=Lib.hid (fun (W:World) (h:Below w.heap.size w W)=>show Calls Tryz.prog 27 #[.agg #[.int .i64 1,.int .i64 (T:Int),.int .i64 0,.int .i64 k,.int .i64 k,.int .i64 0,.int .i64 0,.int .i64 0,.int .i64 (base:Int),rv],lv] W fun e w'=>∃ u' rv' lv',e=.returned (.tuple #[.agg (ansArr (T:Int) k u' 0 false si un (base:Int) rv' lv'),.bool true])∧AnsQ w' (replF (T:Int) k (rowsP (proveF rs (T:Int) 0 k k) 0) Lc) (proveF rs (T:Int) 0 k k) base Lc u' rv' lv'∧Below W.heap.size W w' from by
    have h9:=buildQ (T:Int) k hq hk1 Lc (by omega) base (by omega) hch _ hcp rfl rfl rfl rfl hlen hone rv lv W (ha.ext h).rps ha.cap (ha.ext h).recs.off
    rw [show ((base:Int)+(Lc.length:Int))=un by rw [hun,hqe];omega,← hsi] at h9
    exact h9.mono (fun e w' ⟨u,a,b,q1,q2,q3,q4,q5,q6⟩=>⟨u,a,b,q1,⟨q2,q3,q4,q5⟩,q6⟩))
  have HSA:=Lib.hid (fun (u' rv' lv':Value) (W:World) (h:Below w.heap.size w W) (h2:AnsQ W (replF (T:Int) k (rowsP (proveF rs (T:Int) 0 k k) 0) Lc) (proveF rs (T:Int) 0 k k) base Lc u' rv' lv')=>
    proofSameG (T:Int) k si un (base:Int) (replF (T:Int) k (rowsP (proveF rs (T:Int) 0 k k) 0) Lc) (Nat.le_trans hol.1 (by omega)) (proveF rs (T:Int) 0 k k) hrl (by rw [hpl];exact hrl) hps hro (base+1) Lc (by omega) (fun L hL=>by have:=(hch L hL).1;omega) u u' rv rv' lv lv' W (ha.ext h).rows h2.rows (ha.ext h).rps h2.rps (ha.ext h).recs h2.recs)
  have HFO:=Lib.hid (fun (W:World) (h:Below w.heap.size w W)=>followsG Lc lv base q hqe h60 ca sa cb sb hca hsa32 hcb hsb hcc hst hfo W (ha.ext h).recs (hR.below h))
  have HCN:=Lib.hid (fun (bh:Nat) (c1 q1:Value) (W:World) (h:Below w.heap.size w W) (hh:Blk W bh 52 #[q1,c1,.string sa])=>containsNoG (proveF rs (T:Int) 0 k k) sa bh rv q1 c1 W hh (ha.ext h).rps (fun a b d V hV hs=>HST.out a b d V (hR.below (ext_call h hV)) hs))
  rw [← hsi,← hun]
  rw [← hun] at HFO
  obtain ⟨Au,cu,Ar,cr,Al,cl,rfl,rfl,rfl⟩:=ha.shape
  generalize replF (T:Int) k (rowsP (proveF rs (T:Int) 0 k k) 0) Lc=out at *
  generalize proveF rs (T:Int) 0 k k=pp at *
  generalize (T:Int)=t at *
  obtain ⟨nu,hnu⟩:∃ nu,nu=out.length:=⟨_,rfl⟩
  obtain ⟨nl,hnl⟩:∃ nl,nl=Lc.length:=⟨_,rfl⟩
  have HNU:=Lib.hid hnu
  have HNL:=Lib.hid hnl
  rw [← hnu,← hnl] at HSA
  rw [← hnl] at HBU HFO
  rw [← hnu,← hnl]
  unfold ansArr
  clear hrs hsz hap hT hq hk1 hch hfo hlen hone hca hsa hcb hsb hcc hst ha hR hcp hpl hrl hps hro hsa32 hol hsi hun h60 hqe HST hnu hnl
  obtain ⟨X,hX⟩:∃ X,X=((w.alloc (.cells #[.int .i64 (base:Int),.string ca,.string sa] 52)).alloc (.cells #[.int .i64 un,.string cb,.string sb] 52)).alloc (.cells #[.int .i64 1,.int .i64 t,.int .i64 0,.int .i64 k,.int .i64 k,.int .i64 0,.int .i64 0,.slice Au nu cu,.int .i64 0,.bool false,.int .i64 si,.int .i64 un,.int .i64 (base:Int),.slice Ar 1 cr,.slice Al nl cl] 39):=⟨_,rfl⟩
  have hE:Below w.heap.size w X:=by rw [hX];exact ext_alloc (ext_alloc (ext_new _ _) _) _
  have HH:=Lib.hid (show Blk X w.heap.size 52 #[.int .i64 (base:Int),.string ca,.string sa] by rw [hX];exact ((Blk.new _ _ _).alloc _).alloc _)
  have HBa:=Lib.hid (show Blk X (w.heap.size+1+1) 39 #[.int .i64 1,.int .i64 t,.int .i64 0,.int .i64 k,.int .i64 k,.int .i64 0,.int .i64 0,.slice Au nu cu,.int .i64 0,.bool false,.int .i64 si,.int .i64 un,.int .i64 (base:Int),.slice Ar 1 cr,.slice Al nl cl] by rw [hX];exact Blk.new' _ _ _ (by simp))
  have HE:=Lib.hid hE
  have HX:=Lib.hid hX
  clear hE hX
  have hwr:IntKind.i64.wrap 1=1:=by decide
  go_enter Tryz.func31,Tryz.ntmps31
  go_wp2_with fail
  rw [← HX.out]
  refine (HFO.out _ HE.out).mono ?_
  rintro e W1 ⟨rfl,hb1⟩
  have HE1:=Lib.hid hb1
  have HH1:=Lib.hid (HH.out.ext hb1)
  have a13:=(HBa.out.ext hb1).cell 13
  clear hb1
  go_wp2_with fail
  refine (HCN.out _ _ _ _ (ext_call HE.out HE1.out) HH1.out).mono ?_
  rintro e W2 ⟨rfl,hb2⟩
  have HE2:=Lib.hid (ext_call HE1.out hb2)
  have hB2:=HBa.out.ext HE2.out
  obtain ⟨a0,a1,a2,a3,a4,a5,a6,_,_,_,_,_,a12,a13,a14⟩:=cells15 hB2
  clear hb2 hB2
  go_wp2_with fail
  refine (HBU.out _ (ext_call HE.out HE2.out)).mono ?_
  rintro e W3 ⟨u3,r3,l3,rfl,han,hb3⟩
  have HE3:=Lib.hid (ext_call HE2.out hb3)
  obtain ⟨A5,c5,A6,c6,A7,c7,rfl,rfl,rfl⟩:=han.shape
  rw [← HNU.out,← HNL.out] at han ⊢
  have HAN:=Lib.hid han
  have hB3:=HBa.out.ext HE3.out
  obtain ⟨a0,a1,a2,a3,a4,a5,a6,a7,a8,a9,a10,a11,a12,a13,a14⟩:=cells15 hB3
  have al:=hB3.lt
  clear hb3 han hB3
  unfold ansArr
  go_wp2_with fail
  refine (HSA.out _ _ _ _ (ext_call HE.out (ext_alloc HE3.out _)) (HAN.out.ext (ext_new _ _))).mono ?_
  rintro e W4 ⟨rfl,hb4⟩
  have HE4:=Lib.hid (ext_call (ext_alloc HE3.out _) hb4)
  clear hb4 a0 a1 a2 a3 a4 a5 a6 a7 a8 a9 a10 a11 a12 a13 a14 al
  go_wp2
  go_ret
  exact ⟨rfl,ext_call HE.out HE4.out⟩
end Go.Proofs.YtimoapjhepmehaaGreatDoor
