/-
  package statetree: orderOf at any state of valid rows: its rows and their encodings.
-/
import Derived.Test.YtnajpjnnlocfgaaGreatDoorJ23
import Derived.Test.YtnajpjnnlocfgaaGreatDoorJ17
import Derived.Test.YtnajpjnnlocfgaaGreatDoorJ9
set_option linter.unusedSimpArgs false
set_option linter.unusedVariables false
namespace Go.Proofs.YtnajpjnnlocfgaaGreatDoor
open Go.RowKit Go.Shelf
attribute [local go_sem ↓] app_exec app_sem Go.wp_at_zero Go.wp_at_succ
def encRowF (r:RowT):ByteArray:=encG [r.t,r.k,r.a,r.b,r.c]
def ordS (rs:List RowT) (t:Int) (j:Nat):List ByteArray:=(selF rs t j (-1000000000) 1000000000).map encRowF
theorem ordS_size (rs:List RowT) (t:Int) (j:Nat):∀ s ∈ ordS rs t j,s.size≤50:=by
  intro s hs
  obtain ⟨r,_,rfl⟩:=List.mem_map.1 hs
  unfold encRowF
  have:=encG_le [r.t,r.k,r.a,r.b,r.c]
  simpa using this
theorem ordS_length (rs:List RowT) (t:Int) (j:Nat):(ordS rs t j).length≤rs.length:=by
  unfold ordS
  rw [List.length_map]
  exact selF_length _ _ _ _ _
theorem RowsL.far {W:World} {v:Value} {l:List RowT} (h:RowsL W v l) {b:Nat} {x:Value} (hx:W.cell? ⟨b,0,none⟩=some x) (hn:∀ n,x ≠ .int .i64 n) (i:Nat) (u:Value):RowsL (W.setCell ⟨b,i,none⟩ u) v l:=by
  obtain ⟨A,c,rfl,h⟩:=h
  refine ⟨A,c,rfl,fun h0=>?_⟩
  obtain ⟨g,hA,hg,hr⟩:=h h0
  have hne:b≠g:=by
    rintro rfl
    have h1:=hr 0 _ (List.getElem?_eq_getElem h0) 0 (by omega)
    rw [Nat.zero_mul,Nat.zero_add] at h1
    rw [h1] at hx
    exact hn _ (Option.some.inj hx).symm
  refine ⟨g,hA,by simpa [World.setCell] using hg,fun j r hj k hk=>?_⟩
  rw [World.cell?_setCell_far _ _ _ _ hne]
  exact hr j r hj k hk
def OrderS (rs:List RowT) (t:Int) (j:Nat) (W:World) (v1 v2:Value):Prop:=RowsL W v1 (selF rs t j (-1000000000) 1000000000)∧Strs (fun _=>True) W v2 (ordS rs t j)
set_option maxRecDepth 100000 in
set_option maxHeartbeats 4000000 in
theorem orderS (rs:List RowT) (hrs:∀ r ∈ rs,r.ok) (gs gm j:Nat) (pos t:Int) (hj:j<4) (w:World) (hS:StateR w gs gm pos rs) (hsz:rs.length≤1000) (hap:Apart rs) :
    Calls Tryz.prog 128 #[.pointer (some ⟨gs,0,none⟩),.int .i64 t,.int .i64 (j:Int)] w
      fun e w'=>∃ v1 v2,e=.returned (.agg #[v1,v2])∧OrderS rs t j w' v1 v2∧Below w.heap.size w w':=by
  have HS:=Lib.hid hS
  have HRS:=Lib.hid hrs
  clear hS hrs
  go_enter Tryz.func128,Tryz.ntmps128
  go_wp2_with fail
  refine (rangeS rs gs gm j pos t _ _ hj _ (HS.out.ext (ext_new _ _)) hsz hap).mono ?_
  rintro e W1 ⟨v,rfl,hl1,hb1⟩
  have hin:∀ r ∈ selF rs t j (-1000000000) 1000000000,r ∈ rs:=fun r hr=>(selF_mem.1 hr).1
  have hlen:=selF_length rs t j (-1000000000) 1000000000
  obtain ⟨l,hl9⟩:∃ l,l=selF rs t j (-1000000000) 1000000000:=⟨_,rfl⟩
  rw [← hl9] at hl1 hin hlen
  have HL9:=Lib.hid hl9
  clear hl9
  have HB1:=Lib.hid ((Blk.new w 162 #[.slice none 0 0,.slice none 0 0]).ext hb1)
  have HE1:=Lib.hid (ext_call (ext_new w (.cells #[.slice none 0 0,.slice none 0 0] 162)) hb1)
  have HL1:=Lib.hid hl1
  have HSM:=Lib.hid (fun (r:RowT) (hr:r ∈ l)=>HRS.out r (hin r hr))
  have hle:=hlen
  have hwl:w.heap.size<W1.heap.size:=HB1.out.lt
  obtain ⟨A,cl,rfl,-⟩:=hl1
  clear hb1 hin hlen
  go_wp2
  obtain ⟨X,hX⟩:∃ X,X=W1.alloc (.cells #[.slice A l.length cl,.slice none 0 0] 162):=⟨_,rfl⟩
  rw [← hX]
  have HOX:=Lib.hid (show Blk X W1.heap.size 162 #[.slice A l.length cl,.slice none 0 0] by rw [hX];exact Blk.new _ _ _)
  have HEX:=Lib.hid (show Below W1.heap.size W1 X by rw [hX];exact ext_new _ _)
  clear hX
  go_loopw [9,10,11,20,24] (fun _ _ _ i _ W=>∃ (k:Nat) (ev:Value),k≤l.length∧i=.int .i64 k∧Blk W W1.heap.size 162 #[.slice A l.length cl,ev]∧W.ownsRow (W1.heap.size+1) 9 1 ev k (((l.take k).map encRowF).map Value.string)∧Below W1.heap.size W1 W) (fun _ _ _ i _ _=>l.length-(intOf i).toNat)
  case atStart=>exact ⟨0,.slice none 0 0,Nat.zero_le _,rfl,HOX.out,World.ownsRow_nil _ _ _ _,HEX.out⟩
  case round=>
    obtain ⟨k,ev,hk,rfl,hob1,hown,hE⟩:=hrel
    have HOB:=Lib.hid hob1
    have HOW:=Lib.hid hown
    have HE:=Lib.hid hE
    have hbl:=hob1.lt
    clear hob1 hown hE
    by_cases hlt:k<l.length
    · obtain ⟨r,hr⟩:∃ r,l[k]? = some r:=⟨_,List.getElem?_eq_getElem hlt⟩
      obtain ⟨g,c',hA,hg,hc9⟩:=(HL1.out.ext HE.out).at_ hr
      injection hA with hA hn' hc'
      subst hA;subst hc'
      clear hn'
      have hsm:=HSM.out r (List.mem_of_getElem? hr)
      have HENC:=Lib.hid (fun W:World=>rowEncode_G r hsm W)
      have c0:=hc9 0 (by omega)
      have c1:=hc9 1 (by omega)
      have c2:=hc9 2 (by omega)
      have c3:=hc9 3 (by omega)
      have c4:=hc9 4 (by omega)
      have htk:=List.take_add_one (i:=k) (l:=l)
      rw [hr] at htk
      have HTK:=Lib.hid htk
      obtain ⟨s,hs9⟩:∃ s,s=encRowF r:=⟨_,rfl⟩
      have HS9:=Lib.hid hs9
      unfold encRowF at hs9
      rw [← hs9] at HENC
      obtain ⟨r0,r1,r2,r3,r4⟩:=r
      simp only [encR,List.getElem?_cons_zero,List.getElem?_cons_succ,Nat.add_zero] at c0 c1 c2 c3 c4
      have e2:IntKind.i64.wrap ((k:Int)+1)=(k:Int)+1:=by rw [IntWalk.i64_in _ (by omega)]
      have d1:decide ((k:Int)<(l.length:Int))=true:=by simp;omega
      have q0:(0:Int)≤(k:Int):=by omega
      have q1:(k:Int)<(l.length:Int):=by omega
      clear hc9 hr hsm hg hs9 htk
      go_wp2_with fail
      refine (HENC.out _).mono ?_
      rintro e W2 ⟨rfl,hb2⟩
      have HE2:=Lib.hid (ext_call (ext_alloc HE.out (.cells #[.int .i64 r0,.int .i64 r1,.int .i64 r2,.int .i64 r3,.int .i64 r4] 108)) hb2)
      have HO2:=Lib.hid ((HOB.out.alloc (.cells #[.int .i64 r0,.int .i64 r1,.int .i64 r2,.int .i64 r3,.int .i64 r4] 108)).ext hb2)
      have HW2:=Lib.hid (own_ext (HOW.out.alloc (.cells #[.int .i64 r0,.int .i64 r1,.int .i64 r2,.int .i64 r3,.int .i64 r4] 108)) hb2)
      clear hb2 c0 c1 c2 c3 c4
      have o1:=HO2.out.cell 1
      have ol:=HO2.out.lt
      obtain ⟨ha,W4,hW4,v4,hv4,ho4,hg4⟩:=appStr W2 (W1.heap.size+1) (by omega) ev k (((l.take k).map encRowF).map Value.string) HW2.out (by omega) s
      have hown:ev.ownBlock=none∨∃ g,ev.ownBlock=some g∧W1.heap.size+1≤g:=by
        rcases HW2.out.2 with ⟨h1,_⟩|⟨g,cap,cur,h1,h2,_⟩
        · exact .inl (by rw [h1];rfl)
        · exact .inr ⟨g,by rw [h1];rfl,h2⟩
      have HO4:=Lib.hid ((HO2.out.alloc (.cells #[.string s] 9)).grown hg4 (by rcases hown with h|⟨g,h,h2⟩ <;> rw [h];simp;intro h3;have h4:=Option.some.inj h3;omega))
      have HE4:=Lib.hid ((ext_alloc HE2.out (.cells #[.string s] 9)).grown hg4 (ext_alloc HE2.out (.cells #[.string s] 9)).size (fun k e=>by rcases hown with h|⟨g,h,h2⟩ <;> rw [h] at e;cases e;have e2:=Option.some.inj e;omega))
      obtain ⟨A4,c4,hsh4⟩:=own_shape ho4
      subst hsh4
      have HW4:=Lib.hid ho4
      have p1:=HO4.out.cell 1
      have f1:=HO4.out.frozen 1
      have pl:=HO4.out.lt
      clear ho4 hg4 hown
      go_wp2
      go_roundw
      case rel=>
        refine ⟨k+1,.slice A4 (k+1) c4,by omega,by go_num,HO4.out.set_ 1 _,?_,ext_set HE4.out (Nat.le_refl _) _⟩
        · rw [HTK.out,List.map_append,List.map_append]
          show World.ownsRow _ _ _ _ _ _ (_++[Value.string (encRowF _)])
          rw [← HS9.out]
          refine HW4.out.kept (row:=some W1.heap.size) ⟨rfl,rfl,rfl,by simp [World.setCell],fun k _ hk=>Below.heap_setCell _ _ _ _ (fun e=>hk (by rw [e]))⟩ ?_
          rcases HW4.out.2 with ⟨h1,_⟩|⟨g,cap,cur,h1,h2,_⟩
          · exact .inl (by rw [h1];rfl)
          · exact .inr (by rw [h1];simp [Value.ownBlock];omega)
      case measure=>simp [intOf];omega
    · have d1:decide ((k:Int)<(l.length:Int))=false:=by simp;omega
      have hkl:k=l.length:=by omega
      subst hkl
      obtain ⟨A4,c4,hsh4⟩:=own_shape HOW.out
      subst hsh4
      have hBW:=HB1.out.ext HE.out
      have hOB:=HOB.out
      have q0:=hBW.cell 0
      have q1:=hBW.cell 1
      have qf0:=hBW.frozen 0
      have qf1:=hBW.frozen 1
      have p0:=hOB.cell 0
      have p1:=hOB.cell 1
      have HBW:=Lib.hid hBW
      clear hBW hOB
      go_wp2
      have hBf:=(HBW.out.set_ 0 (.slice A l.length cl)).set_ 1 (.slice A4 l.length c4)
      have y0:=hBf.cell 0;have y1:=hBf.cell 1
      refine bodyPost_ret (v:=.agg #[.slice A l.length cl,.slice A4 l.length c4]) (by simp [results,Tryz.results128,go_sem,y0,y1]) rfl ⟨_,_,rfl,⟨?_,?_⟩,ext_set (ext_set (ext_call HE1.out HE.out) (Nat.le_refl _) _) (Nat.le_refl _) _⟩
      · rw [← HL9.out]
        exact ((HL1.out.ext HE.out).far q0 (by intro n h;cases h) 0 (.slice A l.length cl)).far ((HBW.out.set_ 0 (.slice A l.length cl)).cell 0) (by intro n h;cases h) 1 _
      rw [ordS,← HL9.out]
      refine own_strs (base:=W1.heap.size+1) (n:=l.length) ?_ (by simp)
      have hk2:∀ (W:World) (i:Nat) (u:Value),W.ownsRow (W1.heap.size+1) 9 1 (.slice A4 l.length c4) l.length ((l.map encRowF).map Value.string)→(W.setCell ⟨w.heap.size,i,none⟩ u).ownsRow (W1.heap.size+1) 9 1 (.slice A4 l.length c4) l.length ((l.map encRowF).map Value.string):=fun W i u h=>by
        refine h.kept (row:=some w.heap.size) ⟨rfl,rfl,rfl,by simp [World.setCell],fun k _ hk=>Below.heap_setCell _ _ _ _ (fun e=>hk (by rw [e]))⟩ ?_
        rcases h.2 with ⟨h1,_⟩|⟨g,cap,cur,h1,h2,_⟩
        · exact .inl (by rw [h1];rfl)
        · exact .inr (by rw [h1];simp [Value.ownBlock];omega)
      have h9:=HOW.out
      rw [List.take_length] at h9
      exact hk2 _ _ _ (hk2 _ _ _ h9)
end Go.Proofs.YtnajpjnnlocfgaaGreatDoor
