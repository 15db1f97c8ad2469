/-
  package row: put, Encode, EncodeRecord at any valid numbers.
-/
import Derived.Test.YtnajpjnnlocfgaaGreatDoorJ16
set_option linter.unusedSimpArgs false
set_option linter.unusedVariables false
set_option maxHeartbeats 4000000
set_option maxRecDepth 100000
namespace Go.Proofs.YtnajpjnnlocfgaaGreatDoor
open Go.RowKit
attribute [local go_sem ↓] app_exec app_sem Go.wp_at_zero Go.wp_at_succ
def encG:List Int→ByteArray
  | []=>⟨#[]⟩
  | n::l=>putF n++encG l
theorem encG_append (l m:List Int):encG l++encG m=encG (l++m):=by
  induction l with
  | nil=>exact ByteArray.empty_append
  | cons a l ih=>
    show (putF a++encG l)++encG m=putF a++encG (l++m)
    rw [ByteArray.append_assoc,ih]
theorem encG_one (n:Int):encG [n]=putF n:=ByteArray.append_empty
theorem encG_le (l:List Int):(encG l).size≤10*l.length:=by
  induction l with
  | nil=>exact Nat.zero_le _
  | cons a l ih=>
    show (putF a++encG l).size≤_
    rw [ByteArray.size_append,List.length_cons]
    have:=putF_size a
    omega
theorem putInt_enc (n:Int) (h0 : -4611686018427387903≤n) (h1:n≤4611686018427387903) (w:World) :
    Calls Tryz.prog 76 #[.int .i64 n] w fun e w'=>e=.returned (.tuple #[.string (encG [n]),.int .i64 0])∧Below w.heap.size w w':=by
  rw [encG_one]
  exact putInt_all n h0 h1 w
def ChgT.mid (c:ChgT):Prop:=∀ x ∈ [c.t,c.k,c.o1,c.o2,c.o3,c.n1,c.n2,c.n3],-4611686018427387903≤x∧x≤4611686018427387903
theorem ChgT.ok.mid {c:ChgT} (h:c.ok):c.mid:=by
  obtain ⟨h1,h2,h3,h4,h5⟩:=h
  intro x hx
  simp only [List.mem_cons,List.not_mem_nil,or_false] at hx
  omega
theorem rowPut_G (b off c:Nat) (l:List Int) (w:World) (hc:IntsAt w b off l) (hb:b<w.heap.size) (hn:l.length≤1000) (hin:∀ x ∈ l,-4611686018427387903≤x∧x≤4611686018427387903) :
    Calls Tryz.prog 143 #[.slice (some ⟨b,off,none⟩) l.length c] w fun e w'=>e=.returned (.string (encG l))∧Below w.heap.size w w':=by
  have HC:=Lib.hid hc
  have HI:=Lib.hid hin
  clear hc hin
  go_enter Tryz.func143,Tryz.ntmps143
  go_wp2
  go_loopw [3,10] (fun s i wr=>∃ k:Nat,k≤l.length∧i=.int .i64 k∧s=.string (encG (l.take k))∧Below w.heap.size w wr) (fun _ i _=>l.length-(intOf i).toNat)
  case atStart=>exact ⟨0,Nat.zero_le _,rfl,rfl,ext_refl w⟩
  case round=>
    obtain ⟨k,hk,rfl,rfl,hl⟩:=hrel
    by_cases hlt:k<l.length
    · have hcell:=(hl.cell (p:=⟨b,off+k,none⟩) hb).trans (HC.out k l[k] (List.getElem?_eq_getElem hlt))
      have hx:=HI.out l[k] (List.getElem_mem hlt)
      have HS:=Lib.hid (encG_append (l.take k) [l[k]])
      obtain ⟨x,hxe⟩:∃ x,x=l[k]:=⟨_,rfl⟩
      rw [← hxe] at hcell hx HS
      have HT:=Lib.hid (show l.take (k+1)=l.take k++[x] by rw [hxe];exact List.take_succ_eq_append_getElem hlt)
      clear hxe
      obtain ⟨hx1,hx2⟩:=hx
      have hs1:=encG_le (l.take k)
      have hs2:=encG_le [x]
      simp only [List.length_take,List.length_cons,List.length_nil] at hs1 hs2
      have HP:=Lib.hid (fun W:World=>putInt_enc x hx1 hx2 W)
      obtain ⟨s1,es1⟩:∃ s1,s1=encG (l.take k):=⟨_,rfl⟩
      obtain ⟨s2,es2⟩:∃ s2,s2=encG [x]:=⟨_,rfl⟩
      rw [← es1] at HS hs1 ⊢
      rw [← es2] at HS hs2 HP
      have hsum:s1.size+s2.size≤9223372036854775807:=by omega
      have hcat:=fun W:World=>run_string_add_sum (P:=Tryz.prog) (w:=W) s1 s2 hsum
      have HL:=Lib.hid hl
      clear es1 es2 hs1 hs2 hl
      go_wp2_with (go_at_call 76;refine (HP.out _).mono ?_;rintro e W1 ⟨rfl,hb1⟩)
      go_roundw
      case rel=>exact ⟨k+1,by omega,by go_num,by rw [HT.out,HS.out],ext_call HL.out hb1⟩
      case measure=>simp [intOf];omega
    · have HK:=Lib.hid (show l.take k=l from List.take_of_length_le (by omega))
      have HL:=Lib.hid hl
      clear hl
      go_wp2
      go_ret
      exact ⟨by rw [HK.out];rfl,HL.out⟩
theorem rowEncode_G (r:RowT) (hr:r.ok) (w:World):Calls Tryz.prog 172 #[.agg #[.int .i64 r.t,.int .i64 r.k,.int .i64 r.a,.int .i64 r.b,.int .i64 r.c]] w fun e w'=>e=.returned (.tuple #[.string (encG [r.t,r.k,r.a,r.b,r.c]),.int .i64 0])∧Below w.heap.size w w':=by
  have HV:=Lib.hid (fun W:World=>rowValid_yes r W hr)
  have HS:=Lib.hid (show ∀ x ∈ [r.t,r.k],-4611686018427387903≤x∧x≤4611686018427387903 by intro x hx;have:=hr.1;have:=hr.2.1;simp at hx;omega)
  have HS2:=Lib.hid (show ∀ x ∈ [r.a,r.b,r.c],-4611686018427387903≤x∧x≤4611686018427387903 by intro x hx;obtain ⟨_,_,h3,h4,h5⟩:=hr;simp at hx;omega)
  obtain ⟨t,k,a,b,c⟩:=r
  clear hr
  dsimp only at *
  have HB0:=Lib.hid (Blk.new w 108 #[.int .i64 t,.int .i64 k,.int .i64 a,.int .i64 b,.int .i64 c])
  go_enter Tryz.func172,Tryz.ntmps172
  go_wp2_with (go_at_call 160;refine (HV.out _).mono ?_;rintro e W1 ⟨rfl,hb1⟩;have hB1:=HB0.out.ext hb1;have c0:=hB1.cell 0;have c1:=hB1.cell 1;have l1:=hB1.lt;have HL1:=Lib.hid (ext_call (ext_new w _) hb1);have HB1:=Lib.hid hB1;clear hb1 hB1)
  have hsum:(encG [t,k]).size+(encG [a,b,c]).size≤9223372036854775807:=by have h1:=encG_le [t,k];have h2:=encG_le [a,b,c];simp at h1 h2;omega
  have HA:=Lib.hid (encG_append [t,k] [a,b,c])
  have HP1:=Lib.hid (show ∀ W:World,Blk W W1.heap.size 3 #[.int .i64 t,.int .i64 k]→Calls Tryz.prog 143 #[.slice (some ⟨W1.heap.size,0,none⟩) 2 2] W fun e w'=>e=.returned (.string (encG [t,k]))∧Below W.heap.size W w' from fun W h=>rowPut_G W1.heap.size 0 2 [t,k] W (.of_blk h 0 [t,k] rfl) h.lt (by simp) HS.out)
  have HP2:=Lib.hid (show ∀ W:World,Blk W w.heap.size 108 #[.int .i64 t,.int .i64 k,.int .i64 a,.int .i64 b,.int .i64 c]→Calls Tryz.prog 143 #[.slice (some ⟨w.heap.size,2,none⟩) 3 3] W fun e w'=>e=.returned (.string (encG [a,b,c]))∧Below W.heap.size W w' from fun W h=>rowPut_G w.heap.size 2 3 [a,b,c] W (.of_blk h 2 [a,b,c] rfl) h.lt (by simp) HS2.out)
  generalize encG [t,k]=s1 at *
  generalize encG [a,b,c]=s2 at *
  have hcat:=fun W:World=>run_string_add_sum (P:=Tryz.prog) (w:=W) s1 s2 hsum
  go_region_held3 (fun w'=>w'.cell? ⟨w.heap.size,0,none⟩=some (.int .i64 t)∧w'.cell? ⟨w.heap.size,1,none⟩=some (.int .i64 k)∧Blk w' w.heap.size 108 #[.int .i64 t,.int .i64 k,.int .i64 a,.int .i64 b,.int .i64 c]∧Below w.heap.size w w')
    (first|exact ⟨c0,c1,HB1.out,HL1.out.drew⟩|assumption|exact encAl (w:=w) ⟨c0,c1,HB1.out,HL1.out⟩ _|exact encKeep (by assumption) (by assumption))
    (first|(go_at_call 143;(with_reducible refine (HP1.out _ ?_).mono ?_);(exact Blk.new W1 _ _);rintro e w' ⟨rfl,hb'⟩)|(go_at_call 143;(with_reducible refine (HP2.out _ ?_).mono ?_);(exact encB (by assumption));rintro e w' ⟨rfl,hb'⟩))
  go_wp2
  go_ret2
  exact ⟨by rw [show encG [t,k,a,b,c]=s1++s2 from HA.out.symm];rfl,encL (by assumption)⟩
theorem encRecord_G (p:Int) (hp:1≤p∧p≤10000) (l:List ChgT) (v:Value) (w:World) (hv:ChgsAt w v l) (hl:ChgsOK l) (hF:validF l=true):Calls Tryz.prog 97 #[.agg #[.int .i64 p,v]] w fun e w'=>e=.returned (.tuple #[.string (encG (encRec p l)),.int .i64 0])∧Below w.heap.size w w':=by
  have HVR:=Lib.hid (fun (W:World) (k:Below w.heap.size w W)=>validRecord_any p ⟨hp.1,by omega⟩ l v W (hv.ext k) hl)
  rw [hF] at HVR
  have HV:=Lib.hid hv
  have HL:=Lib.hid hl
  have HS:=Lib.hid (fun (x:ChgT) (hx:x ∈ l)=>(hl.ok x hx).mid)
  obtain ⟨A,c,rfl,hc,-⟩:=hv
  have HB0:=Lib.hid (Blk.new w 43 #[.int .i64 p,.slice A l.length c])
  have hfew:=hl.few
  have hp63:=hp
  have HFF:=Lib.hid (show l.all ChgT.turns=true by unfold validF at hF;simp at hF;simpa using hF.2)
  clear hl hF hp
  go_enter Tryz.func97,Tryz.ntmps97
  go_wp2_with fail
  refine (HVR.out _ (ext_new w _)).mono ?_
  rintro e W1 ⟨rfl,hb1⟩
  have hB1:=HB0.out.ext hb1
  have c0:=hB1.cell 0
  have c1:=hB1.cell 1
  have l1:=hB1.lt
  have HB1:=Lib.hid hB1
  have HL1:=Lib.hid (ext_call (ext_new w _) hb1)
  clear hb1 hB1 HVR HB0
  go_wp2_with fail
  refine (rowPut_G W1.heap.size 0 2 [p,(l.length:Int)] _ (.of_blk (Blk.new _ _ _) 0 [p,(l.length:Int)] rfl) (by simp) (by simp) (by intro x hx;simp at hx;omega)).mono ?_
  rintro e W2 ⟨rfl,hb2⟩
  have hB2:=(HB1.out.alloc _).ext hb2
  have c1:=hB2.cell 1
  have l1:=hB2.lt
  have HL2:=Lib.hid (ext_call (ext_alloc HL1.out _) hb2)
  clear hb2 hB2 c0 HB1 HL1
  go_wp2
  clear c1 l1
  go_loopw [4,6,7,8,22] (fun s _ _ _ i W=>∃ k:Nat,k≤l.length∧i=.int .i64 k∧s=.string (encG ([p,(l.length:Int)]++(l.take k).flatMap encChg))∧((l.take k).flatMap encChg).length≤9*k∧Below w.heap.size w W) (fun _ _ _ _ i _=>l.length-(intOf i).toNat)
  case atStart=>exact ⟨0,Nat.zero_le _,rfl,by simp,by simp,HL2.out⟩
  case round=>
    obtain ⟨k,hk,rfl,rfl,hsz9,hE⟩:=hrel
    have HE:=Lib.hid hE
    clear hE
    by_cases hlt:k<l.length
    · obtain ⟨x,hx⟩:∃ x,l[k]? = some x:=⟨_,List.getElem?_eq_getElem hlt⟩
      obtain ⟨b,off,c',hA,_,hc9⟩:=(HV.out.ext HE.out).at_ hx
      injection hA with hA hn' hc'
      subst hA;subst hc'
      clear hn'
      have hsm:=HS.out x (List.mem_of_getElem? hx)
      have HT:=Lib.hid (show (l.take (k+1)).flatMap encChg=(l.take k).flatMap encChg++encChg x by
        have h1:l.take (k+1)=l.take k++[x]:=by rw [List.take_add_one,hx];rfl
        rw [h1,List.flatMap_append];simp)
      have htu:x.turns=true:=List.all_eq_true.1 (show l.all ChgT.turns=true from HFF.out) x (List.mem_of_getElem? hx)
      obtain ⟨t,k',had,o1,o2,o3,has,n1,n2,n3⟩:=x
      have c0:wr.cell? ⟨b,off+k*10,none⟩=some (.int .i64 t):=hc9 0 (by omega)
      have c1:wr.cell? ⟨b,off+k*10+1,none⟩=some (.int .i64 k'):=hc9 1 (by omega)
      have c2:wr.cell? ⟨b,off+k*10+2,none⟩=some (.bool had):=hc9 2 (by omega)
      have c3:wr.cell? ⟨b,off+k*10+3,none⟩=some (.int .i64 o1):=hc9 3 (by omega)
      have c4:wr.cell? ⟨b,off+k*10+4,none⟩=some (.int .i64 o2):=hc9 4 (by omega)
      have c5:wr.cell? ⟨b,off+k*10+5,none⟩=some (.int .i64 o3):=hc9 5 (by omega)
      have c6:wr.cell? ⟨b,off+k*10+6,none⟩=some (.bool has):=hc9 6 (by omega)
      have c7:wr.cell? ⟨b,off+k*10+7,none⟩=some (.int .i64 n1):=hc9 7 (by omega)
      have c8:wr.cell? ⟨b,off+k*10+8,none⟩=some (.int .i64 n2):=hc9 8 (by omega)
      have c9:wr.cell? ⟨b,off+k*10+9,none⟩=some (.int .i64 n3):=hc9 9 (by omega)
      have HSM:=Lib.hid hsm
      have e2:IntKind.i64.wrap ((k:Int)+1)=(k:Int)+1:=by rw [IntWalk.i64_in _ (by omega)]
      have d1:decide ((k:Int)<(l.length:Int))=true:=by simp;omega
      have q0:(0:Int)≤(k:Int):=by omega
      have q1:(k:Int)<(l.length:Int):=by omega
      clear hc9 hx hsm
      have HSS:=Lib.hid hsz9
      clear hsz9
      generalize (l.take k).flatMap encChg=ll at *
      cases had <;> cases has
      · simp [ChgT.turns] at htu
      · skip
        have HB0:=Lib.hid (Blk.new wr 62 #[.int .i64 t,.int .i64 k',.bool false,.int .i64 o1,.int .i64 o2,.int .i64 o3,.bool true,.int .i64 n1,.int .i64 n2,.int .i64 n3])
        have HE0:=Lib.hid (ext_alloc HE.out (.cells #[.int .i64 t,.int .i64 k',.bool false,.int .i64 o1,.int .i64 o2,.int .i64 o3,.bool true,.int .i64 n1,.int .i64 n2,.int .i64 n3] 62))
        have hsz:(wr.alloc (.cells #[.int .i64 t,.int .i64 k',.bool false,.int .i64 o1,.int .i64 o2,.int .i64 o3,.bool true,.int .i64 n1,.int .i64 n2,.int .i64 n3] 62)).heap.size=wr.heap.size+1:=by simp
        have hws:=HE.out.size
        obtain ⟨a1,w1,g1⟩:=app3 (wr.alloc (.cells #[.int .i64 t,.int .i64 k',.bool false,.int .i64 o1,.int .i64 o2,.int .i64 o3,.bool true,.int .i64 n1,.int .i64 n2,.int .i64 n3] 62)) (wr.heap.size+1) (by omega) (.slice none 0 0) 0 [] (World.ownsRow_nil (wr.alloc (.cells #[.int .i64 t,.int .i64 k',.bool false,.int .i64 o1,.int .i64 o2,.int .i64 o3,.bool true,.int .i64 n1,.int .i64 n2,.int .i64 n3] 62)) (wr.heap.size+1) 3 1) (by omega) wr.heap.size 7 n1 n2 n3 (HB0.out.cell 7) (HB0.out.cell 8) (HB0.out.cell 9)
        obtain ⟨X1,hX1⟩:∃ X,appW Tryz.prog (wr.alloc (.cells #[.int .i64 t,.int .i64 k',.bool false,.int .i64 o1,.int .i64 o2,.int .i64 o3,.bool true,.int .i64 n1,.int .i64 n2,.int .i64 n3] 62)) 67 67 (.slice none 0 0) (.slice (some ⟨wr.heap.size,7,none⟩) 3 3)=X:=⟨_,rfl⟩
        obtain ⟨v1,hv1⟩:∃ u,appV Tryz.prog (wr.alloc (.cells #[.int .i64 t,.int .i64 k',.bool false,.int .i64 o1,.int .i64 o2,.int .i64 o3,.bool true,.int .i64 n1,.int .i64 n2,.int .i64 n3] 62)) 67 67 (.slice none 0 0) (.slice (some ⟨wr.heap.size,7,none⟩) 3 3)=u:=⟨_,rfl⟩
        rw [hX1,hv1] at w1
        rw [hX1] at g1
        have z1:=g1.size
        have HB1:=Lib.hid (HB0.out.grown g1 (by simp [Value.ownBlock]))
        have HE1:=Lib.hid (HE0.out.grown g1 HE0.out.size (fun j e=>by simp [Value.ownBlock] at e))
        obtain ⟨g,cg,hvg,hg0,hi0⟩:=own_ints (l:=[n1,n2,n3]) w1 (by omega)
        have HI0:=Lib.hid hi0
        have HG0:=Lib.hid hg0
        have hbz:=HB1.out
        have HEZ:=Lib.hid HE1.out
        have b0:=hbz.cell 0
        have b1:=hbz.cell 1
        have l3:=hbz.lt
        clear hbz w1 g1 z1 HB0 HE0 hsz hws HB1 HE1
        rw [hvg] at hv1
        clear hvg hi0 hg0
        go_wp2_with fail
        clear b0 b1 l3 c0 c1 c2 c3 c4 c5 c6 c7 c8 c9 hX1 hv1 a1
        refine (rowPut_G X1.heap.size 0 3 [t,k',2] _ (.of_blk (Blk.new _ _ _) 0 [t,k',2] rfl) (by simp) (by simp) (by have h1:=HSM.out;intro x hx;simp [ChgT.mid] at h1 hx;omega)).mono ?_
        rintro e W4 ⟨rfl,hb4⟩
        have HI:=Lib.hid (((IntsAt.ext HI0.out (ext_new _ _)).ext hb4))
        have HE4:=Lib.hid (ext_call (ext_alloc HEZ.out _) hb4)
        have l4:g<W4.heap.size:=by have:=hb4.size;have:=HG0.out;simp at *;omega
        clear hb4 HI0 HG0 HEZ
        go_wp2_with fail
        refine (rowPut_G g 0 cg [n1,n2,n3] _ HI.out l4 (by simp) (by have h1:=HSM.out;intro x hx;simp [ChgT.mid] at h1 hx;omega)).mono ?_
        rintro e W5 ⟨rfl,hb5⟩
        have HE5:=Lib.hid (ext_call HE4.out hb5)
        clear hb5 HI HE4 l4
        have HA1:=Lib.hid (encG_append [t,k',2] [n1,n2,n3])
        have HA2:=Lib.hid (encG_append (p::(l.length:Int)::ll) ([t,k',2]++[n1,n2,n3]))
        have hs1:=encG_le [t,k',2]
        have hs2:=encG_le [n1,n2,n3]
        have hs3:=encG_le (p::(l.length:Int)::ll)
        have hss:=HSS.out
        simp only [List.length_cons,List.length_nil,List.length_append] at hs1 hs2 hs3
        have HFIN:=Lib.hid (show encG ((p::(l.length:Int)::ll)++([t,k',2]++[n1,n2,n3]))=encG ([p,(l.length:Int)]++(ll++encChg ⟨t,k',false,o1,o2,o3,true,n1,n2,n3⟩)) from congrArg encG (by simp [encChg]))
        have hlen:(encChg ⟨t,k',false,o1,o2,o3,true,n1,n2,n3⟩).length≤9:=by simp [encChg]
        have HLN:=Lib.hid hlen
        rw [← HA2.out,← HA1.out] at HFIN
        generalize encG [t,k',2]=s1 at *
        generalize encG [n1,n2,n3]=s2 at *
        generalize encG (p::(l.length:Int)::ll)=s3 at *
        have hs12:(s1++s2).size=s1.size+s2.size:=ByteArray.size_append
        have hsum1:s1.size+s2.size≤9223372036854775807:=by omega
        have hsum2:s3.size+(s1++s2).size≤9223372036854775807:=by omega
        have hcat1:=fun W:World=>run_string_add_sum (P:=Tryz.prog) (w:=W) s1 s2 hsum1
        have hcat2:=fun W:World=>run_string_add_sum (P:=Tryz.prog) (w:=W) s3 (s1++s2) hsum2
        clear hs1 hs2 hs3 hs12 hss hlen
        go_wp2
        go_roundw
        case rel=>exact ⟨k+1,by omega,by go_num,by rw [HT.out,← HFIN.out],by rw [HT.out,List.length_append];have:=HLN.out;have:=HSS.out;omega,HE5.out⟩
        case measure=>simp [intOf];omega
      · skip
        have HB0:=Lib.hid (Blk.new wr 62 #[.int .i64 t,.int .i64 k',.bool true,.int .i64 o1,.int .i64 o2,.int .i64 o3,.bool false,.int .i64 n1,.int .i64 n2,.int .i64 n3])
        have HE0:=Lib.hid (ext_alloc HE.out (.cells #[.int .i64 t,.int .i64 k',.bool true,.int .i64 o1,.int .i64 o2,.int .i64 o3,.bool false,.int .i64 n1,.int .i64 n2,.int .i64 n3] 62))
        have hsz:(wr.alloc (.cells #[.int .i64 t,.int .i64 k',.bool true,.int .i64 o1,.int .i64 o2,.int .i64 o3,.bool false,.int .i64 n1,.int .i64 n2,.int .i64 n3] 62)).heap.size=wr.heap.size+1:=by simp
        have hws:=HE.out.size
        obtain ⟨a1,w1,g1⟩:=app3 (wr.alloc (.cells #[.int .i64 t,.int .i64 k',.bool true,.int .i64 o1,.int .i64 o2,.int .i64 o3,.bool false,.int .i64 n1,.int .i64 n2,.int .i64 n3] 62)) (wr.heap.size+1) (by omega) (.slice none 0 0) 0 [] (World.ownsRow_nil (wr.alloc (.cells #[.int .i64 t,.int .i64 k',.bool true,.int .i64 o1,.int .i64 o2,.int .i64 o3,.bool false,.int .i64 n1,.int .i64 n2,.int .i64 n3] 62)) (wr.heap.size+1) 3 1) (by omega) wr.heap.size 3 o1 o2 o3 (HB0.out.cell 3) (HB0.out.cell 4) (HB0.out.cell 5)
        obtain ⟨X1,hX1⟩:∃ X,appW Tryz.prog (wr.alloc (.cells #[.int .i64 t,.int .i64 k',.bool true,.int .i64 o1,.int .i64 o2,.int .i64 o3,.bool false,.int .i64 n1,.int .i64 n2,.int .i64 n3] 62)) 67 67 (.slice none 0 0) (.slice (some ⟨wr.heap.size,3,none⟩) 3 3)=X:=⟨_,rfl⟩
        obtain ⟨v1,hv1⟩:∃ u,appV Tryz.prog (wr.alloc (.cells #[.int .i64 t,.int .i64 k',.bool true,.int .i64 o1,.int .i64 o2,.int .i64 o3,.bool false,.int .i64 n1,.int .i64 n2,.int .i64 n3] 62)) 67 67 (.slice none 0 0) (.slice (some ⟨wr.heap.size,3,none⟩) 3 3)=u:=⟨_,rfl⟩
        rw [hX1,hv1] at w1
        rw [hX1] at g1
        have z1:=g1.size
        have HB1:=Lib.hid (HB0.out.grown g1 (by simp [Value.ownBlock]))
        have HE1:=Lib.hid (HE0.out.grown g1 HE0.out.size (fun j e=>by simp [Value.ownBlock] at e))
        obtain ⟨g,cg,hvg,hg0,hi0⟩:=own_ints (l:=[o1,o2,o3]) w1 (by omega)
        have HI0:=Lib.hid hi0
        have HG0:=Lib.hid hg0
        have hbz:=HB1.out
        have HEZ:=Lib.hid HE1.out
        have m6:=hbz.cell 6
        have b0:=hbz.cell 0
        have b1:=hbz.cell 1
        have l3:=hbz.lt
        clear hbz w1 g1 z1 HB0 HE0 hsz hws HB1 HE1
        rw [hvg] at hv1
        clear hvg hi0 hg0
        go_wp2_with fail
        clear b0 b1 l3 c0 c1 c2 c3 c4 c5 c6 c7 c8 c9 hX1 hv1 a1
        refine (rowPut_G X1.heap.size 0 3 [t,k',1] _ (.of_blk (Blk.new _ _ _) 0 [t,k',1] rfl) (by simp) (by simp) (by have h1:=HSM.out;intro x hx;simp [ChgT.mid] at h1 hx;omega)).mono ?_
        rintro e W4 ⟨rfl,hb4⟩
        have HI:=Lib.hid (((IntsAt.ext HI0.out (ext_new _ _)).ext hb4))
        have HE4:=Lib.hid (ext_call (ext_alloc HEZ.out _) hb4)
        have l4:g<W4.heap.size:=by have:=hb4.size;have:=HG0.out;simp at *;omega
        clear hb4 HI0 HG0 HEZ
        go_wp2_with fail
        refine (rowPut_G g 0 cg [o1,o2,o3] _ HI.out l4 (by simp) (by have h1:=HSM.out;intro x hx;simp [ChgT.mid] at h1 hx;omega)).mono ?_
        rintro e W5 ⟨rfl,hb5⟩
        have HE5:=Lib.hid (ext_call HE4.out hb5)
        clear hb5 HI HE4 l4
        have HA1:=Lib.hid (encG_append [t,k',1] [o1,o2,o3])
        have HA2:=Lib.hid (encG_append (p::(l.length:Int)::ll) ([t,k',1]++[o1,o2,o3]))
        have hs1:=encG_le [t,k',1]
        have hs2:=encG_le [o1,o2,o3]
        have hs3:=encG_le (p::(l.length:Int)::ll)
        have hss:=HSS.out
        simp only [List.length_cons,List.length_nil,List.length_append] at hs1 hs2 hs3
        have HFIN:=Lib.hid (show encG ((p::(l.length:Int)::ll)++([t,k',1]++[o1,o2,o3]))=encG ([p,(l.length:Int)]++(ll++encChg ⟨t,k',true,o1,o2,o3,false,n1,n2,n3⟩)) from congrArg encG (by simp [encChg]))
        have hlen:(encChg ⟨t,k',true,o1,o2,o3,false,n1,n2,n3⟩).length≤9:=by simp [encChg]
        have HLN:=Lib.hid hlen
        rw [← HA2.out,← HA1.out] at HFIN
        generalize encG [t,k',1]=s1 at *
        generalize encG [o1,o2,o3]=s2 at *
        generalize encG (p::(l.length:Int)::ll)=s3 at *
        have hs12:(s1++s2).size=s1.size+s2.size:=ByteArray.size_append
        have hsum1:s1.size+s2.size≤9223372036854775807:=by omega
        have hsum2:s3.size+(s1++s2).size≤9223372036854775807:=by omega
        have hcat1:=fun W:World=>run_string_add_sum (P:=Tryz.prog) (w:=W) s1 s2 hsum1
        have hcat2:=fun W:World=>run_string_add_sum (P:=Tryz.prog) (w:=W) s3 (s1++s2) hsum2
        clear hs1 hs2 hs3 hs12 hss hlen
        go_wp2
        go_roundw
        case rel=>exact ⟨k+1,by omega,by go_num,by rw [HT.out,← HFIN.out],by rw [HT.out,List.length_append];have:=HLN.out;have:=HSS.out;omega,HE5.out⟩
        case measure=>simp [intOf];omega
      · skip
        have HB0:=Lib.hid (Blk.new wr 62 #[.int .i64 t,.int .i64 k',.bool true,.int .i64 o1,.int .i64 o2,.int .i64 o3,.bool true,.int .i64 n1,.int .i64 n2,.int .i64 n3])
        have HE0:=Lib.hid (ext_alloc HE.out (.cells #[.int .i64 t,.int .i64 k',.bool true,.int .i64 o1,.int .i64 o2,.int .i64 o3,.bool true,.int .i64 n1,.int .i64 n2,.int .i64 n3] 62))
        have hsz:(wr.alloc (.cells #[.int .i64 t,.int .i64 k',.bool true,.int .i64 o1,.int .i64 o2,.int .i64 o3,.bool true,.int .i64 n1,.int .i64 n2,.int .i64 n3] 62)).heap.size=wr.heap.size+1:=by simp
        have hws:=HE.out.size
        obtain ⟨a1,w1,g1⟩:=app3 (wr.alloc (.cells #[.int .i64 t,.int .i64 k',.bool true,.int .i64 o1,.int .i64 o2,.int .i64 o3,.bool true,.int .i64 n1,.int .i64 n2,.int .i64 n3] 62)) (wr.heap.size+1) (by omega) (.slice none 0 0) 0 [] (World.ownsRow_nil (wr.alloc (.cells #[.int .i64 t,.int .i64 k',.bool true,.int .i64 o1,.int .i64 o2,.int .i64 o3,.bool true,.int .i64 n1,.int .i64 n2,.int .i64 n3] 62)) (wr.heap.size+1) 3 1) (by omega) wr.heap.size 3 o1 o2 o3 (HB0.out.cell 3) (HB0.out.cell 4) (HB0.out.cell 5)
        obtain ⟨X1,hX1⟩:∃ X,appW Tryz.prog (wr.alloc (.cells #[.int .i64 t,.int .i64 k',.bool true,.int .i64 o1,.int .i64 o2,.int .i64 o3,.bool true,.int .i64 n1,.int .i64 n2,.int .i64 n3] 62)) 67 67 (.slice none 0 0) (.slice (some ⟨wr.heap.size,3,none⟩) 3 3)=X:=⟨_,rfl⟩
        obtain ⟨v1,hv1⟩:∃ u,appV Tryz.prog (wr.alloc (.cells #[.int .i64 t,.int .i64 k',.bool true,.int .i64 o1,.int .i64 o2,.int .i64 o3,.bool true,.int .i64 n1,.int .i64 n2,.int .i64 n3] 62)) 67 67 (.slice none 0 0) (.slice (some ⟨wr.heap.size,3,none⟩) 3 3)=u:=⟨_,rfl⟩
        rw [hX1,hv1] at w1
        rw [hX1] at g1
        have z1:=g1.size
        have HB1:=Lib.hid (HB0.out.grown g1 (by simp [Value.ownBlock]))
        have HE1:=Lib.hid (HE0.out.grown g1 HE0.out.size (fun j e=>by simp [Value.ownBlock] at e))
        obtain ⟨a2,w2,g2⟩:=app3 X1 (wr.heap.size+1) (by omega) v1 3 [.int .i64 o1,.int .i64 o2,.int .i64 o3] w1 (by omega) wr.heap.size 7 n1 n2 n3 (HB1.out.cell 7) (HB1.out.cell 8) (HB1.out.cell 9)
        obtain ⟨X2,hX2⟩:∃ X,appW Tryz.prog X1 67 67 v1 (.slice (some ⟨wr.heap.size,7,none⟩) 3 3)=X:=⟨_,rfl⟩
        obtain ⟨v2,hv2⟩:∃ u,appV Tryz.prog X1 67 67 v1 (.slice (some ⟨wr.heap.size,7,none⟩) 3 3)=u:=⟨_,rfl⟩
        rw [hX2,hv2] at w2
        rw [hX2] at g2
        have z2:=g2.size
        obtain ⟨gv,cv,curv,hvv,hgv,-⟩:=own_blk w1 (by omega)
        have HB2:=Lib.hid (HB1.out.grown g2 (by rw [hvv];simp [Value.ownBlock];omega))
        have HE2:=Lib.hid (HE1.out.grown g2 HE1.out.size (fun j e=>by rw [hvv] at e;simp [Value.ownBlock] at e;omega))
        obtain ⟨g,cg,hvg,hg0,hi0⟩:=own_ints (l:=[o1,o2,o3,n1,n2,n3]) w2 (by omega)
        have HI0:=Lib.hid hi0
        have HG0:=Lib.hid hg0
        have hbz:=HB2.out
        have HEZ:=Lib.hid HE2.out
        have hmz:=HB1.out
        have l2:=hmz.lt
        have m4:=hmz.cell 4
        have m5:=hmz.cell 5
        have m6:=hmz.cell 6
        have m7:=hmz.cell 7
        have m8:=hmz.cell 8
        have m9:=hmz.cell 9
        clear hmz
        have b0:=hbz.cell 0
        have b1:=hbz.cell 1
        have l3:=hbz.lt
        clear hbz w1 g1 z1 w2 g2 z2 HB0 HE0 hsz hws HB1 HE1 HB2 HE2
        clear hvv hgv
        rw [hvg] at hv2
        clear hvg hi0 hg0
        go_wp2_with fail
        clear b0 b1 l3 c0 c1 c2 c3 c4 c5 c6 c7 c8 c9 hX1 hv1 a1 hX2 hv2 a2
        refine (rowPut_G X2.heap.size 0 3 [t,k',3] _ (.of_blk (Blk.new _ _ _) 0 [t,k',3] rfl) (by simp) (by simp) (by have h1:=HSM.out;intro x hx;simp [ChgT.mid] at h1 hx;omega)).mono ?_
        rintro e W4 ⟨rfl,hb4⟩
        have HI:=Lib.hid (((IntsAt.ext HI0.out (ext_new _ _)).ext hb4))
        have HE4:=Lib.hid (ext_call (ext_alloc HEZ.out _) hb4)
        have l4:g<W4.heap.size:=by have:=hb4.size;have:=HG0.out;simp at *;omega
        clear hb4 HI0 HG0 HEZ
        go_wp2_with fail
        refine (rowPut_G g 0 cg [o1,o2,o3,n1,n2,n3] _ HI.out l4 (by simp) (by have h1:=HSM.out;intro x hx;simp [ChgT.mid] at h1 hx;omega)).mono ?_
        rintro e W5 ⟨rfl,hb5⟩
        have HE5:=Lib.hid (ext_call HE4.out hb5)
        clear hb5 HI HE4 l4
        have HA1:=Lib.hid (encG_append [t,k',3] [o1,o2,o3,n1,n2,n3])
        have HA2:=Lib.hid (encG_append (p::(l.length:Int)::ll) ([t,k',3]++[o1,o2,o3,n1,n2,n3]))
        have hs1:=encG_le [t,k',3]
        have hs2:=encG_le [o1,o2,o3,n1,n2,n3]
        have hs3:=encG_le (p::(l.length:Int)::ll)
        have hss:=HSS.out
        simp only [List.length_cons,List.length_nil,List.length_append] at hs1 hs2 hs3
        have HFIN:=Lib.hid (show encG ((p::(l.length:Int)::ll)++([t,k',3]++[o1,o2,o3,n1,n2,n3]))=encG ([p,(l.length:Int)]++(ll++encChg ⟨t,k',true,o1,o2,o3,true,n1,n2,n3⟩)) from congrArg encG (by simp [encChg]))
        have hlen:(encChg ⟨t,k',true,o1,o2,o3,true,n1,n2,n3⟩).length≤9:=by simp [encChg]
        have HLN:=Lib.hid hlen
        rw [← HA2.out,← HA1.out] at HFIN
        generalize encG [t,k',3]=s1 at *
        generalize encG [o1,o2,o3,n1,n2,n3]=s2 at *
        generalize encG (p::(l.length:Int)::ll)=s3 at *
        have hs12:(s1++s2).size=s1.size+s2.size:=ByteArray.size_append
        have hsum1:s1.size+s2.size≤9223372036854775807:=by omega
        have hsum2:s3.size+(s1++s2).size≤9223372036854775807:=by omega
        have hcat1:=fun W:World=>run_string_add_sum (P:=Tryz.prog) (w:=W) s1 s2 hsum1
        have hcat2:=fun W:World=>run_string_add_sum (P:=Tryz.prog) (w:=W) s3 (s1++s2) hsum2
        clear hs1 hs2 hs3 hs12 hss hlen
        go_wp2
        go_roundw
        case rel=>exact ⟨k+1,by omega,by go_num,by rw [HT.out,← HFIN.out],by rw [HT.out,List.length_append];have:=HLN.out;have:=HSS.out;omega,HE5.out⟩
        case measure=>simp [intOf];omega
    · have d1:decide ((k:Int)<(l.length:Int))=false:=by simp;omega
      have HK:=Lib.hid (show l.take k=l from List.take_of_length_le (by omega))
      go_wp2
      go_ret2
      exact ⟨by rw [encRec,HK.out];rfl,HE.out⟩
end Go.Proofs.YtnajpjnnlocfgaaGreatDoor
