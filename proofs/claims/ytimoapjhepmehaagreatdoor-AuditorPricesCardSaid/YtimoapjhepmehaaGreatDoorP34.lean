/-
  package statetree: Rows at any complete proof.
-/
import Derived.Test.YtimoapjhepmehaaGreatDoorP33
import Derived.Test.YtimoapjhepmehaaGreatDoorP15
set_option linter.unusedSimpArgs false
set_option linter.unusedVariables false
namespace Go.Proofs.YtimoapjhepmehaaGreatDoor
open Go.RowKit Go.Shelf
attribute [local go_sem ↓] app_exec app_sem Go.wp_at_zero Go.wp_at_succ
theorem take_filter_succ {α:Type} (q:α→Bool) {l:List α} {k:Nat} {r:α} (h:l[k]? = some r):(l.take (k+1)).filter q=(l.take k).filter q++(if q r then [r] else []):=by
  rw [List.take_add_one,h,List.filter_append]
  cases hq:q r <;> simp [hq]
set_option maxRecDepth 100000 in
set_option maxHeartbeats 4000000 in
theorem rowsOfG (p:RPT) (j:Nat) (hp:CompP p j) (a b c:Value) (w:World) (ha:RowsL w a p.rows) :
    Calls Tryz.prog 143 #[.agg (p.nums a b c)] w fun e w'=>∃ v,e=.returned (.tuple #[v,.bool true])∧RowsS (fun x=>w.heap.size≤x) w' v (rowsP p j)∧Below w.heap.size w w':=by
  have HCO:=Lib.hid (fun (W:World) (h:RowsL W a p.rows)=>complete_yes p j hp a b c W h)
  have hj4:=hp.col.2
  have hj:=hp.col.1
  have hlen:p.rows.length≤2000:=by have h1:=hp.len;have h2:=hp.n;have h3:=hp.f;omega
  have HRP:=Lib.hid (show rowsP p j=p.rows.filter (inP p j) from rfl)
  have HIN:=Lib.hid (show ∀ r,inP p j r=(decide (p.lo≤r.col j) && decide (r.col j≤p.hi)) from fun r=>rfl)
  generalize rowsP p j=out at *
  generalize inP p j=q at *
  obtain ⟨t,jj,lo,hi,n,f,l,ps,rts⟩:=p
  dsimp only [RPT.nums] at *
  subst hj
  obtain ⟨W0,hW0⟩:∃ W0,W0=w.alloc (.cells #[.int .i64 t,.int .i64 (j:Int),.int .i64 lo,.int .i64 hi,.int .i64 n,.int .i64 f,a,b,c] 126):=⟨_,rfl⟩
  have HE0:=Lib.hid (show Below w.heap.size w W0 by rw [hW0];exact ext_new _ _)
  have HB0:=Lib.hid (show Blk W0 w.heap.size 126 #[.int .i64 t,.int .i64 (j:Int),.int .i64 lo,.int .i64 hi,.int .i64 n,.int .i64 f,a,b,c] by rw [hW0];exact Blk.new _ _ _)
  have HA0:=Lib.hid (ha.ext HE0.out)
  have HW0:=Lib.hid hW0
  obtain ⟨A,d,rfl,-⟩:=ha
  clear hW0 hp
  go_enter Tryz.func143,Tryz.ntmps143
  go_wp2_with fail
  rw [← HW0.out]
  refine (HCO.out _ HA0.out).mono ?_
  rintro e W1 ⟨rfl,hb1⟩
  have HE1:=Lib.hid (ext_call HE0.out hb1)
  have HB1:=Lib.hid (HB0.out.ext hb1)
  have HA1:=Lib.hid (HA0.out.ext hb1)
  have hz1:=HB1.out.lt
  clear hb1 HE0 HB0 HA0 HW0 HCO
  have b6:=HB1.out.cell 6
  go_wp2
  clear b6
  go_loopw [4,6,7,14] (fun ov _ _ iv W=>∃ (k:Nat) (o:List RowT),k≤l.length∧iv=.int .i64 (k:Int)∧o=(l.take k).filter q∧W.ownsRow W1.heap.size 67 5 ov o.length (rc o)∧Below W1.heap.size W1 W) (fun _ _ _ iv _=>l.length-(intOf iv).toNat)
  case atStart=>exact ⟨0,[],Nat.zero_le _,rfl,rfl,World.ownsRow_nil _ _ _ _,ext_refl _⟩
  case round=>
    obtain ⟨k,o,hk,rfl,ho,hown,hE⟩:=hrel
    have HO:=Lib.hid hown
    have HE:=Lib.hid hE
    have HOF:=Lib.hid ho
    have HBr:=Lib.hid (HB1.out.ext hE)
    have HAr:=Lib.hid (HA1.out.ext hE)
    have hol:o.length≤k:=by rw [ho];exact Nat.le_trans (List.length_filter_le _ _) (by rw [List.length_take];omega)
    have hws:=hE.size
    clear hown hE ho
    by_cases hlt:k<l.length
    · obtain ⟨r,hr⟩:∃ r,l[k]? = some r:=⟨_,List.getElem?_eq_getElem hlt⟩
      have HTF:=Lib.hid (take_filter_succ q hr)
      have HV:=Lib.hid (fun W:World=>rowValue_any r j hj4 W)
      have HQR:=Lib.hid (HIN.out r)
      obtain ⟨g,d',hA,hg,r0,r1,r2,r3,r4⟩:=HAr.out.c5 hr
      injection hA with hA hn' hd'
      subst hA;subst hd'
      have HRC:=Lib.hid (rc_append o r)
      obtain ⟨v,hv⟩:∃ v,v=r.col j:=⟨_,rfl⟩
      rw [← hv] at HV HQR
      obtain ⟨y,hy⟩:∃ y,y=r:=⟨_,rfl⟩
      have HY:=Lib.hid hy
      rw [← hy] at HRC HQR HTF
      obtain ⟨y0,y1,y2,y3,y4⟩:=r
      dsimp only at *
      have q0:(0:Int)≤(k:Int):=by omega
      have q1:(k:Int)<(l.length:Int):=by omega
      have q2:decide ((k:Int)<(l.length:Int))=true:=decide_eq_true q1
      have e2:IntKind.i64.wrap ((k:Int)+1)=(k:Int)+1:=IntWalk.i64_in _ (by omega)
      have p1:=HBr.out.cell 1
      have bl:=HBr.out.lt
      have bl1:w.heap.size<wr.heap.size+1:=by omega
      clear hr hv hg hn' hy
      go_wp2_with fail
      refine (HV.out _).mono ?_
      rintro e W2 ⟨rfl,hb2⟩
      have HX2:=Lib.hid ((Blk.new wr 67 #[.int .i64 y0,.int .i64 y1,.int .i64 y2,.int .i64 y3,.int .i64 y4]).ext hb2)
      have HE2:=Lib.hid (ext_call (ext_alloc HE.out (.cells #[.int .i64 y0,.int .i64 y1,.int .i64 y2,.int .i64 y3,.int .i64 y4] 67)) hb2)
      have HO2:=Lib.hid (own_ext (HO.out.alloc (.cells #[.int .i64 y0,.int .i64 y1,.int .i64 y2,.int .i64 y3,.int .i64 y4] 67)) hb2)
      have hBr2:=HB1.out.ext HE2.out
      have p2:=hBr2.cell 2
      have p3:=hBr2.cell 3
      have hz2:=HE2.out.size
      clear hb2 r0 r1 r2 r3 r4 p1 hBr2
      by_cases hin:lo≤v∧v≤hi
      · obtain ⟨h1,h2⟩:=hin
        have HQT:=Lib.hid (show q y=true by rw [HQR.out];simp [h1,h2])
        have x0:=HX2.out.cell 0;have x1:=HX2.out.cell 1;have x2:=HX2.out.cell 2;have x3:=HX2.out.cell 3;have x4:=HX2.out.cell 4
        obtain ⟨ha,W4,hW4,v4,hv4,ho4,hg4⟩:=appRow W2 W1.heap.size hz2 u4 o.length (rc o) HO2.out (by omega) ⟨y0,y1,y2,y3,y4⟩
        dsimp only at ha hW4 hv4 hg4
        have HO4:=Lib.hid ho4
        have HE4:=Lib.hid ((ext_alloc HE2.out (.cells #[.int .i64 y0,.int .i64 y1,.int .i64 y2,.int .i64 y3,.int .i64 y4] 67)).grown hg4 (ext_alloc HE2.out _).size (fun k e=>(HO2.out.lt k e).1))
        clear ho4 hg4
        go_wp2
        go_roundw
        case rel=>exact ⟨k+1,o++[y],by omega,by go_num,by rw [HTF.out,HQT.out,HOF.out];rfl,by rw [HRC.out,List.length_append,HY.out];exact HO4.out,HE4.out⟩
        case measure=>simp [intOf];omega
      · have HQT:=Lib.hid (show q y=false by rw [HQR.out];by_cases h1:lo≤v <;> by_cases h2:v≤hi <;> simp_all)
        by_cases h1:lo≤v
        · have h2:¬ v≤hi:=fun h=>hin ⟨h1,h⟩
          clear hin
          go_wp2
          go_roundw
          case rel=>exact ⟨k+1,o,by omega,by go_num,by rw [HTF.out,HQT.out,HOF.out];simp,HO2.out,HE2.out⟩
          case measure=>simp [intOf];omega
        · clear hin
          go_wp2
          go_roundw
          case rel=>exact ⟨k+1,o,by omega,by go_num,by rw [HTF.out,HQT.out,HOF.out];simp,HO2.out,HE2.out⟩
          case measure=>simp [intOf];omega
    · have hkl:k=l.length:=by omega
      have q2:decide ((k:Int)<(l.length:Int))=false:=decide_eq_false (by omega)
      have HOE:=Lib.hid (show o=out by rw [HOF.out,HRP.out,hkl,List.take_length])
      obtain ⟨Ao,co,hov⟩:=own_shape HO.out
      subst hov
      clear hkl
      go_wp2
      go_ret2
      refine ⟨_,rfl,?_,ext_call HE1.out HE.out⟩
      rw [← HOE.out]
      have h9:=rowsS_own HO.out
      have hz9:=HE1.out.size
      exact h9.mono (fun b hb _=>by omega)
end Go.Proofs.YtimoapjhepmehaaGreatDoor
