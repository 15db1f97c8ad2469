/-
  packages cachetierref01, 04, 10: PutInt of 0; New; Order, Entries, Summaries, Root at the state of no row.
-/
import Derived.Test.YtnajpjnnlocfgaaGreatDoorJ48
set_option linter.unusedSimpArgs false
set_option linter.unusedVariables false
set_option maxRecDepth 100000
namespace Go.Proofs.YtnajpjnnlocfgaaGreatDoor
open Go.RowKit Go.Shelf
attribute [local go_sem ↓] app_exec app_sem Go.wp_at_zero Go.wp_at_succ
theorem appStrR (W:World) (base:Nat) (hb:base≤W.heap.size) (v:Value) (n:Nat) (xs:List Value) (hown:W.ownsRow base 9 1 v n xs) (hn:n≤1000000) (s:ByteArray) :
    AppOK Tryz.prog (W.alloc (.cells #[.string s] 9)) 44 44 v (.slice (some ⟨W.heap.size,0,none⟩) 1 1)∧∃ W',appW Tryz.prog (W.alloc (.cells #[.string s] 9)) 44 44 v (.slice (some ⟨W.heap.size,0,none⟩) 1 1)=W' ∧
      ∃ v',appV Tryz.prog (W.alloc (.cells #[.string s] 9)) 44 44 v (.slice (some ⟨W.heap.size,0,none⟩) 1 1)=v'∧W'.ownsRow base 9 1 v' (n+1) (xs++[.string s])∧(W.alloc (.cells #[.string s] 9)).grownBy W' v.ownBlock:=by
  obtain ⟨is,his,hzs0,hzs1,hzs2⟩:=str_infoS
  obtain ⟨h1,h2,h3⟩:=app_own (P:=Tryz.prog) (w:=W.alloc (.cells #[.string s] 9)) base 44 44 9 is (.string ⟨#[]⟩) 1 16 Tryz.underlying44 his hzs0 hzs1 hzs2 rfl (by decide) v n xs (hown.alloc _) ⟨W.heap.size,0,none⟩ 1 1 [.string s] rfl (cell_one_new _ _ _) (by simp [Value.oneCell']) (by unfold maxLen;omega) (by omega) (by simp;omega)
  exact ⟨h1,_,rfl,_,rfl,h2,h3⟩
theorem refZig (w:World):Calls Tryz.prog 142 #[.int .i64 0] w fun e w'=>e=.returned (.int .u64 0)∧w=w':=by
  go_enter Tryz.func142,Tryz.ntmps142
  go_wp2
  go_ret
  exact ⟨rfl,rfl⟩
theorem refPutInt0 (w:World):Calls Tryz.prog 96 #[.int .i64 0] w fun e w'=>e=.returned (.tuple #[.string ⟨#[0]⟩,.int .i64 0])∧Below w.heap.size w w':=by
  obtain ⟨ha,W4,hW4,v4,hv4,h4⟩:=(show EX w w (.slice none 0 0) [] from ⟨World.ownsRow_nil _ _ _ _,ext_refl _⟩).app (by simp) 0
  have hcv:=h4.str (by simp)
  have HE:=Lib.hid h4.2
  obtain ⟨A,c,hsh⟩:=h4.shape
  have hsh:v4=.slice A 1 c:=hsh
  subst hsh
  clear h4
  go_enter Tryz.func96,Tryz.ntmps96
  go_wp2_with fail
  refine (refZig w).mono ?_
  rintro e w' ⟨rfl,hw'⟩
  subst w'
  go_wp2
  refine wp_loop_rounds 1 ?_
  rw [rounds_succ]
  go_wp2
  go_ret2
  exact ⟨rfl,HE.out⟩
theorem refNew4 (w:World):Calls Tryz.prog 18 #[] w fun e w'=>e=.returned (.pointer (some ⟨w.heap.size,0,none⟩))∧w.alloc (.cells #[.slice none 0 0,.int .i64 0] 118)=w':=by
  go_enter Tryz.func18,Tryz.ntmps18
  go_wp2
  go_ret
  exact ⟨rfl,rfl⟩
theorem refRangeE (g:Nat) (t c lo hi:Int) (hc:0≤c∧c<4) (w:World) (h:w.cell? ⟨g,0,none⟩=some (.slice none 0 0)):Calls Tryz.prog 141 #[.pointer (some ⟨g,0,none⟩),.int .i64 t,.int .i64 c,.int .i64 lo,.int .i64 hi] w fun e w'=>e=.returned (.slice none 0 0)∧w=w':=by
  have d1:decide (c<0)=false:=decide_eq_false (by omega)
  have d2:decide ((4:Int)≤c)=false:=decide_eq_false (by omega)
  go_enter Tryz.func141,Tryz.ntmps141
  go_wp2
  refine wp_loop_rounds 1 ?_
  rw [rounds_succ]
  go_wp2
  go_ret
  exact ⟨rfl,rfl⟩
theorem refOrderE (g:Nat) (t c:Int) (hc:0≤c∧c<4) (w:World) (h:w.cell? ⟨g,0,none⟩=some (.slice none 0 0)):Calls Tryz.prog 95 #[.pointer (some ⟨g,0,none⟩),.int .i64 t,.int .i64 c] w fun e w'=>e=.returned (.slice none 0 0)∧w=w':=by
  go_enter Tryz.func95,Tryz.ntmps95
  go_wp2_with fail
  refine (refRangeE g t c _ _ hc w h).mono ?_
  rintro e w' ⟨rfl,hw'⟩
  subst w'
  go_wp2
  go_ret
  exact ⟨rfl,rfl⟩
theorem refEntriesE (w:World):Calls Tryz.prog 94 #[.slice none 0 0] w fun e w'=>e=.returned (.slice none 0 0)∧w=w':=by
  go_enter Tryz.func94,Tryz.ntmps94
  go_wp2
  refine wp_loop_rounds 1 ?_
  rw [rounds_succ]
  go_wp2
  go_ret
  exact ⟨rfl,rfl⟩
def zeroS:ByteArray:=⟨#[0]⟩++rootF []
theorem zeroS_size:zeroS.size=33:=by unfold zeroS;rw [ByteArray.size_append,rootF_size];rfl
def ZeroR (w W:World) (v:Value) (n:Nat):Prop:=W.ownsRow w.heap.size 9 1 v n ((List.replicate n zeroS).map Value.string)∧Below w.heap.size w W
set_option maxHeartbeats 2000000 in
theorem refSummariesE (g:Nat) (w:World) (h:w.cell? ⟨g,0,none⟩=some (.slice none 0 0)):Calls Tryz.prog 50 #[.pointer (some ⟨g,0,none⟩)] w fun e w'=>∃ v,e=.returned v∧ZeroR w w' v 16:=by
  have H:=Lib.hid h
  clear h
  obtain ⟨re,hre⟩:∃ re,re=rootF []:=⟨_,rfl⟩
  have HRT:=Lib.hid (fun W:World=>refRoot (fun _=>True) 0 [] (.slice none 0 0) W (by simp) (by simp) (by simp) (Strs.nil_ _ _))
  rw [← hre] at HRT
  have HRZ:=Lib.hid (show re.size=32 by rw [hre];exact rootF_size _)
  have HZ:=Lib.hid (show (⟨#[0]⟩:ByteArray)++re=zeroS by rw [hre];rfl)
  clear hre
  go_enter Tryz.func50,Tryz.ntmps50
  go_wp2
  go_loopw [3,4,5,6,7,8] (fun ov tv _ _ _ _ W=>∃ k:Nat,k≤4∧tv=.int .i64 (k:Int)∧ZeroR w W ov (4*k)) (fun _ tv _ _ _ _ _=>4-(intOf tv).toNat)
  case atStart=>exact ⟨0,by omega,rfl,World.ownsRow_nil _ _ _ _,ext_refl _⟩
  case round =>
    obtain ⟨k,hk,rfl,hZ⟩:=hrel
    have HX:=Lib.hid hZ
    clear hZ
    by_cases hlt:k<4
    · have d0:decide ((k:Int)<4)=true:=decide_eq_true (by omega)
      go_wp2
      go_loopw [3,5,6,7,8] (fun ov cv _ _ _ W=>∃ j:Nat,j≤4∧cv=.int .i64 (j:Int)∧ZeroR w W ov (4*k+j)) (fun _ cv _ _ _ _=>4-(intOf cv).toNat)
      case atStart=>exact ⟨0,by omega,rfl,HX.out⟩
      case round=>
        clear HX
        obtain ⟨j,hj,rfl,hZ⟩:=hrel
        have HX:=Lib.hid hZ
        clear hZ
        by_cases hltj:j<4
        · go_wp2_with fail
          refine (refOrderE g k j (by omega) wr (cell_ext H.out HX.out.2)).mono ?_
          rintro e w' ⟨rfl,hw'⟩
          subst w'
          go_wp2_with fail
          refine (refEntriesE wr).mono ?_
          rintro e w' ⟨rfl,hw'⟩
          subst w'
          go_wp2_with fail
          refine (refPutInt0 wr).mono ?_
          rintro e W2 ⟨rfl,hb2⟩
          have HE2:=Lib.hid (ext_call HX.out.2 hb2)
          have HO2:=Lib.hid (own_extB HX.out.1 hb2)
          clear hb2
          go_wp2_with fail
          refine (HRT.out W2).mono ?_
          rintro e W3 ⟨rfl,hb3⟩
          have HE3:=Lib.hid (ext_call HE2.out hb3)
          have hz3:=HE3.out.size
          have ho3:=own_extB HO2.out hb3
          obtain ⟨ha,W4,hW4,v4,hv4,ho4,hg4⟩:=appStrR W3 w.heap.size hz3 u3 (4*k+j) _ ho3 (by omega) (⟨#[0]⟩++re)
          have H4:=Lib.hid (show ZeroR w W4 v4 (4*k+(j+1)) from ⟨by
            rw [HZ.out] at ho4
            rw [← Nat.add_assoc,List.replicate_succ',List.map_append]
            exact ho4,(ext_alloc HE3.out _).grown hg4 (by simp;omega) (fun q hq=>(ho3.lt q hq).1)⟩)
          clear hb3 ho3 ho4 hg4
          have hrz:=HRZ.out
          go_wp2
          go_roundw
          case rel=>exact ⟨j+1,by omega,by go_num,H4.out⟩
          case measure=>simp [intOf];omega
        · obtain rfl:j=4:=by omega
          go_wp2
          go_roundw
          case rel=>exact ⟨k+1,by omega,by go_num,HX.out⟩
          case measure=>simp [intOf];omega
    · obtain rfl:k=4:=by omega
      go_wp2
      go_ret
      exact ⟨_,rfl,HX.out⟩
theorem ref10RootE (g:Nat) (w:World) (h:w.cell? ⟨g,0,none⟩=some (.slice none 0 0)):Calls Tryz.prog 17 #[.pointer (some ⟨g,0,none⟩)] w fun e w'=>e=.returned (.string (rootF (List.replicate 16 zeroS)))∧Below w.heap.size w w':=by
  have HS:=Lib.hid (refSummariesE g w h)
  obtain ⟨rr,hrr⟩:∃ rr,rr=rootF (List.replicate 16 zeroS):=⟨_,rfl⟩
  rw [← hrr]
  have HRR:=Lib.hid hrr
  clear hrr
  go_enter Tryz.func17,Tryz.ntmps17
  go_wp2_with fail
  refine HS.out.mono ?_
  rintro e W1 ⟨v,rfl,hz⟩
  have HE:=Lib.hid hz.2
  have HR:=Lib.hid (refRoot (fun _=>True) 16 (List.replicate 16 zeroS) v W1 (by simp) (by simp) (fun x hx=>by rw [List.eq_of_mem_replicate hx,zeroS_size];omega) (by
    obtain ⟨q,cap,hsh,-,-,hcap,hc⟩:=own_cells2 hz.1 (by omega)
    refine ⟨some ⟨q,0,none⟩,cap,by rw [hsh];simp,by simpa using hcap,fun _=>⟨q,0,rfl,trivial,fun j x hj=>?_⟩⟩
    rw [Nat.zero_add]
    exact hc j _ (by rw [List.getElem?_map,hj];rfl)))
  rw [← HRR.out] at HR
  clear hz
  go_wp2_with fail
  refine HR.out.mono ?_
  rintro e W2 ⟨rfl,hb2⟩
  have HE2:=Lib.hid (ext_call HE.out hb2)
  go_wp2
  go_ret
  exact ⟨rfl,HE2.out⟩
end Go.Proofs.YtnajpjnnlocfgaaGreatDoor
