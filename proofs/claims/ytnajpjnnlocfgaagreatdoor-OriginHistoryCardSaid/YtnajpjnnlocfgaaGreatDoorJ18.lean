/-
  package logtree: Next, Append at any valid changes; the chain is told.
-/
import Derived.Test.YtnajpjnnlocfgaaGreatDoorJ9
import Derived.Test.YtnajpjnnlocfgaaGreatDoorJ17
set_option linter.unusedSimpArgs false
set_option linter.unusedVariables false
set_option maxHeartbeats 4000000
set_option maxRecDepth 100000
namespace Go.Proofs.YtnajpjnnlocfgaaGreatDoor
open Go.RowKit
attribute [local go_sem ↓] Go.wp_at_zero Go.wp_at_succ
theorem encRecG_size (p:Int) (l:List ChgT) (h:l.length≤8):(encG (encRec p l)).size≤1000:=by
  have h0:=encG_le (encRec p l)
  rw [encRec,List.length_append] at h0
  have h2:∀ l:List ChgT,(l.flatMap encChg).length≤9*l.length:=fun l=>by
    induction l with
    | nil=>simp
    | cons a r ih=>
      rw [List.flatMap_cons,List.length_append,List.length_cons]
      have:=encChg_length a
      omega
  have:=h2 l
  simp only [List.length_cons,List.length_nil] at h0
  rw [encRec]
  omega
theorem logNextX (n:Nat) (hn:n≤60) (l:List ChgT) (v:Value) (z s t:ByteArray) (hz:z.size=32) (hs:s.size=32) (ht:t.size=32) (w:World) (hv:ChgsAt w v l) (hl:ChgsOK l) (hF:validF l=true) (hR:RoundOK w) :
    Calls Tryz.prog 51 #[.agg #[.int .i64 (n:Int),.string z,.string s],.agg #[.int .i64 ((n:Int)+1),v],.string t] w
      fun e w'=>e=.returned (.tuple #[.agg #[.int .i64 ((n:Int)+1),.string (chainF z (encG (encRec ((n:Int)+1) l))),.string t],.int .i64 0])∧Below w.heap.size w w':=by
  have HZs:=Lib.hid hz
  have HSs:=Lib.hid hs
  have HTs:=Lib.hid ht
  have HR:=Lib.hid hR
  have hrs:=encRecG_size ((n:Int)+1) l hl.few
  have HCh:=Lib.hid (show ∀ W:World,RoundOK W→Calls Tryz.prog 98 #[.string z,.string (encG (encRec ((n:Int)+1) l))] W fun e w'=>e=.returned (.string (chainF z (encG (encRec ((n:Int)+1) l))))∧Below W.heap.size W w' from fun W h=>chain_any z (encG (encRec ((n:Int)+1) l)) W h (by omega) (by omega))
  have HEr:=Lib.hid (fun (W:World) (h:Below w.heap.size w W)=>encRecord_G ((n:Int)+1) ⟨by omega,by omega⟩ l v W (hv.ext h) hl hF)
  obtain ⟨A,c,rfl,-⟩:=hv
  generalize chainF z (encG (encRec ((n:Int)+1) l))=cz at *
  generalize encG (encRec ((n:Int)+1) l)=re at *
  have e1:IntKind.i64.wrap ((n:Int)+1)=(n:Int)+1:=by rw [IntWalk.i64_in _ (by omega)]
  obtain ⟨W0,hW0⟩:∃ W0,W0=((w.alloc (.cells #[.int .i64 (n:Int),.string z,.string s] 30)).alloc (.cells #[.int .i64 ((n:Int)+1),.slice A l.length c] 43)).alloc (.cells #[.int .i64 0,.string ⟨#[]⟩,.string ⟨#[]⟩] 30):=⟨_,rfl⟩
  have HE0:=Lib.hid (show Below w.heap.size w W0 by rw [hW0];exact ext_alloc (ext_alloc (ext_new _ _) _) _)
  have HH0:=Lib.hid (show Blk W0 w.heap.size 30 #[.int .i64 (n:Int),.string z,.string s] by rw [hW0];exact ((Blk.new _ _ _).alloc _).alloc _)
  have HR0:=Lib.hid (show Blk W0 (w.heap.size+1) 43 #[.int .i64 ((n:Int)+1),.slice A l.length c] by rw [hW0];exact (Blk.new' _ _ _ (by simp)).alloc _)
  have HO0:=Lib.hid (show Blk W0 (w.heap.size+1+1) 30 #[.int .i64 0,.string ⟨#[]⟩,.string ⟨#[]⟩] by rw [hW0];exact Blk.new' _ _ _ (by simp))
  have HW0:=Lib.hid hW0
  clear hz hs ht hR hW0 hrs hl hF
  go_enter Tryz.func51,Tryz.ntmps51
  go_wp2_with fail
  rw [← HW0.out]
  refine (HEr.out _ HE0.out).mono ?_
  rintro e W1 ⟨rfl,hb1⟩
  have HH1:=Lib.hid (HH0.out.ext hb1)
  have HR1:=Lib.hid (HR0.out.ext hb1)
  have HO1:=Lib.hid (HO0.out.ext hb1)
  have HE1:=Lib.hid (ext_call HE0.out hb1)
  have c0:=HH1.out.cell 0;have c1:=HH1.out.cell 1;have c2:=HH1.out.cell 2
  clear hb1
  go_wp2_with fail
  refine (logValid n z s (by omega) HZs.out HSs.out _).mono ?_
  rintro e W2 ⟨rfl,hb2⟩
  have HH2:=Lib.hid (HH1.out.ext hb2)
  have HR2:=Lib.hid (HR1.out.ext hb2)
  have HO2:=Lib.hid (HO1.out.ext hb2)
  have HE2:=Lib.hid (ext_call HE1.out hb2)
  clear hb2 c0 c1 c2
  have c0:=HH2.out.cell 0;have c1:=HH2.out.cell 1;have c2:=HH2.out.cell 2
  have r0:=HR2.out.cell 0;have r1:=HR2.out.cell 1
  have o0:=HO2.out.cell 0;have o1:=HO2.out.cell 1;have o2:=HO2.out.cell 2
  have f0:=HO2.out.frozen 0
  have f1:=HO2.out.frozen 1
  have f2:=HO2.out.frozen 2
  go_wp2_with (go_at_call 47;refine (isDig t HTs.out _).mono ?_;rintro e w' ⟨rfl,rfl⟩)
  go_region_with (go_at_call 98;refine (HCh.out _ ?_).mono ?_;(exact (HR.out.below HE2.out.drew));rintro e W3 ⟨rfl,hb3⟩;have HH3:=Lib.hid (HH2.out.ext (undrew hb3));have HR3:=Lib.hid (HR2.out.ext (undrew hb3));have HO3:=Lib.hid (HO2.out.ext (undrew hb3));have HE3:=Lib.hid (ext_call HE2.out (undrew hb3));clear hb3;have cc0:=HH3.out.cell 0;have cc1:=HH3.out.cell 1;have cc2:=HH3.out.cell 2;have rr0:=HR3.out.cell 0;have rr1:=HR3.out.cell 1;have oo0:=HO3.out.cell 0;have oo1:=HO3.out.cell 1;have oo2:=HO3.out.cell 2;have ff0:=HO3.out.frozen 0;have ff1:=HO3.out.frozen 1;have ff2:=HO3.out.frozen 2)
  all_goals
    go_wp2
    have hBf:=((HO3.out.set_ 0 (.int .i64 ((n:Int)+1))).set_ 1 (.string cz)).set_ 2 (.string t)
    have y0:=hBf.cell 0;have y1:=hBf.cell 1;have y2:=hBf.cell 2
    refine bodyPost_ret (v:=.tuple #[.agg #[.int .i64 ((n:Int)+1),.string cz,.string t],.int .i64 0]) (by simp [results,Tryz.results51,go_sem,y0,y1,y2]) rfl ⟨rfl,?_⟩
    exact ext_set (ext_set (ext_set HE3.out (by simp;omega) _) (by simp;omega) _) (by simp;omega) _
theorem logAppendY (B C gl:Nat) (rv hv:Value) (R:List (List ChgT × Nat × Nat)) (H:List (ByteArray × ByteArray)) (l:List ChgT) (v:Value) (t:ByteArray) (ht:t.size=32) (hn:R.length≤60) (w:World) (hBw:B≤w.heap.size) (hCw:C≤w.heap.size) (hL:LogG2 B C w gl rv hv R H) (last:ByteArray × ByteArray) (hlast:H[R.length]? = some last)
    (hvl:ChgsAt w v l) (hl:ChgsOK l) (hF:validF l=true) (hR:RoundOK w) :
    Calls Tryz.prog 19 #[.pointer (some ⟨gl,0,none⟩),.agg #[.int .i64 ((R.length:Int)+1),v],.string t] w
      fun e w'=>e=.returned (.int .i64 0)∧∃ rv2 hv2 g d,LogG2 B C w' gl rv2 hv2 (R++[(l,g,d)]) (H++[(chainF last.1 (encG (encRec ((R.length:Int)+1) l)),t)])∧ExtS (ApX gl rv hv) w w':=by
  obtain ⟨ir,hir,hzr0,hzr1,hzr2⟩:=info_parts recg_info
  obtain ⟨ih,hih,hzh0,hzh1,hzh2⟩:=info_parts headg_info
  obtain ⟨n,hnn⟩:∃ n,n=R.length:=⟨_,rfl⟩
  rw [← hnn] at hn hlast ⊢
  have hHl:H.length=n+1:=by rw [hL.len,hnn]
  obtain ⟨A,cr,hrv⟩:=own_shape hL.recs
  obtain ⟨gh,ch,curh,hhv,-,hbh⟩:=own_blk hL.heads (by omega)
  obtain ⟨q0,q1,q2⟩:=hcF_at H 0 n last hlast
  rw [Nat.zero_add] at q0
  have hls:=hL.sizes last (List.mem_of_getElem? hlast)
  have hk:∀ i u,(hcF 0 H)[i]? = some u→w.cell? ⟨gh,i,none⟩=some u:=fun i u hu=>by
    have h1:=hL.heads.cells (g:=gh) (by rw [hhv];rfl) i u hu
    rw [add_lit0] at h1
    exact h1
  obtain ⟨lc,ls⟩:=last
  dsimp only
  rw [hHl] at hhv
  rw [← hnn] at hrv
  subst hrv hhv
  have h0l:0<l.length:=by
    cases l with
    | nil=>simp [validF] at hF
    | cons a r=>simp
  have HNx:=Lib.hid (fun (W:World) (k:Below w.heap.size w W)=>logNextX n hn l v lc ls t hls.1 hls.2 ht W (hvl.ext k) hl hF (hR.below k))
  have HOw:=Lib.hid (fun (W:World) (h:ChgsAt W v l)=>logOwnG ((n:Int)+1) l v W h h0l hl.few)
  have hcz0:=chainF_size lc (encG (encRec ((n:Int)+1) l))
  generalize chainF lc (encG (encRec ((n:Int)+1) l))=cz at *
  have HCZ:=Lib.hid hcz0
  clear hcz0
  obtain ⟨W0,hW0⟩:∃ W0,W0=w.alloc (.cells #[.int .i64 ((n:Int)+1),v] 43):=⟨_,rfl⟩
  have HE0:=Lib.hid (show Below w.heap.size w W0 by rw [hW0];exact ext_new _ _)
  have HX:=Lib.hid (show Blk W0 w.heap.size 43 #[.int .i64 ((n:Int)+1),v] by rw [hW0];exact Blk.new _ _ _)
  have HLG:=Lib.hid (hL.ext HE0.out)
  have HS0:=Lib.hid (show W0.cell? ⟨gl,1,none⟩=some (.slice (some ⟨gh,0,none⟩) (n+1) ch)∧W0.cell? ⟨gh,n*3,none⟩=some (.int .i64 (n:Int))∧W0.cell? ⟨gh,n*3+1,none⟩=some (.string lc)∧W0.cell? ⟨gh,n*3+2,none⟩=some (.string ls) ∧
    W0.cell? ⟨w.heap.size,0,none⟩=some (.int .i64 ((n:Int)+1))∧W0.cell? ⟨w.heap.size,1,none⟩=some v∧Below W0.heap.size W0 W0 from
    ⟨HLG.out.log.cell 1,cell_ext (hk _ _ q0) HE0.out,cell_ext (hk _ _ q1) HE0.out,cell_ext (hk _ _ q2) HE0.out,HX.out.cell 0,HX.out.cell 1,ext_refl _⟩)
  have HVL:=Lib.hid (hvl.ext HE0.out)
  have HW0:=Lib.hid hW0
  have HNN:=Lib.hid hnn
  have HHL:=Lib.hid hHl
  have hgl:=hL.log.lt
  have HNA:=Lib.hid (show ∀ k,w.heap.size≤k→¬ ApX gl (.slice A n cr) (.slice (some ⟨gh,0,none⟩) (n+1) ch) k from fun k hk=>by
    rintro (h|h|h)
    · have:=hL.log.lt;omega
    · have:=(hL.recs.lt k h).2;omega
    · have:=(hL.heads.lt k h).2;omega)
  have hghl:=hbh.lt
  have HT:=Lib.hid ht
  obtain ⟨Av,cv,hvv,-⟩:=hvl
  subst hvv
  clear ht hL hl hF hR hW0 hnn hHl hbh hlast q0 q1 q2 hls hk
  go_enter Tryz.func19,Tryz.ntmps19
  go_wp2_with fail
  rw [← HW0.out]
  have e1:IntKind.i64.wrap (n:Int)=(n:Int):=by rw [IntWalk.i64_in _ (by omega)]
  have q0:(0:Int)≤(n:Int):=by omega
  have q1:(n:Int)<(n:Int)+1:=by omega
  go_region_held3 (fun w'=>w'.cell? ⟨gl,1,none⟩=some (.slice (some ⟨gh,0,none⟩) (n+1) ch)∧w'.cell? ⟨gh,n*3,none⟩=some (.int .i64 (n:Int))∧w'.cell? ⟨gh,n*3+1,none⟩=some (.string lc)∧w'.cell? ⟨gh,n*3+2,none⟩=some (.string ls)∧w'.cell? ⟨w.heap.size,0,none⟩=some (.int .i64 ((n:Int)+1))∧w'.cell? ⟨w.heap.size,1,none⟩=some (.slice Av l.length cv)∧Below W0.heap.size W0 w')
    (first|exact agKeep5 HS0.out (ext_refl W0).drew|assumption|exact agKeep5 HS0.out hbw|exact agKeep5 HS0.out (ext_alloc hbw _)|exact agKeep5 HS0.out (ext_alloc hbw _).drew|exact agKeep5 HS0.out (ext_new _ _).drew|exact agKeep5 HS0.out (ext_new _ _)|exact agKeep5 HS0.out (ext_set (ext_set (ext_set hbw (Nat.le_refl _) _) (Nat.le_refl _) _) (Nat.le_refl _) _))
    (first|(go_at_call 51;(with_reducible refine (HNx.out _ ?_).mono ?_);(exact ext_call HE0.out (agB5 (by assumption)));rintro e W1 ⟨rfl,hb'⟩;have hbw:=ext_call (agB5 (by assumption)) hb';try (have hbx:=(show Blk W1 W0.heap.size 30 #[.int .i64 0,.string ⟨#[]⟩,.string ⟨#[]⟩] from ((Blk.new W0 _ _).drew).ext hb');have bx0:=hbx.cell 0;have bf0:=hbx.frozen 0;have bx1:=hbx.cell 1;have bf1:=hbx.frozen 1;have bx2:=hbx.cell 2;have bf2:=hbx.frozen 2;have HBX:=Lib.hid hbx;clear hbx)))
  all_goals
    clear hb'
    first
    | (generalize hX:World.setCell (World.setCell (World.setCell W1 ⟨W0.heap.size,0,none⟩ (.int .i64 ((n:Int)+1))) ⟨W0.heap.size,1,none⟩ (.string cz)) ⟨W0.heap.size,2,none⟩ (.string t)=X
       have HBx:=Lib.hid (show Blk X W0.heap.size 30 #[.int .i64 ((n:Int)+1),.string cz,.string t] by subst hX;exact ((HBX.out.set_ 0 _).set_ 1 _).set_ 2 _)
       have HEx:=Lib.hid (show Below W0.heap.size W0 X by subst hX;exact ext_set (ext_set (ext_set hbw (Nat.le_refl _) _) (Nat.le_refl _) _) (Nat.le_refl _) _)
       have hhx:W0.heap.size≤W0.heap.size:=Nat.le_refl _
       clear bx0 bx1 bx2 bf0 bf1 bf2 hX hbw HBX
       generalize hgx:W0.heap.size=hx at HBx hhx ⊢)
    | (generalize hX:World.alloc W1 (.cells #[.int .i64 ((n:Int)+1),.string cz,.string t] 30)=X
       have HBx:=Lib.hid (show Blk X W1.heap.size 30 #[.int .i64 ((n:Int)+1),.string cz,.string t] by subst hX;exact Blk.new _ _ _)
       have HEx:=Lib.hid (show Below W0.heap.size W0 X by subst hX;exact ext_alloc hbw _)
       have hhx:W0.heap.size≤W1.heap.size:=hbw.size
       clear hX hbw
       generalize hgx:W1.heap.size=hx at HBx hhx ⊢)
    have HGx:=Lib.hid (HLG.out.ext HEx.out)
    have HXx:=Lib.hid (HX.out.ext HEx.out)
    have HVX:=Lib.hid (HVL.out.ext HEx.out)
    have hw0:=HE0.out.size
    have hnr:¬ ApX gl (.slice A n cr) (.slice (some ⟨gh,0,none⟩) (n+1) ch) w.heap.size:=HNA.out _ (Nat.le_refl _)
    have hnh:¬ ApX gl (.slice A n cr) (.slice (some ⟨gh,0,none⟩) (n+1) ch) hx:=HNA.out _ (by omega)
    have HSX:=Lib.hid (And.intro HXx.out (And.intro HBx.out (And.intro hnr hnh)))
    have HA:=Lib.hid (show ApI2 B C X gl (.slice A n cr) (.slice (some ⟨gh,0,none⟩) (n+1) ch) R (.slice A n cr) n (rcF 0 R) (.slice (some ⟨gh,0,none⟩) (n+1) ch) (n+1) (hcF 0 H) X.drew by
      have h1:=ApI2.start HGx.out
      rw [← HNN.out,HHL.out] at h1
      exact h1.below (ext_refl X).drew)
    have HBB:=Lib.hid (show B≤X.heap.size by have h1:=hBw;have h2:=HE0.out.size;have h3:=HEx.out.size;omega)
    have HCB:=Lib.hid (show C≤X.heap.size by have h1:=hCw;have h2:=HE0.out.size;have h3:=HEx.out.size;omega)
    have HBD:=Lib.hid (show Below X.heap.size X X.drew from (ext_refl X).drew)
    clear hnr hnh e1 q0 q1
    go_wp2
    refine wp_region_L (fun w'=>w'.cell? ⟨w.heap.size,0,none⟩=some (.int .i64 ((n:Int)+1))∧w'.cell? ⟨w.heap.size,1,none⟩=some (.slice Av l.length cv)∧w'.cell? ⟨hx,0,none⟩=some (.int .i64 ((n:Int)+1))∧w'.cell? ⟨hx,1,none⟩=some (.string cz)∧w'.cell? ⟨hx,2,none⟩=some (.string t)∧ExtS (ApX gl (.slice A n cr) (.slice (some ⟨gh,0,none⟩) (n+1) ch)) X w')
      (fun w'=>w'.cell? ⟨gl,0,none⟩=some (.slice A n cr)∧w'.cell? ⟨gl,1,none⟩=some (.slice (some ⟨gh,0,none⟩) (n+1) ch)) [19,22] (by kernel_rfl) ?_
    generalize X.drew=U0 at *
    refine takeF 0 (v:=?_) rfl (by kernel_rfl) (by kernel_rfl) (by kernel_rfl) (by kernel_rfl) (fun _ _ _ h=>h) (Or.inl ⟨by rfl,?_⟩) (aqKeepG HSX.out HA.out.ext) (fun _=>(And.intro (HA.out.log.cell 0) (HA.out.log.cell 1))) ?_
    rotate_left 1
    · (rintro w' ⟨f0,f1,f2,f3,f4,_⟩;go_simp;with_reducible rfl)
    refine takeF 1 (v:=?_) rfl (by kernel_rfl) (by kernel_rfl) (by kernel_rfl) (by kernel_rfl) (fun _ _ _ h=>h) (Or.inl ⟨by rfl,?_⟩) (aqKeepG HSX.out HA.out.ext) (fun _=>(And.intro (HA.out.log.cell 0) (HA.out.log.cell 1))) ?_
    rotate_left 1
    · (rintro w' ⟨f0,f1,f2,f3,f4,_⟩;go_simp;with_reducible rfl)
    refine takeF 2 (v:=?_) rfl (by kernel_rfl) (by kernel_rfl) (by kernel_rfl) (by kernel_rfl) (fun _ _ _ h=>h) (Or.inl ⟨by rfl,?_⟩) (aqKeepG HSX.out HA.out.ext) (fun _=>(And.intro (HA.out.log.cell 0) (HA.out.log.cell 1))) ?_
    rotate_left 1
    · (rintro w' ⟨f0,f1,f2,f3,f4,_⟩;go_simp;with_reducible rfl)
    refine takeF 3 (v:=?_) rfl (by kernel_rfl) (by kernel_rfl) (by kernel_rfl) (by kernel_rfl) (fun _ _ _ h=>h) (Or.inl ⟨by rfl,?_⟩) (aqKeepG HSX.out HA.out.ext) (fun _=>(And.intro (HA.out.log.cell 0) (HA.out.log.cell 1))) ?_
    rotate_left 1
    · (rintro w' ⟨f0,f1,f2,f3,f4,_⟩;go_simp;with_reducible rfl)
    refine takeF 4 (v:=?_) rfl (by kernel_rfl) (by kernel_rfl) (by kernel_rfl) (by kernel_rfl) (fun _ _ _ h=>h) (Or.inl ⟨by rfl,?_⟩) (aqKeepG HSX.out HA.out.ext) (fun _=>(And.intro (HA.out.log.cell 0) (HA.out.log.cell 1))) ?_
    rotate_left 1
    · (rintro w' ⟨f0,f1,f2,f3,f4,_⟩;go_simp;with_reducible rfl)
    refine takeG 5 (v:=?_) rfl (by kernel_rfl) (by kernel_rfl) (by kernel_rfl) (by kernel_rfl) (by kernel_rfl) (by kernel_rfl) (fun _ _ _ h=>h) (Or.inl ⟨by rfl,?_⟩) (aqKeepG HSX.out HA.out.ext) (And.intro (HA.out.log.cell 0) (HA.out.log.cell 1)) ?_
    rotate_left 1
    · (rintro w' ⟨f0,f1⟩;go_simp;with_reducible rfl)
    refine takeF 6 (v:=?_) rfl (by kernel_rfl) (by kernel_rfl) (by kernel_rfl) (by kernel_rfl) (fun _ _ _ h=>h) (Or.inl ⟨by rfl,?_⟩) (aqKeepG HSX.out HA.out.ext) (fun _=>(And.intro (HA.out.log.cell 0) (HA.out.log.cell 1))) ?_
    rotate_left 1
    · (rintro w' ⟨f0,f1,f2,f3,f4,_⟩;go_simp;with_reducible rfl)
    refine takeF 10 (v:=?_) rfl (by kernel_rfl) (by kernel_rfl) (by kernel_rfl) (by kernel_rfl) (fun _ _ _ h=>h) (Or.inl ⟨by rfl,?_⟩) (aqKeepG HSX.out HA.out.ext) (fun _=>(And.intro (HA.out.log.cell 0) (HA.out.log.cell 1))) ?_
    rotate_left 1
    · (rintro w' ⟨f0,f1,f2,f3,f4,_⟩;go_simp;with_reducible rfl)
    refine takeF 11 (v:=?_) rfl (by kernel_rfl) (by kernel_rfl) (by kernel_rfl) (by kernel_rfl) (fun _ _ _ h=>h) (Or.inl ⟨by rfl,?_⟩) (aqKeepG HSX.out HA.out.ext) (fun _=>(And.intro (HA.out.log.cell 0) (HA.out.log.cell 1))) ?_
    rotate_left 1
    · (rintro w' ⟨f0,f1,f2,f3,f4,_⟩;go_simp;with_reducible rfl)
    refine takeF 12 (v:=?_) rfl (by kernel_rfl) (by kernel_rfl) (by kernel_rfl) (by kernel_rfl) (fun _ _ _ h=>h) (Or.inl ⟨by rfl,?_⟩) (aqKeepG HSX.out HA.out.ext) (fun _=>(And.intro (HA.out.log.cell 0) (HA.out.log.cell 1))) ?_
    rotate_left 1
    · (rintro w' ⟨f0,f1,f2,f3,f4,_⟩;go_simp;with_reducible rfl)
    refine takeG 13 (v:=?_) rfl (by kernel_rfl) (by kernel_rfl) (by kernel_rfl) (by kernel_rfl) (by kernel_rfl) (by kernel_rfl) (fun _ _ _ h=>h) (Or.inl ⟨by rfl,?_⟩) (aqKeepG HSX.out HA.out.ext) (And.intro (HA.out.log.cell 0) (HA.out.log.cell 1)) ?_
    rotate_left 1
    · (rintro w' ⟨f0,f1⟩;go_simp;with_reducible rfl)
    refine takeF 14 (v:=?_) rfl (by kernel_rfl) (by kernel_rfl) (by kernel_rfl) (by kernel_rfl) (fun _ _ _ h=>h) (Or.inl ⟨by rfl,?_⟩) (aqKeepG HSX.out HA.out.ext) (fun _=>(And.intro (HA.out.log.cell 0) (HA.out.log.cell 1))) ?_
    rotate_left 1
    · (rintro w' ⟨f0,f1,f2,f3,f4,_⟩;go_simp;with_reducible rfl)
    refine allL [7,15] (by kernel_rfl) (by simp) ?_
    simp only [List.forall_mem_cons,List.not_mem_nil,false_implies,implies_true,and_true]
    refine ⟨?_,?_⟩
    · refine stepL rfl (by rfl) (fun K hK=>?_)
      go_simp
      go_at_call 52
      refine (HOw.out _ (HVX.out.ext HBD.out)).mono ?_
      rintro e V7 ⟨go,d,rfl,-,hd,hch,hbo⟩
      have HA:=Lib.hid (HA.out.below hbo)
      have HGO:=Lib.hid hch
      have HD:=Lib.hid hd
      have HBD:=Lib.hid (ext_call HBD.out hbo)
      clear hbo hch hd
      refine hK _ _ ⟨⟨(aqKeepG HSX.out HA.out.ext),fun _=>(And.intro (HA.out.log.cell 0) (HA.out.log.cell 1))⟩,?_⟩
      clear hK K
      refine allL [8,15] (by kernel_rfl) (by simp) ?_
      simp only [List.forall_mem_cons,List.not_mem_nil,false_implies,implies_true,and_true]
      refine ⟨?_,?_⟩
      · refine stepL rfl (by rfl) (fun K hK=>?_)
        go_simp
        obtain ⟨U8,hU⟩:∃ Z,Z=World.alloc V7 (.cells #[.int .i64 ((n:Int)+1),.slice (some ⟨go,0,none⟩) l.length d] 43):=⟨_,rfl⟩
        have hbo:Below V7.heap.size V7 U8:=by rw [hU];exact ext_new _ _
        have HNB:=Lib.hid (show Blk U8 V7.heap.size 43 #[.int .i64 ((n:Int)+1),.slice (some ⟨go,0,none⟩) l.length d] by rw [hU];exact Blk.new _ _ _)
        have HA:=Lib.hid (HA.out.below hbo)
        have HBD:=Lib.hid (ext_call HBD.out hbo)
        have HGO:=Lib.hid (HGO.out.ext hbo)
        rw [← hU]
        clear hU hbo
        generalize V7.heap.size=nb at HNB ⊢
        refine hK _ _ ⟨⟨(aqKeepG HSX.out HA.out.ext),fun _=>(And.intro (HA.out.log.cell 0) (HA.out.log.cell 1))⟩,?_⟩
        clear hK K
        refine allL [9,15] (by kernel_rfl) (by simp) ?_
        simp only [List.forall_mem_cons,List.not_mem_nil,false_implies,implies_true,and_true]
        refine ⟨?_,?_⟩
        · refine stepL rfl (by rfl) (fun K hK=>?_)
          refine wp_append_own _ (.tmp 37) (.tmp 40) 37 rfl B 43 ir (.agg #[.int .i64 0,.slice none 0 0]) 2 32 Tryz.underlying37 hir hzr0 hzr1 hzr2 rfl (by decide) (.slice A n cr) n (rcF 0 R) (by rfl) HA.out.recs ⟨nb,0,none⟩ 1 1 [.int .i64 ((n:Int)+1),.slice (some ⟨go,0,none⟩) l.length d] (by rfl) rfl (news_blk HNB.out) (by simp [Value.oneCell']) (by unfold maxLen;omega) (by omega) (Nat.le_trans HBB.out HA.out.ext.size) ?_
          intro v9 W9 ho9 hg9 _
          obtain ⟨A9,c9,h9⟩:=own_shape ho9
          subst h9
          have HGO:=Lib.hid (HGO.out.grownT hg9 HA.out.recs (by decide))
          have HA:=Lib.hid (HA.out.app_rec ho9 hg9)
          clear ho9 hg9
          simp only [Act.put,List.setIfInBounds_toArray,List.set_cons_succ,List.set_cons_zero]
          refine hK _ _ ⟨⟨(aqKeepG HSX.out HA.out.ext),fun _=>(And.intro (HA.out.log.cell 0) (HA.out.log.cell 1))⟩,?_⟩
          clear hK K
          refine allL [15] (by kernel_rfl) (by simp) ?_
          simp only [List.forall_mem_cons,List.not_mem_nil,false_implies,implies_true,and_true]
          refine stepL rfl (by rfl) (fun K hK=>?_)
          go_simp
          obtain ⟨U15,hU⟩:∃ Z,Z=World.alloc W9 (.cells #[.int .i64 ((n:Int)+1),.string cz,.string t] 30):=⟨_,rfl⟩
          have hbo:Below W9.heap.size W9 U15:=by rw [hU];exact ext_new _ _
          have HMB:=Lib.hid (show Blk U15 W9.heap.size 30 #[.int .i64 ((n:Int)+1),.string cz,.string t] by rw [hU];exact Blk.new _ _ _)
          have HA:=Lib.hid (HA.out.below hbo)
          have HGO:=Lib.hid (HGO.out.ext hbo)
          rw [← hU]
          clear hU hbo
          generalize W9.heap.size=mb at HMB ⊢
          refine hK _ _ ⟨⟨(aqKeepG HSX.out HA.out.ext),fun _=>(And.intro (HA.out.log.cell 0) (HA.out.log.cell 1))⟩,?_⟩
          clear hK K
          refine allL [16] (by kernel_rfl) (by simp) ?_
          simp only [List.forall_mem_cons,List.not_mem_nil,false_implies,implies_true,and_true]
          refine stepL rfl (by rfl) (fun K hK=>?_)
          refine wp_append_own _ (.tmp 45) (.tmp 47) 113 rfl C 30 ih (.agg #[.int .i64 0,.string ⟨#[]⟩,.string ⟨#[]⟩]) 3 40 Tryz.underlying113 hih hzh0 hzh1 hzh2 rfl (by decide) (.slice (some ⟨gh,0,none⟩) (n+1) ch) (n+1) (hcF 0 H) (by rfl) HA.out.heads ⟨mb,0,none⟩ 1 1 [.int .i64 ((n:Int)+1),.string cz,.string t] (by rfl) rfl (news_blk HMB.out) (by simp [Value.oneCell']) (by unfold maxLen;omega) (by omega) (Nat.le_trans HCB.out HA.out.ext.size) ?_
          intro v16 W16 ho9 hg9 _
          obtain ⟨A16,c16,h9⟩:=own_shape ho9
          subst h9
          have HGO:=Lib.hid (HGO.out.grownT hg9 HA.out.heads (by decide))
          have HA:=Lib.hid (HA.out.app_head ho9 hg9)
          clear ho9 hg9
          simp only [Act.put,List.setIfInBounds_toArray,List.set_cons_succ,List.set_cons_zero]
          refine hK _ _ ⟨⟨(aqKeepG HSX.out HA.out.ext),fun _=>(And.intro (HA.out.log.cell 0) (HA.out.log.cell 1))⟩,?_⟩
          clear hK K
          refine takeF 17 (v:=?_) rfl (by kernel_rfl) (by kernel_rfl) (by kernel_rfl) (by kernel_rfl) (fun _ _ _ h=>h) (Or.inl ⟨by rfl,?_⟩) (aqKeepG HSX.out HA.out.ext) (fun _=>(And.intro (HA.out.log.cell 0) (HA.out.log.cell 1))) ?_
          rotate_left 1
          · (rintro w' ⟨f0,f1,f2,f3,f4,_⟩;go_simp;with_reducible rfl)
          refine takeF 18 (v:=?_) rfl (by kernel_rfl) (by kernel_rfl) (by kernel_rfl) (by kernel_rfl) (fun _ _ _ h=>h) (Or.inl ⟨by rfl,?_⟩) (aqKeepG HSX.out HA.out.ext) (fun _=>(And.intro (HA.out.log.cell 0) (HA.out.log.cell 1))) ?_
          rotate_left 1
          · (rintro w' ⟨f0,f1,f2,f3,f4,_⟩;go_simp;with_reducible rfl)
          have p0:=HA.out.log.cell 0
          have pf0:=HA.out.log.frozen 0
          have pl:=HA.out.log.lt
          refine allL [19] (by kernel_rfl) (by simp) ?_
          simp only [List.forall_mem_cons,List.not_mem_nil,false_implies,implies_true,and_true]
          refine stepL rfl (by rfl) (fun K hK=>?_)
          go_simp
          obtain ⟨U19,hU⟩:∃ Z,Z=World.setCell W16 ⟨gl,0,none⟩ (.slice A9 (n+1) c9):=⟨_,rfl⟩
          rw [← hU]
          have HE19:=Lib.hid (show ExtS (ApX gl (.slice A n cr) (.slice (some ⟨gh,0,none⟩) (n+1) ch)) X U19 by rw [hU];exact HA.out.ext.setG)
          have HL19:=Lib.hid (show Blk U19 gl 115 #[.slice A9 (n+1) c9,.slice (some ⟨gh,0,none⟩) (n+1) ch] by rw [hU];exact HA.out.log.set_ 0 _)
          have HR19:=Lib.hid (show World.ownsRow U19 B 43 2 _ _ _ by rw [hU];exact own_setT HA.out.recs HA.out.log (by decide) _ _)
          have HH19:=Lib.hid (show World.ownsRow U19 C 30 3 _ _ _ by rw [hU];exact own_setT HA.out.heads HA.out.log (by decide) _ _)
          have HC19:=Lib.hid (show ∀ x ∈ R,ChgB U19 x.2.1 x.1 from fun x hx=>by rw [hU];exact (HA.out.chg x hx).setT HA.out.log (by decide) _ _)
          have HGO:=Lib.hid (show ChgB U19 go l by rw [hU];exact HGO.out.setT HA.out.log (by decide) _ _)
          clear hU p0 pf0 pl HA
          refine hK _ _ ⟨⟨aqKeepG HSX.out HE19.out,fun h=>absurd h (by decide)⟩,?_⟩
          clear hK K
          refine takeF 20 (v:=?_) rfl (by kernel_rfl) (by kernel_rfl) (by kernel_rfl) (by kernel_rfl) (fun _ _ _ h=>h) (Or.inl ⟨by rfl,?_⟩) (aqKeepG HSX.out HE19.out) (fun h=>absurd h (by decide)) ?_
          rotate_left 1
          · (rintro w' ⟨f0,f1,f2,f3,f4,_⟩;go_simp;with_reducible rfl)
          refine takeF 21 (v:=?_) rfl (by kernel_rfl) (by kernel_rfl) (by kernel_rfl) (by kernel_rfl) (fun _ _ _ h=>h) (Or.inl ⟨by rfl,?_⟩) (aqKeepG HSX.out HE19.out) (fun h=>absurd h (by decide)) ?_
          rotate_left 1
          · (rintro w' ⟨f0,f1,f2,f3,f4,_⟩;go_simp;with_reducible rfl)
          have p0:=HL19.out.cell 1
          have pf0:=HL19.out.frozen 1
          have pl:=HL19.out.lt
          refine allL [22] (by kernel_rfl) (by simp) ?_
          simp only [List.forall_mem_cons,List.not_mem_nil,false_implies,implies_true,and_true]
          refine stepL rfl (by rfl) (fun K hK=>?_)
          go_simp
          obtain ⟨U22,hU⟩:∃ Z,Z=World.setCell U19 ⟨gl,1,none⟩ (.slice A16 (n+1+1) c16):=⟨_,rfl⟩
          rw [← hU]
          have HE22:=Lib.hid (show ExtS (ApX gl (.slice A n cr) (.slice (some ⟨gh,0,none⟩) (n+1) ch)) X U22 by rw [hU];exact HE19.out.setG)
          have HL22:=Lib.hid (show Blk U22 gl 115 #[.slice A9 (n+1) c9,.slice A16 (n+1+1) c16] by rw [hU];exact HL19.out.set_ 1 _)
          have HR22:=Lib.hid (show World.ownsRow U22 B 43 2 _ _ _ by rw [hU];exact own_setT HR19.out HL19.out (by decide) _ _)
          have HH22:=Lib.hid (show World.ownsRow U22 C 30 3 _ _ _ by rw [hU];exact own_setT HH19.out HL19.out (by decide) _ _)
          have HC22:=Lib.hid (show ∀ x ∈ R,ChgB U22 x.2.1 x.1 from fun x hx=>by rw [hU];exact (HC19.out x hx).setT HL19.out (by decide) _ _)
          have HGO:=Lib.hid (show ChgB U22 go l by rw [hU];exact HGO.out.setT HL19.out (by decide) _ _)
          clear hU p0 pf0 pl
          refine hK _ _ ⟨⟨aqKeepG HSX.out HE22.out,fun h=>absurd h (by decide)⟩,?_⟩
          clear hK K
          refine doneL (by kernel_rfl) ?_ _
          go_wp2
          go_ret
          refine ⟨rfl,_,_,go,d,logG_app HNN.out HHL.out HGx.out HD.out HT.out HCZ.out HL22.out HR22.out HH22.out HC22.out HGO.out,?_⟩
          exact (ExtS.of_ext (ext_call HE0.out HEx.out)).trans HE22.out
        · refine stepL rfl (by rfl) (fun K hK=>?_)
          go_simp
          obtain ⟨U15,hU⟩:∃ Z,Z=World.alloc U8 (.cells #[.int .i64 ((n:Int)+1),.string cz,.string t] 30):=⟨_,rfl⟩
          have hbo:Below U8.heap.size U8 U15:=by rw [hU];exact ext_new _ _
          have HMB:=Lib.hid (show Blk U15 U8.heap.size 30 #[.int .i64 ((n:Int)+1),.string cz,.string t] by rw [hU];exact Blk.new _ _ _)
          have HA:=Lib.hid (HA.out.below hbo)
          have HBD:=Lib.hid (ext_call HBD.out hbo)
          have HGO:=Lib.hid (HGO.out.ext hbo)
          have HNB:=Lib.hid (HNB.out.ext hbo)
          rw [← hU]
          clear hU hbo
          generalize U8.heap.size=mb at HMB ⊢
          refine hK _ _ ⟨⟨(aqKeepG HSX.out HA.out.ext),fun _=>(And.intro (HA.out.log.cell 0) (HA.out.log.cell 1))⟩,?_⟩
          clear hK K
          refine allL [9] (by kernel_rfl) (by simp) ?_
          simp only [List.forall_mem_cons,List.not_mem_nil,false_implies,implies_true,and_true]
          refine stepL rfl (by rfl) (fun K hK=>?_)
          refine wp_append_own _ (.tmp 37) (.tmp 40) 37 rfl B 43 ir (.agg #[.int .i64 0,.slice none 0 0]) 2 32 Tryz.underlying37 hir hzr0 hzr1 hzr2 rfl (by decide) (.slice A n cr) n (rcF 0 R) (by rfl) HA.out.recs ⟨nb,0,none⟩ 1 1 [.int .i64 ((n:Int)+1),.slice (some ⟨go,0,none⟩) l.length d] (by rfl) rfl (news_blk HNB.out) (by simp [Value.oneCell']) (by unfold maxLen;omega) (by omega) (Nat.le_trans HBB.out HA.out.ext.size) ?_
          intro v9 W9 ho9 hg9 _
          obtain ⟨A9,c9,h9⟩:=own_shape ho9
          subst h9
          have HGO:=Lib.hid (HGO.out.grownT hg9 HA.out.recs (by decide))
          have HMB:=Lib.hid (HMB.out.grownT hg9 HA.out.recs (by decide))
          have HA:=Lib.hid (HA.out.app_rec ho9 hg9)
          clear ho9 hg9
          simp only [Act.put,List.setIfInBounds_toArray,List.set_cons_succ,List.set_cons_zero]
          refine hK _ _ ⟨⟨(aqKeepG HSX.out HA.out.ext),fun _=>(And.intro (HA.out.log.cell 0) (HA.out.log.cell 1))⟩,?_⟩
          clear hK K
          refine allL [16] (by kernel_rfl) (by simp) ?_
          simp only [List.forall_mem_cons,List.not_mem_nil,false_implies,implies_true,and_true]
          refine stepL rfl (by rfl) (fun K hK=>?_)
          refine wp_append_own _ (.tmp 45) (.tmp 47) 113 rfl C 30 ih (.agg #[.int .i64 0,.string ⟨#[]⟩,.string ⟨#[]⟩]) 3 40 Tryz.underlying113 hih hzh0 hzh1 hzh2 rfl (by decide) (.slice (some ⟨gh,0,none⟩) (n+1) ch) (n+1) (hcF 0 H) (by rfl) HA.out.heads ⟨mb,0,none⟩ 1 1 [.int .i64 ((n:Int)+1),.string cz,.string t] (by rfl) rfl (news_blk HMB.out) (by simp [Value.oneCell']) (by unfold maxLen;omega) (by omega) (Nat.le_trans HCB.out HA.out.ext.size) ?_
          intro v16 W16 ho9 hg9 _
          obtain ⟨A16,c16,h9⟩:=own_shape ho9
          subst h9
          have HGO:=Lib.hid (HGO.out.grownT hg9 HA.out.heads (by decide))
          have HA:=Lib.hid (HA.out.app_head ho9 hg9)
          clear ho9 hg9
          simp only [Act.put,List.setIfInBounds_toArray,List.set_cons_succ,List.set_cons_zero]
          refine hK _ _ ⟨⟨(aqKeepG HSX.out HA.out.ext),fun _=>(And.intro (HA.out.log.cell 0) (HA.out.log.cell 1))⟩,?_⟩
          clear hK K
          refine takeF 17 (v:=?_) rfl (by kernel_rfl) (by kernel_rfl) (by kernel_rfl) (by kernel_rfl) (fun _ _ _ h=>h) (Or.inl ⟨by rfl,?_⟩) (aqKeepG HSX.out HA.out.ext) (fun _=>(And.intro (HA.out.log.cell 0) (HA.out.log.cell 1))) ?_
          rotate_left 1
          · (rintro w' ⟨f0,f1,f2,f3,f4,_⟩;go_simp;with_reducible rfl)
          refine takeF 18 (v:=?_) rfl (by kernel_rfl) (by kernel_rfl) (by kernel_rfl) (by kernel_rfl) (fun _ _ _ h=>h) (Or.inl ⟨by rfl,?_⟩) (aqKeepG HSX.out HA.out.ext) (fun _=>(And.intro (HA.out.log.cell 0) (HA.out.log.cell 1))) ?_
          rotate_left 1
          · (rintro w' ⟨f0,f1,f2,f3,f4,_⟩;go_simp;with_reducible rfl)
          have p0:=HA.out.log.cell 0
          have pf0:=HA.out.log.frozen 0
          have pl:=HA.out.log.lt
          refine allL [19] (by kernel_rfl) (by simp) ?_
          simp only [List.forall_mem_cons,List.not_mem_nil,false_implies,implies_true,and_true]
          refine stepL rfl (by rfl) (fun K hK=>?_)
          go_simp
          obtain ⟨U19,hU⟩:∃ Z,Z=World.setCell W16 ⟨gl,0,none⟩ (.slice A9 (n+1) c9):=⟨_,rfl⟩
          rw [← hU]
          have HE19:=Lib.hid (show ExtS (ApX gl (.slice A n cr) (.slice (some ⟨gh,0,none⟩) (n+1) ch)) X U19 by rw [hU];exact HA.out.ext.setG)
          have HL19:=Lib.hid (show Blk U19 gl 115 #[.slice A9 (n+1) c9,.slice (some ⟨gh,0,none⟩) (n+1) ch] by rw [hU];exact HA.out.log.set_ 0 _)
          have HR19:=Lib.hid (show World.ownsRow U19 B 43 2 _ _ _ by rw [hU];exact own_setT HA.out.recs HA.out.log (by decide) _ _)
          have HH19:=Lib.hid (show World.ownsRow U19 C 30 3 _ _ _ by rw [hU];exact own_setT HA.out.heads HA.out.log (by decide) _ _)
          have HC19:=Lib.hid (show ∀ x ∈ R,ChgB U19 x.2.1 x.1 from fun x hx=>by rw [hU];exact (HA.out.chg x hx).setT HA.out.log (by decide) _ _)
          have HGO:=Lib.hid (show ChgB U19 go l by rw [hU];exact HGO.out.setT HA.out.log (by decide) _ _)
          clear hU p0 pf0 pl HA
          refine hK _ _ ⟨⟨aqKeepG HSX.out HE19.out,fun h=>absurd h (by decide)⟩,?_⟩
          clear hK K
          refine takeF 20 (v:=?_) rfl (by kernel_rfl) (by kernel_rfl) (by kernel_rfl) (by kernel_rfl) (fun _ _ _ h=>h) (Or.inl ⟨by rfl,?_⟩) (aqKeepG HSX.out HE19.out) (fun h=>absurd h (by decide)) ?_
          rotate_left 1
          · (rintro w' ⟨f0,f1,f2,f3,f4,_⟩;go_simp;with_reducible rfl)
          refine takeF 21 (v:=?_) rfl (by kernel_rfl) (by kernel_rfl) (by kernel_rfl) (by kernel_rfl) (fun _ _ _ h=>h) (Or.inl ⟨by rfl,?_⟩) (aqKeepG HSX.out HE19.out) (fun h=>absurd h (by decide)) ?_
          rotate_left 1
          · (rintro w' ⟨f0,f1,f2,f3,f4,_⟩;go_simp;with_reducible rfl)
          have p0:=HL19.out.cell 1
          have pf0:=HL19.out.frozen 1
          have pl:=HL19.out.lt
          refine allL [22] (by kernel_rfl) (by simp) ?_
          simp only [List.forall_mem_cons,List.not_mem_nil,false_implies,implies_true,and_true]
          refine stepL rfl (by rfl) (fun K hK=>?_)
          go_simp
          obtain ⟨U22,hU⟩:∃ Z,Z=World.setCell U19 ⟨gl,1,none⟩ (.slice A16 (n+1+1) c16):=⟨_,rfl⟩
          rw [← hU]
          have HE22:=Lib.hid (show ExtS (ApX gl (.slice A n cr) (.slice (some ⟨gh,0,none⟩) (n+1) ch)) X U22 by rw [hU];exact HE19.out.setG)
          have HL22:=Lib.hid (show Blk U22 gl 115 #[.slice A9 (n+1) c9,.slice A16 (n+1+1) c16] by rw [hU];exact HL19.out.set_ 1 _)
          have HR22:=Lib.hid (show World.ownsRow U22 B 43 2 _ _ _ by rw [hU];exact own_setT HR19.out HL19.out (by decide) _ _)
          have HH22:=Lib.hid (show World.ownsRow U22 C 30 3 _ _ _ by rw [hU];exact own_setT HH19.out HL19.out (by decide) _ _)
          have HC22:=Lib.hid (show ∀ x ∈ R,ChgB U22 x.2.1 x.1 from fun x hx=>by rw [hU];exact (HC19.out x hx).setT HL19.out (by decide) _ _)
          have HGO:=Lib.hid (show ChgB U22 go l by rw [hU];exact HGO.out.setT HL19.out (by decide) _ _)
          clear hU p0 pf0 pl
          refine hK _ _ ⟨⟨aqKeepG HSX.out HE22.out,fun h=>absurd h (by decide)⟩,?_⟩
          clear hK K
          refine doneL (by kernel_rfl) ?_ _
          go_wp2
          go_ret
          refine ⟨rfl,_,_,go,d,logG_app HNN.out HHL.out HGx.out HD.out HT.out HCZ.out HL22.out HR22.out HH22.out HC22.out HGO.out,?_⟩
          exact (ExtS.of_ext (ext_call HE0.out HEx.out)).trans HE22.out
      · refine stepL rfl (by rfl) (fun K hK=>?_)
        go_simp
        obtain ⟨U15,hU⟩:∃ Z,Z=World.alloc V7 (.cells #[.int .i64 ((n:Int)+1),.string cz,.string t] 30):=⟨_,rfl⟩
        have hbo:Below V7.heap.size V7 U15:=by rw [hU];exact ext_new _ _
        have HMB:=Lib.hid (show Blk U15 V7.heap.size 30 #[.int .i64 ((n:Int)+1),.string cz,.string t] by rw [hU];exact Blk.new _ _ _)
        have HA:=Lib.hid (HA.out.below hbo)
        have HBD:=Lib.hid (ext_call HBD.out hbo)
        have HGO:=Lib.hid (HGO.out.ext hbo)
        rw [← hU]
        clear hU hbo
        generalize V7.heap.size=mb at HMB ⊢
        refine hK _ _ ⟨⟨(aqKeepG HSX.out HA.out.ext),fun _=>(And.intro (HA.out.log.cell 0) (HA.out.log.cell 1))⟩,?_⟩
        clear hK K
        refine allL [8] (by kernel_rfl) (by simp) ?_
        simp only [List.forall_mem_cons,List.not_mem_nil,false_implies,implies_true,and_true]
        refine stepL rfl (by rfl) (fun K hK=>?_)
        go_simp
        obtain ⟨U8,hU⟩:∃ Z,Z=World.alloc U15 (.cells #[.int .i64 ((n:Int)+1),.slice (some ⟨go,0,none⟩) l.length d] 43):=⟨_,rfl⟩
        have hbo:Below U15.heap.size U15 U8:=by rw [hU];exact ext_new _ _
        have HNB:=Lib.hid (show Blk U8 U15.heap.size 43 #[.int .i64 ((n:Int)+1),.slice (some ⟨go,0,none⟩) l.length d] by rw [hU];exact Blk.new _ _ _)
        have HA:=Lib.hid (HA.out.below hbo)
        have HBD:=Lib.hid (ext_call HBD.out hbo)
        have HGO:=Lib.hid (HGO.out.ext hbo)
        have HMB:=Lib.hid (HMB.out.ext hbo)
        rw [← hU]
        clear hU hbo
        generalize U15.heap.size=nb at HNB ⊢
        refine hK _ _ ⟨⟨(aqKeepG HSX.out HA.out.ext),fun _=>(And.intro (HA.out.log.cell 0) (HA.out.log.cell 1))⟩,?_⟩
        clear hK K
        refine allL [9] (by kernel_rfl) (by simp) ?_
        simp only [List.forall_mem_cons,List.not_mem_nil,false_implies,implies_true,and_true]
        refine stepL rfl (by rfl) (fun K hK=>?_)
        refine wp_append_own _ (.tmp 37) (.tmp 40) 37 rfl B 43 ir (.agg #[.int .i64 0,.slice none 0 0]) 2 32 Tryz.underlying37 hir hzr0 hzr1 hzr2 rfl (by decide) (.slice A n cr) n (rcF 0 R) (by rfl) HA.out.recs ⟨nb,0,none⟩ 1 1 [.int .i64 ((n:Int)+1),.slice (some ⟨go,0,none⟩) l.length d] (by rfl) rfl (news_blk HNB.out) (by simp [Value.oneCell']) (by unfold maxLen;omega) (by omega) (Nat.le_trans HBB.out HA.out.ext.size) ?_
        intro v9 W9 ho9 hg9 _
        obtain ⟨A9,c9,h9⟩:=own_shape ho9
        subst h9
        have HGO:=Lib.hid (HGO.out.grownT hg9 HA.out.recs (by decide))
        have HMB:=Lib.hid (HMB.out.grownT hg9 HA.out.recs (by decide))
        have HA:=Lib.hid (HA.out.app_rec ho9 hg9)
        clear ho9 hg9
        simp only [Act.put,List.setIfInBounds_toArray,List.set_cons_succ,List.set_cons_zero]
        refine hK _ _ ⟨⟨(aqKeepG HSX.out HA.out.ext),fun _=>(And.intro (HA.out.log.cell 0) (HA.out.log.cell 1))⟩,?_⟩
        clear hK K
        refine allL [16] (by kernel_rfl) (by simp) ?_
        simp only [List.forall_mem_cons,List.not_mem_nil,false_implies,implies_true,and_true]
        refine stepL rfl (by rfl) (fun K hK=>?_)
        refine wp_append_own _ (.tmp 45) (.tmp 47) 113 rfl C 30 ih (.agg #[.int .i64 0,.string ⟨#[]⟩,.string ⟨#[]⟩]) 3 40 Tryz.underlying113 hih hzh0 hzh1 hzh2 rfl (by decide) (.slice (some ⟨gh,0,none⟩) (n+1) ch) (n+1) (hcF 0 H) (by rfl) HA.out.heads ⟨mb,0,none⟩ 1 1 [.int .i64 ((n:Int)+1),.string cz,.string t] (by rfl) rfl (news_blk HMB.out) (by simp [Value.oneCell']) (by unfold maxLen;omega) (by omega) (Nat.le_trans HCB.out HA.out.ext.size) ?_
        intro v16 W16 ho9 hg9 _
        obtain ⟨A16,c16,h9⟩:=own_shape ho9
        subst h9
        have HGO:=Lib.hid (HGO.out.grownT hg9 HA.out.heads (by decide))
        have HA:=Lib.hid (HA.out.app_head ho9 hg9)
        clear ho9 hg9
        simp only [Act.put,List.setIfInBounds_toArray,List.set_cons_succ,List.set_cons_zero]
        refine hK _ _ ⟨⟨(aqKeepG HSX.out HA.out.ext),fun _=>(And.intro (HA.out.log.cell 0) (HA.out.log.cell 1))⟩,?_⟩
        clear hK K
        refine takeF 17 (v:=?_) rfl (by kernel_rfl) (by kernel_rfl) (by kernel_rfl) (by kernel_rfl) (fun _ _ _ h=>h) (Or.inl ⟨by rfl,?_⟩) (aqKeepG HSX.out HA.out.ext) (fun _=>(And.intro (HA.out.log.cell 0) (HA.out.log.cell 1))) ?_
        rotate_left 1
        · (rintro w' ⟨f0,f1,f2,f3,f4,_⟩;go_simp;with_reducible rfl)
        refine takeF 18 (v:=?_) rfl (by kernel_rfl) (by kernel_rfl) (by kernel_rfl) (by kernel_rfl) (fun _ _ _ h=>h) (Or.inl ⟨by rfl,?_⟩) (aqKeepG HSX.out HA.out.ext) (fun _=>(And.intro (HA.out.log.cell 0) (HA.out.log.cell 1))) ?_
        rotate_left 1
        · (rintro w' ⟨f0,f1,f2,f3,f4,_⟩;go_simp;with_reducible rfl)
        have p0:=HA.out.log.cell 0
        have pf0:=HA.out.log.frozen 0
        have pl:=HA.out.log.lt
        refine allL [19] (by kernel_rfl) (by simp) ?_
        simp only [List.forall_mem_cons,List.not_mem_nil,false_implies,implies_true,and_true]
        refine stepL rfl (by rfl) (fun K hK=>?_)
        go_simp
        obtain ⟨U19,hU⟩:∃ Z,Z=World.setCell W16 ⟨gl,0,none⟩ (.slice A9 (n+1) c9):=⟨_,rfl⟩
        rw [← hU]
        have HE19:=Lib.hid (show ExtS (ApX gl (.slice A n cr) (.slice (some ⟨gh,0,none⟩) (n+1) ch)) X U19 by rw [hU];exact HA.out.ext.setG)
        have HL19:=Lib.hid (show Blk U19 gl 115 #[.slice A9 (n+1) c9,.slice (some ⟨gh,0,none⟩) (n+1) ch] by rw [hU];exact HA.out.log.set_ 0 _)
        have HR19:=Lib.hid (show World.ownsRow U19 B 43 2 _ _ _ by rw [hU];exact own_setT HA.out.recs HA.out.log (by decide) _ _)
        have HH19:=Lib.hid (show World.ownsRow U19 C 30 3 _ _ _ by rw [hU];exact own_setT HA.out.heads HA.out.log (by decide) _ _)
        have HC19:=Lib.hid (show ∀ x ∈ R,ChgB U19 x.2.1 x.1 from fun x hx=>by rw [hU];exact (HA.out.chg x hx).setT HA.out.log (by decide) _ _)
        have HGO:=Lib.hid (show ChgB U19 go l by rw [hU];exact HGO.out.setT HA.out.log (by decide) _ _)
        clear hU p0 pf0 pl HA
        refine hK _ _ ⟨⟨aqKeepG HSX.out HE19.out,fun h=>absurd h (by decide)⟩,?_⟩
        clear hK K
        refine takeF 20 (v:=?_) rfl (by kernel_rfl) (by kernel_rfl) (by kernel_rfl) (by kernel_rfl) (fun _ _ _ h=>h) (Or.inl ⟨by rfl,?_⟩) (aqKeepG HSX.out HE19.out) (fun h=>absurd h (by decide)) ?_
        rotate_left 1
        · (rintro w' ⟨f0,f1,f2,f3,f4,_⟩;go_simp;with_reducible rfl)
        refine takeF 21 (v:=?_) rfl (by kernel_rfl) (by kernel_rfl) (by kernel_rfl) (by kernel_rfl) (fun _ _ _ h=>h) (Or.inl ⟨by rfl,?_⟩) (aqKeepG HSX.out HE19.out) (fun h=>absurd h (by decide)) ?_
        rotate_left 1
        · (rintro w' ⟨f0,f1,f2,f3,f4,_⟩;go_simp;with_reducible rfl)
        have p0:=HL19.out.cell 1
        have pf0:=HL19.out.frozen 1
        have pl:=HL19.out.lt
        refine allL [22] (by kernel_rfl) (by simp) ?_
        simp only [List.forall_mem_cons,List.not_mem_nil,false_implies,implies_true,and_true]
        refine stepL rfl (by rfl) (fun K hK=>?_)
        go_simp
        obtain ⟨U22,hU⟩:∃ Z,Z=World.setCell U19 ⟨gl,1,none⟩ (.slice A16 (n+1+1) c16):=⟨_,rfl⟩
        rw [← hU]
        have HE22:=Lib.hid (show ExtS (ApX gl (.slice A n cr) (.slice (some ⟨gh,0,none⟩) (n+1) ch)) X U22 by rw [hU];exact HE19.out.setG)
        have HL22:=Lib.hid (show Blk U22 gl 115 #[.slice A9 (n+1) c9,.slice A16 (n+1+1) c16] by rw [hU];exact HL19.out.set_ 1 _)
        have HR22:=Lib.hid (show World.ownsRow U22 B 43 2 _ _ _ by rw [hU];exact own_setT HR19.out HL19.out (by decide) _ _)
        have HH22:=Lib.hid (show World.ownsRow U22 C 30 3 _ _ _ by rw [hU];exact own_setT HH19.out HL19.out (by decide) _ _)
        have HC22:=Lib.hid (show ∀ x ∈ R,ChgB U22 x.2.1 x.1 from fun x hx=>by rw [hU];exact (HC19.out x hx).setT HL19.out (by decide) _ _)
        have HGO:=Lib.hid (show ChgB U22 go l by rw [hU];exact HGO.out.setT HL19.out (by decide) _ _)
        clear hU p0 pf0 pl
        refine hK _ _ ⟨⟨aqKeepG HSX.out HE22.out,fun h=>absurd h (by decide)⟩,?_⟩
        clear hK K
        refine doneL (by kernel_rfl) ?_ _
        go_wp2
        go_ret
        refine ⟨rfl,_,_,go,d,logG_app HNN.out HHL.out HGx.out HD.out HT.out HCZ.out HL22.out HR22.out HH22.out HC22.out HGO.out,?_⟩
        exact (ExtS.of_ext (ext_call HE0.out HEx.out)).trans HE22.out
    · refine stepL rfl (by rfl) (fun K hK=>?_)
      go_simp
      obtain ⟨U15,hU⟩:∃ Z,Z=World.alloc U0 (.cells #[.int .i64 ((n:Int)+1),.string cz,.string t] 30):=⟨_,rfl⟩
      have hbo:Below U0.heap.size U0 U15:=by rw [hU];exact ext_new _ _
      have HMB:=Lib.hid (show Blk U15 U0.heap.size 30 #[.int .i64 ((n:Int)+1),.string cz,.string t] by rw [hU];exact Blk.new _ _ _)
      have HA:=Lib.hid (HA.out.below hbo)
      have HBD:=Lib.hid (ext_call HBD.out hbo)
      rw [← hU]
      clear hU hbo
      generalize U0.heap.size=mb at HMB ⊢
      refine hK _ _ ⟨⟨(aqKeepG HSX.out HA.out.ext),fun _=>(And.intro (HA.out.log.cell 0) (HA.out.log.cell 1))⟩,?_⟩
      clear hK K
      refine allL [7] (by kernel_rfl) (by simp) ?_
      simp only [List.forall_mem_cons,List.not_mem_nil,false_implies,implies_true,and_true]
      refine stepL rfl (by rfl) (fun K hK=>?_)
      go_simp
      go_at_call 52
      refine (HOw.out _ (HVX.out.ext HBD.out)).mono ?_
      rintro e V7 ⟨go,d,rfl,-,hd,hch,hbo⟩
      have HA:=Lib.hid (HA.out.below hbo)
      have HGO:=Lib.hid hch
      have HD:=Lib.hid hd
      have HBD:=Lib.hid (ext_call HBD.out hbo)
      have HMB:=Lib.hid (HMB.out.ext hbo)
      clear hbo hch hd
      refine hK _ _ ⟨⟨(aqKeepG HSX.out HA.out.ext),fun _=>(And.intro (HA.out.log.cell 0) (HA.out.log.cell 1))⟩,?_⟩
      clear hK K
      refine allL [8] (by kernel_rfl) (by simp) ?_
      simp only [List.forall_mem_cons,List.not_mem_nil,false_implies,implies_true,and_true]
      refine stepL rfl (by rfl) (fun K hK=>?_)
      go_simp
      obtain ⟨U8,hU⟩:∃ Z,Z=World.alloc V7 (.cells #[.int .i64 ((n:Int)+1),.slice (some ⟨go,0,none⟩) l.length d] 43):=⟨_,rfl⟩
      have hbo:Below V7.heap.size V7 U8:=by rw [hU];exact ext_new _ _
      have HNB:=Lib.hid (show Blk U8 V7.heap.size 43 #[.int .i64 ((n:Int)+1),.slice (some ⟨go,0,none⟩) l.length d] by rw [hU];exact Blk.new _ _ _)
      have HA:=Lib.hid (HA.out.below hbo)
      have HBD:=Lib.hid (ext_call HBD.out hbo)
      have HGO:=Lib.hid (HGO.out.ext hbo)
      have HMB:=Lib.hid (HMB.out.ext hbo)
      rw [← hU]
      clear hU hbo
      generalize V7.heap.size=nb at HNB ⊢
      refine hK _ _ ⟨⟨(aqKeepG HSX.out HA.out.ext),fun _=>(And.intro (HA.out.log.cell 0) (HA.out.log.cell 1))⟩,?_⟩
      clear hK K
      refine allL [9] (by kernel_rfl) (by simp) ?_
      simp only [List.forall_mem_cons,List.not_mem_nil,false_implies,implies_true,and_true]
      refine stepL rfl (by rfl) (fun K hK=>?_)
      refine wp_append_own _ (.tmp 37) (.tmp 40) 37 rfl B 43 ir (.agg #[.int .i64 0,.slice none 0 0]) 2 32 Tryz.underlying37 hir hzr0 hzr1 hzr2 rfl (by decide) (.slice A n cr) n (rcF 0 R) (by rfl) HA.out.recs ⟨nb,0,none⟩ 1 1 [.int .i64 ((n:Int)+1),.slice (some ⟨go,0,none⟩) l.length d] (by rfl) rfl (news_blk HNB.out) (by simp [Value.oneCell']) (by unfold maxLen;omega) (by omega) (Nat.le_trans HBB.out HA.out.ext.size) ?_
      intro v9 W9 ho9 hg9 _
      obtain ⟨A9,c9,h9⟩:=own_shape ho9
      subst h9
      have HGO:=Lib.hid (HGO.out.grownT hg9 HA.out.recs (by decide))
      have HMB:=Lib.hid (HMB.out.grownT hg9 HA.out.recs (by decide))
      have HA:=Lib.hid (HA.out.app_rec ho9 hg9)
      clear ho9 hg9
      simp only [Act.put,List.setIfInBounds_toArray,List.set_cons_succ,List.set_cons_zero]
      refine hK _ _ ⟨⟨(aqKeepG HSX.out HA.out.ext),fun _=>(And.intro (HA.out.log.cell 0) (HA.out.log.cell 1))⟩,?_⟩
      clear hK K
      refine allL [16] (by kernel_rfl) (by simp) ?_
      simp only [List.forall_mem_cons,List.not_mem_nil,false_implies,implies_true,and_true]
      refine stepL rfl (by rfl) (fun K hK=>?_)
      refine wp_append_own _ (.tmp 45) (.tmp 47) 113 rfl C 30 ih (.agg #[.int .i64 0,.string ⟨#[]⟩,.string ⟨#[]⟩]) 3 40 Tryz.underlying113 hih hzh0 hzh1 hzh2 rfl (by decide) (.slice (some ⟨gh,0,none⟩) (n+1) ch) (n+1) (hcF 0 H) (by rfl) HA.out.heads ⟨mb,0,none⟩ 1 1 [.int .i64 ((n:Int)+1),.string cz,.string t] (by rfl) rfl (news_blk HMB.out) (by simp [Value.oneCell']) (by unfold maxLen;omega) (by omega) (Nat.le_trans HCB.out HA.out.ext.size) ?_
      intro v16 W16 ho9 hg9 _
      obtain ⟨A16,c16,h9⟩:=own_shape ho9
      subst h9
      have HGO:=Lib.hid (HGO.out.grownT hg9 HA.out.heads (by decide))
      have HA:=Lib.hid (HA.out.app_head ho9 hg9)
      clear ho9 hg9
      simp only [Act.put,List.setIfInBounds_toArray,List.set_cons_succ,List.set_cons_zero]
      refine hK _ _ ⟨⟨(aqKeepG HSX.out HA.out.ext),fun _=>(And.intro (HA.out.log.cell 0) (HA.out.log.cell 1))⟩,?_⟩
      clear hK K
      refine takeF 17 (v:=?_) rfl (by kernel_rfl) (by kernel_rfl) (by kernel_rfl) (by kernel_rfl) (fun _ _ _ h=>h) (Or.inl ⟨by rfl,?_⟩) (aqKeepG HSX.out HA.out.ext) (fun _=>(And.intro (HA.out.log.cell 0) (HA.out.log.cell 1))) ?_
      rotate_left 1
      · (rintro w' ⟨f0,f1,f2,f3,f4,_⟩;go_simp;with_reducible rfl)
      refine takeF 18 (v:=?_) rfl (by kernel_rfl) (by kernel_rfl) (by kernel_rfl) (by kernel_rfl) (fun _ _ _ h=>h) (Or.inl ⟨by rfl,?_⟩) (aqKeepG HSX.out HA.out.ext) (fun _=>(And.intro (HA.out.log.cell 0) (HA.out.log.cell 1))) ?_
      rotate_left 1
      · (rintro w' ⟨f0,f1,f2,f3,f4,_⟩;go_simp;with_reducible rfl)
      have p0:=HA.out.log.cell 0
      have pf0:=HA.out.log.frozen 0
      have pl:=HA.out.log.lt
      refine allL [19] (by kernel_rfl) (by simp) ?_
      simp only [List.forall_mem_cons,List.not_mem_nil,false_implies,implies_true,and_true]
      refine stepL rfl (by rfl) (fun K hK=>?_)
      go_simp
      obtain ⟨U19,hU⟩:∃ Z,Z=World.setCell W16 ⟨gl,0,none⟩ (.slice A9 (n+1) c9):=⟨_,rfl⟩
      rw [← hU]
      have HE19:=Lib.hid (show ExtS (ApX gl (.slice A n cr) (.slice (some ⟨gh,0,none⟩) (n+1) ch)) X U19 by rw [hU];exact HA.out.ext.setG)
      have HL19:=Lib.hid (show Blk U19 gl 115 #[.slice A9 (n+1) c9,.slice (some ⟨gh,0,none⟩) (n+1) ch] by rw [hU];exact HA.out.log.set_ 0 _)
      have HR19:=Lib.hid (show World.ownsRow U19 B 43 2 _ _ _ by rw [hU];exact own_setT HA.out.recs HA.out.log (by decide) _ _)
      have HH19:=Lib.hid (show World.ownsRow U19 C 30 3 _ _ _ by rw [hU];exact own_setT HA.out.heads HA.out.log (by decide) _ _)
      have HC19:=Lib.hid (show ∀ x ∈ R,ChgB U19 x.2.1 x.1 from fun x hx=>by rw [hU];exact (HA.out.chg x hx).setT HA.out.log (by decide) _ _)
      have HGO:=Lib.hid (show ChgB U19 go l by rw [hU];exact HGO.out.setT HA.out.log (by decide) _ _)
      clear hU p0 pf0 pl HA
      refine hK _ _ ⟨⟨aqKeepG HSX.out HE19.out,fun h=>absurd h (by decide)⟩,?_⟩
      clear hK K
      refine takeF 20 (v:=?_) rfl (by kernel_rfl) (by kernel_rfl) (by kernel_rfl) (by kernel_rfl) (fun _ _ _ h=>h) (Or.inl ⟨by rfl,?_⟩) (aqKeepG HSX.out HE19.out) (fun h=>absurd h (by decide)) ?_
      rotate_left 1
      · (rintro w' ⟨f0,f1,f2,f3,f4,_⟩;go_simp;with_reducible rfl)
      refine takeF 21 (v:=?_) rfl (by kernel_rfl) (by kernel_rfl) (by kernel_rfl) (by kernel_rfl) (fun _ _ _ h=>h) (Or.inl ⟨by rfl,?_⟩) (aqKeepG HSX.out HE19.out) (fun h=>absurd h (by decide)) ?_
      rotate_left 1
      · (rintro w' ⟨f0,f1,f2,f3,f4,_⟩;go_simp;with_reducible rfl)
      have p0:=HL19.out.cell 1
      have pf0:=HL19.out.frozen 1
      have pl:=HL19.out.lt
      refine allL [22] (by kernel_rfl) (by simp) ?_
      simp only [List.forall_mem_cons,List.not_mem_nil,false_implies,implies_true,and_true]
      refine stepL rfl (by rfl) (fun K hK=>?_)
      go_simp
      obtain ⟨U22,hU⟩:∃ Z,Z=World.setCell U19 ⟨gl,1,none⟩ (.slice A16 (n+1+1) c16):=⟨_,rfl⟩
      rw [← hU]
      have HE22:=Lib.hid (show ExtS (ApX gl (.slice A n cr) (.slice (some ⟨gh,0,none⟩) (n+1) ch)) X U22 by rw [hU];exact HE19.out.setG)
      have HL22:=Lib.hid (show Blk U22 gl 115 #[.slice A9 (n+1) c9,.slice A16 (n+1+1) c16] by rw [hU];exact HL19.out.set_ 1 _)
      have HR22:=Lib.hid (show World.ownsRow U22 B 43 2 _ _ _ by rw [hU];exact own_setT HR19.out HL19.out (by decide) _ _)
      have HH22:=Lib.hid (show World.ownsRow U22 C 30 3 _ _ _ by rw [hU];exact own_setT HH19.out HL19.out (by decide) _ _)
      have HC22:=Lib.hid (show ∀ x ∈ R,ChgB U22 x.2.1 x.1 from fun x hx=>by rw [hU];exact (HC19.out x hx).setT HL19.out (by decide) _ _)
      have HGO:=Lib.hid (show ChgB U22 go l by rw [hU];exact HGO.out.setT HL19.out (by decide) _ _)
      clear hU p0 pf0 pl
      refine hK _ _ ⟨⟨aqKeepG HSX.out HE22.out,fun h=>absurd h (by decide)⟩,?_⟩
      clear hK K
      refine doneL (by kernel_rfl) ?_ _
      go_wp2
      go_ret
      refine ⟨rfl,_,_,go,d,logG_app HNN.out HHL.out HGx.out HD.out HT.out HCZ.out HL22.out HR22.out HH22.out HC22.out HGO.out,?_⟩
      exact (ExtS.of_ext (ext_call HE0.out HEx.out)).trans HE22.out
theorem logAppendX (B gl:Nat) (rv hv:Value) (R:List (List ChgT × Nat × Nat)) (H:List (ByteArray × ByteArray)) (l:List ChgT) (v:Value) (t:ByteArray) (ht:t.size=32) (hn:R.length≤60) (w:World) (hBw:B≤w.heap.size) (hL:LogG B w gl rv hv R H) (last:ByteArray × ByteArray) (hlast:H[R.length]? = some last)
    (hvl:ChgsAt w v l) (hl:ChgsOK l) (hF:validF l=true) (hR:RoundOK w) :
    Calls Tryz.prog 19 #[.pointer (some ⟨gl,0,none⟩),.agg #[.int .i64 ((R.length:Int)+1),v],.string t] w
      fun e w'=>e=.returned (.int .i64 0)∧∃ rv2 hv2 g d,LogG B w' gl rv2 hv2 (R++[(l,g,d)]) (H++[(chainF last.1 (encG (encRec ((R.length:Int)+1) l)),t)])∧ExtS (ApX gl rv hv) w w':=
  logAppendY B B gl rv hv R H l v t ht hn w hBw hBw hL last hlast hvl hl hF hR
end Go.Proofs.YtnajpjnnlocfgaaGreatDoor
