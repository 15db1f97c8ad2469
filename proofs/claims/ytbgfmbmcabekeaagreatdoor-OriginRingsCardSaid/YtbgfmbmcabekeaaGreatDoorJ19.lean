/-
  package cachetierlaw27: OriginRings returns true.
-/
import Derived.Test.YtbgfmbmcabekeaaGreatDoorJ18
import Derived.Deep.Cut
import Derived.Deep.CutRange
set_option linter.unusedSimpArgs false
set_option linter.unusedVariables false

namespace Go.Proofs.YtbgfmbmcabekeaaGreatDoor
open Go.RowKit Go.Shelf
attribute [local go_sem ↓] ld_exec ld_sem bd_exec bd_sem Go.wp_at_zero Go.wp_at_succ

/-- a ring is stored as a whole -/
theorem store_ring {ops : Array Oper} {rest : List Oper} {o : Oper} {a : Act} {w : World} {Q : Exit → Act → World → Prop} (hgd : o.guard = none) (x y : Operand) (ho : o.op = .store 30 x y)
    (g : Nat) (ep : Int) (A B : Option Addr) (n c m d : Nat) (hx : a.eval x = .pointer (some ⟨g, 0, none⟩)) (hy : a.eval y = .agg #[.int .i64 ep, .slice A n c, .slice B m d])
    (old : Array Value) (hg : Blk w g 30 old) (hs : old.size = 3)
    (h : ∀ W', Blk W' g 30 #[.int .i64 ep, .slice A n c, .slice B m d] → w.grownBy W' (some g) → wpList Tryz.prog ops Q rest (a.put o.dst undef) W') : wpList Tryz.prog ops Q (o :: rest) a w :=
  wpList_store_blk hgd 30 x y ho g #[.int .i64 ep, .slice A n c, .slice B m d] hx hy 30 old hg (show (Tryz.prog.info? 30).map (·.size) = some 3 by kernel_rfl) hs (by simp [Value.oneCell']) h
/-- a head is stored as a whole -/
theorem store_head {ops : Array Oper} {rest : List Oper} {o : Oper} {a : Act} {w : World} {Q : Exit → Act → World → Prop} (hgd : o.guard = none) (x y : Operand) (ho : o.op = .store 86 x y)
    (g : Nat) (cs : Array Value) (h3 : cs.size = 3) (h1 : cs.all (·.oneCell') = true) (hx : a.eval x = .pointer (some ⟨g, 0, none⟩)) (hy : a.eval y = .agg cs)
    (old : Array Value) (hg : Blk w g 86 old) (hs : old.size = 3)
    (h : ∀ W', Blk W' g 86 cs → w.grownBy W' (some g) → wpList Tryz.prog ops Q rest (a.put o.dst undef) W') : wpList Tryz.prog ops Q (o :: rest) a w :=
  wpList_store_blk hgd 86 x y ho g cs hx hy 86 old hg (by rw [h3]; kernel_rfl) (by rw [hs, h3]) h1 h
theorem ext_put3 {w W W' : World} {g : Nat} {o : Obj} (hW : W = w) (hb : (w.alloc o).grownBy W' (some g)) (hg : g = w.heap.size) : Below w.heap.size w W' :=
  (ext_new w o).grown hb (ext_new w o).size (fun k e => by have e2 : g = k := Option.some.inj e; omega)
/-- lists of a ring keep where the server's blocks change -/
theorem MemsAt.srv {W W' : World} {gs gl gst gn gp np cp nm cm no co : Nat} {lag ep sent : Int} {Am Ao : Option Addr} {kv : List (Int × Value)} {v : Value} {ns : List Nat} (h : MemsAt W v ns) (hs : SrvAt W gs gl gst gn gp np cp lag ep sent Am nm cm Ao no co) (hm : MapI W gn kv) (k : ExtS (fun j => j = gs ∨ j = gn) W W') : MemsAt W' v ns :=
  h.extS k (fun b off x y z h0 h1 h2 => by rintro (e | e); exact SrvAt.ne3 hs h0 h1 h2 e; exact MapI.ne hm h0 e)
theorem NumsAt.srv {W W' : World} {gs gl gst gn gp np cp nm cm no co : Nat} {lag ep sent : Int} {Am Ao : Option Addr} {kv : List (Int × Value)} {v : Value} {os : List Nat} (h : NumsAt W v os) (hl : os.length = 64) (hs : SrvAt W gs gl gst gn gp np cp lag ep sent Am nm cm Ao no co) (hm : MapI W gn kv) (k : ExtS (fun j => j = gs ∨ j = gn) W W') : NumsAt W' v os :=
  h.extS (by omega) k (fun b off x y z h0 h1 h2 => by rintro (e | e); exact SrvAt.ne3 hs h0 h1 h2 e; exact MapI.ne hm h0 e)
theorem Blk.srv {W W' : World} {gs gl gst gn gp np cp nm cm no co b : Nat} {t : TypeId} {cs : Array Value} {lag ep sent : Int} {Am Ao : Option Addr} {kv : List (Int × Value)} (h : Blk W b t cs) (ht : t ≠ 101) (hs : SrvAt W gs gl gst gn gp np cp lag ep sent Am nm cm Ao no co) (hm : MapI W gn kv) (k : ExtS (fun j => j = gs ∨ j = gn) W W') : Blk W' b t cs :=
  ExtS.blk h k (by rintro (e | e); exact blkNe h hs ht e; exact MapI.neBlk hm h e)

set_option maxRecDepth 100000 in
set_option maxHeartbeats 8000000 in
theorem rings27 (one two node epoch lag : Int) (o0 : -9223372036854775808 ≤ one) (o1 : one ≤ 9223372036854775807) (t0 : -9223372036854775808 ≤ two) (t1 : two ≤ 9223372036854775807) (n0 : -9223372036854775808 ≤ node) (n1 : node ≤ 9223372036854775807) (e0 : -9223372036854775808 ≤ epoch) (e1 : epoch ≤ 9223372036854775807) (w : World) (hR : RoundOK w) :
    Calls Tryz.prog 6 #[.int .i64 one, .int .i64 two, .int .i64 node, .int .i64 epoch, .int .i64 lag] w fun e w' => e = .returned (.bool true) ∧ Below w.heap.size w w' := by
  have HR := Lib.hid hR
  have HO := Lib.hid (fun W => ringOf_any one o0 o1 W)
  have HT := Lib.hid (fun W => ringOf_any two t0 t1 W)
  obtain ⟨n, hn⟩ : ∃ n, n = pickF node 24 := ⟨_, rfl⟩
  obtain ⟨ep, hep⟩ : ∃ p, p = pickF epoch 12 := ⟨_, rfl⟩
  have bn := Lib.hid (pickF_lt node 24 (by omega))
  have be := Lib.hid (pickF_lt epoch 12 (by omega))
  have HPN := Lib.hid (fun W => pick_any node 24 (by omega) (by omega) n0 n1 W)
  have HPE := Lib.hid (fun W => pick_any epoch 12 (by omega) (by omega) e0 e1 W)
  rw [← hn] at bn HPN
  rw [← hep] at be HPE
  clear hn hep hR o0 o1 t0 t1 n0 n1 e0 e1
  go_enter Tryz.func6, Tryz.ntmps6
  go_wp2_with fail
  refine (sane27 w HR.out).mono ?_
  rintro e W1 ⟨rfl, hb1⟩
  have HE1 := Lib.hid hb1
  clear hb1
  go_wp2_with fail
  refine (originNew2 W1 (HR.out.below HE1.out)).mono ?_
  rintro e W2 ⟨gs, gl, gst, gm, gp, gn, rfl, h0, -, hb2⟩
  have HS2 := Lib.hid (show SrvAt W2 gs gl gst gn gp 1 1 0 0 0 none 0 0 none 0 0 from h0.cells)
  have HM2 := Lib.hid h0.nodes
  have HN := Lib.hid (show w.heap.size ≤ gs ∧ w.heap.size ≤ gn from ⟨Nat.le_trans HE1.out.size h0.new.1, Nat.le_trans HE1.out.size h0.new.2.2.2.2.2⟩)
  have HE2 := Lib.hid (ext_call HE1.out hb2)
  clear h0 hb2 HE1
  go_wp2_with fail
  refine (HO.out W2).mono ?_
  rintro e W3 ⟨nsa, ea, ra, rfl, hna, ha1, ha9, ⟨vma, voa, osa, rfl, hma, hoa, hla, hosa, hlima⟩, hb3⟩
  have HE3 := Lib.hid (ext_call HE2.out hb3)
  have HS3 := Lib.hid (HS2.out.ext hb3)
  have HM3 := Lib.hid (HM2.out.ext hb3)
  have HA3 := Lib.hid (And.intro hma hoa)
  have HLA := Lib.hid (And.intro hla (And.intro hosa hlima))
  have HNA := Lib.hid hna
  have HEA := Lib.hid (And.intro ha1 ha9)
  obtain ⟨Ama, cma, rfl, -⟩ := hma
  obtain ⟨Aoa, coa, rfl, -⟩ := hoa
  have HZ := Lib.hid (Blk.new W3 30 #[.int .i64 0, .slice none 0 0, .slice none 0 0])
  clear hb3 hna ha1 ha9 hla hosa hlima HS2 HM2 HE2 HO
  go_wp2_with (refine store_ring rfl (.tmp 13) (.tmp 34) rfl W3.heap.size ea Ama Aoa nsa.length cma osa.length coa rfl rfl #[.int .i64 0, .slice none 0 0, .slice none 0 0] HZ.out rfl ?_; intro W4 hB9 hg9; have HT4 := Lib.hid hB9; have HB4 := Lib.hid (ext_put3 rfl hg9 rfl); clear hB9 hg9 HZ)
  have HE4 := Lib.hid (ext_call HE3.out HB4.out)
  have HS4 := Lib.hid (HS3.out.ext HB4.out)
  have HM4 := Lib.hid (HM3.out.ext HB4.out)
  have HA4 := Lib.hid (And.intro (HA3.out.1.ext HB4.out) (HA3.out.2.ext HB4.out))
  generalize W3.heap.size = b13 at HT4 ⊢
  clear HB4 HS3 HM3 HA3 HE3
  refine (HT.out W4).mono ?_
  rintro e W5 ⟨nsb, eb, rb, rfl, hnb, hb1, hb9, ⟨vmb, vob, osb, rfl, hmb, hob, hlb, hosb, hlimb⟩, hb5⟩
  have HE5 := Lib.hid (ext_call HE4.out hb5)
  have HS5 := Lib.hid (HS4.out.ext hb5)
  have HM5 := Lib.hid (HM4.out.ext hb5)
  have HA5 := Lib.hid (And.intro (HA4.out.1.ext hb5) (HA4.out.2.ext hb5))
  have HT5 := Lib.hid (HT4.out.ext hb5)
  have HB5 := Lib.hid (And.intro hmb hob)
  have HLB := Lib.hid (And.intro hlb (And.intro hosb hlimb))
  have HNB := Lib.hid hnb
  have HEB := Lib.hid (And.intro hb1 hb9)
  obtain ⟨Amb, cmb, rfl, -⟩ := hmb
  obtain ⟨Aob, cob, rfl, -⟩ := hob
  have HZ := Lib.hid (Blk.new W5 30 #[.int .i64 0, .slice none 0 0, .slice none 0 0])
  have x13 := bcells3 HT5.out
  obtain ⟨x0, x1, x2⟩ := bcells3 HT5.out
  clear hb5 hnb hb1 hb9 hlb hosb hlimb HS4 HM4 HE4 HA4 HT4 HT x13 x0 x1 x2
  go_upto_region 5 with (refine store_ring rfl (.tmp 14) (.tmp 36) rfl W5.heap.size eb Amb Aob nsb.length cmb osb.length cob rfl rfl #[.int .i64 0, .slice none 0 0, .slice none 0 0] HZ.out rfl ?_; intro W6 hB9 hg9; have HU6 := Lib.hid hB9; have HB6 := Lib.hid (ext_put3 rfl hg9 rfl); clear hB9 hg9 HZ)
  have HE6 := Lib.hid (ext_call HE5.out HB6.out)
  have HS6 := Lib.hid (HS5.out.ext HB6.out)
  have HM6 := Lib.hid (HM5.out.ext HB6.out)
  have HA6 := Lib.hid (And.intro (HA5.out.1.ext HB6.out) (HA5.out.2.ext HB6.out))
  have HT6 := Lib.hid (HT5.out.ext HB6.out)
  have HC6 := Lib.hid (And.intro (HB5.out.1.ext HB6.out) (HB5.out.2.ext HB6.out))
  generalize W5.heap.size = b14 at HU6 ⊢
  have HRg := Lib.hid (setRingYes gs gl gst gn gp 1 1 0 0 0 none 0 0 none 0 0 [] nsa osa ea _ _ W6 HS6.out HM6.out HA6.out.1 HNA.out HA6.out.2 HLA.out.1 HLA.out.2.1 HLA.out.2.2 HEA.out.1 (by have := HEA.out.2; omega) (by have := HEA.out.1; omega))
  obtain ⟨x0, x1, x2⟩ := bcells3 HT6.out
  clear HB6 HS5 HM5 HA5 HT5 HB5 HE5
  go_wp2_with fail
  refine HRg.out.mono ?_
  rintro e W7 ⟨rfl, ⟨Am, nm, cm, Ao, no, co, hs7, hm7, ho7⟩, hmp7, hx7⟩
  have HS7 := Lib.hid hs7
  have HM7 := Lib.hid hmp7
  have HA7 := Lib.hid (And.intro (HA6.out.1.srv HS6.out HM6.out hx7) (HA6.out.2.srv HLA.out.1 HS6.out HM6.out hx7))
  have HC7 := Lib.hid (And.intro (HC6.out.1.srv HS6.out HM6.out hx7) (HC6.out.2.srv HLB.out.1 HS6.out HM6.out hx7))
  have HT7 := Lib.hid (Blk.srv HT6.out (by decide) HS6.out HM6.out hx7)
  have HU7 := Lib.hid (Blk.srv HU6.out (by decide) HS6.out HM6.out hx7)
  have HE7 := Lib.hid (ExtS.below HE6.out (by rintro k (h | h) <;> rw [h]; exact HN.out.1; exact HN.out.2) hx7)
  have HD7 := Lib.hid (And.intro hm7 ho7)
  clear hs7 hm7 ho7 hmp7 hx7 HS6 HM6 HA6 HC6 HT6 HU6 HE6 HRg x0 x1 x2
  obtain ⟨y0, y1, y2⟩ := bcells3 HU7.out
  by_cases hgt : ea < eb
  · have h2gt : ¬ eb ≤ ea := by omega
    have HRg := Lib.hid (setRingYes gs gl gst gn gp 1 1 0 0 ea Am nm cm Ao no co _ nsb osb eb _ _ W7 HS7.out HM7.out HC7.out.1 HNB.out HC7.out.2 HLB.out.1 HLB.out.2.1 HLB.out.2.2 HEB.out.1 (by have := HEB.out.2; omega) hgt)
    clear HD7
    go_wp2_with fail
    refine HRg.out.mono ?_
    rintro e W8 ⟨rfl, ⟨Am, nm, cm, Ao, no, co, hs8, hm8, ho8⟩, hmp8, hx8⟩
    have HS8 := Lib.hid hs8
    have HMW := Lib.hid (HC7.out.1.srv HS7.out HM7.out hx8)
    have HOW := Lib.hid (HC7.out.2.srv HLB.out.1 HS7.out HM7.out hx8)
    have HT8 := Lib.hid (Blk.srv HT7.out (by decide) HS7.out HM7.out hx8)
    have HU8 := Lib.hid (Blk.srv HU7.out (by decide) HS7.out HM7.out hx8)
    have HE8 := Lib.hid (ExtS.below HE7.out (by rintro k (h | h) <;> rw [h]; exact HN.out.1; exact HN.out.2) hx8)
    have HDM := Lib.hid hm8
    have HDO := Lib.hid ho8
    clear hs8 hm8 ho8 hmp8 hx8 HS7 HM7 HA7 HC7 HT7 HU7 HE7 HRg y0 y1 y2
    obtain ⟨x0, x1, x2⟩ := bcells3 HT8.out
    have HZ := Lib.hid (Blk.new W8 30 #[.int .i64 0, .slice none 0 0, .slice none 0 0])
    go_upto_region 8 with (refine store_ring rfl (.tmp 17) (.tmp 43) rfl W8.heap.size ea Ama Aoa nsa.length cma osa.length coa rfl rfl #[.int .i64 0, .slice none 0 0, .slice none 0 0] HZ.out rfl ?_; intro W9 hB9 hg9; have HW9 := Lib.hid hB9; have HB9 := Lib.hid (ext_put3 rfl hg9 rfl); clear hB9 hg9 HZ)
    clear x0 x1 x2
    obtain ⟨x0, x1, x2⟩ := bcells3 (HT8.out.ext HB9.out)
    obtain ⟨y0, y1, y2⟩ := bcells3 (HU8.out.ext HB9.out)
    go_upto_region 10 with (refine store_ring rfl (.tmp 17) (.tmp 49) rfl W8.heap.size eb Amb Aob nsb.length cmb osb.length cob rfl rfl #[.int .i64 ea, .slice Ama nsa.length cma, .slice Aoa osa.length coa] HW9.out rfl ?_; intro W10 hB9 hg9; have HW10 := Lib.hid hB9)
    have HT10 := Lib.hid ((HT8.out.ext HB9.out).grown hg9 (by intro h; have h2 := Option.some.inj h; have h3 := HT8.out.lt; omega))
    have HU10 := Lib.hid ((HU8.out.ext HB9.out).grown hg9 (by intro h; have h2 := Option.some.inj h; have h3 := HU8.out.lt; omega))
    have HEX := Lib.hid (show Below W8.heap.size W8 W10 from HB9.out.grown hg9 HB9.out.size (fun k e => by have e2 : W8.heap.size = k := Option.some.inj e; omega))
    clear hB9 hg9 x0 x1 x2 y0 y1 y2

    generalize W8.heap.size = bw at HW10 ⊢
    have HSX := Lib.hid (HS8.out.ext HEX.out)
    have HDM2 := Lib.hid (HDM.out.ext HEX.out)
    have HDO2 := Lib.hid (HDO.out.ext HEX.out)
    have HMW2 := Lib.hid (HMW.out.ext HEX.out)
    have HOW2 := Lib.hid (HOW.out.ext HEX.out)
    have HE10 := Lib.hid (ext_call HE8.out HEX.out)
    have HQ := srvRingO gs gl gst gn gp 1 1 nm cm no co 0 eb 0 Am Ao nsb osb W10 HSX.out HDM2.out HNB.out HDO2.out HLB.out.1
    obtain ⟨nn, hnn⟩ : ∃ m, nsb.length = m := ⟨_, rfl⟩
    have hn1 : 0 < nn := by rw [← hnn]; exact HNB.out.some_
    have HNN := Lib.hid hnn
    rw [hnn, HLB.out.1] at HQ
    have HRg := Lib.hid HQ
    clear HQ hnn HS8 HDM HDO HMW HOW HE8 HT8 HU8 HB9
    obtain ⟨x0, x1, x2⟩ := bcells3 HT10.out
    obtain ⟨y0, y1, y2⟩ := bcells3 HU10.out
    go_wp2_with fail
    clear HU10
    clear x0 x1 x2 y0 y1 y2
    refine HRg.out.mono ?_
    rintro e W11 ⟨A, c, B, d, rfl, ha, hb, hx⟩
    obtain ⟨ga, ka, cura, hAeq, hga, hba⟩ := own_blk ha hn1
    injection hAeq with hA1 hA3 hA2
    subst hA1 hA2; clear hA3
    obtain ⟨gb, kb, curb, hBeq, hgb, hbb⟩ := own_blk hb (by omega)
    injection hBeq with hB1 hB3 hB2
    subst hB1 hB2; clear hB3
    obtain ⟨u0, hu0⟩ : ∃ u, (nc osb)[0]? = some u := ⟨_, List.getElem?_eq_getElem (by have := HLB.out.1; simp; omega)⟩
    obtain ⟨u2, hu2⟩ : ∃ u, (mc nsb)[2]? = some u := ⟨_, List.getElem?_eq_getElem (by have := HNN.out; rw [mc_length]; omega)⟩
    have HCB := Lib.hid (own_at hb 0 u0 hu0)
    have HCA := Lib.hid (own_at ha 2 u2 hu2)
    have HGA := Lib.hid (And.intro hga hba)
    have HGB := Lib.hid (And.intro hgb hbb)
    have HX11 := Lib.hid hx
    have HZ := Lib.hid (Blk.new W11 30 #[.int .i64 0, .slice none 0 0, .slice none 0 0])
    have d0 : decide ((nn : Int) = 0) = false := by simp; omega
    have d1 : ((nn : Int) == 0) = false := by simp; omega
    clear hga hgb ha hb hx hba hbb hu0 hu2 HRg HNN
    go_upto_region 13 with (refine store_ring rfl (.tmp 18) (.tmp 71) rfl W11.heap.size eb (some ⟨ga, 0, none⟩) (some ⟨gb, 0, none⟩) nn c 64 d rfl rfl #[.int .i64 0, .slice none 0 0, .slice none 0 0] HZ.out rfl ?_; intro W12 hB9 hg9; have HW12 := Lib.hid hB9; have HB12 := Lib.hid (ext_put3 rfl hg9 rfl); clear hB9 hg9 HZ)
    have HX12 := Lib.hid (ext_call HX11.out HB12.out)
    have HGB12 := Lib.hid (HGB.out.2.ext HB12.out)
    have HGA12 := Lib.hid (HGA.out.2.ext HB12.out)
    have cb := cell_ext HCB.out HB12.out
    have fb := HGB12.out.frozen 0
    have HCA12 := Lib.hid (cell_ext HCA.out HB12.out)
    generalize W11.heap.size = b18 at HW12 ⊢
    obtain ⟨x0, x1, x2⟩ := bcells3 HW12.out
    clear HB12 HCB HCA HX11
    go_upto_region 15 with (fail)
    go_upto_region 16 with (fail)
    clear x0 x1 x2 cb fb d0 d1
    have hn1 : gb ≠ b18 := fun h => blkNe HGB12.out HW12.out (by decide) h
    have hn2 : gb ≠ ga := fun h => blkNe HGB12.out HGA12.out (by decide) h
    obtain ⟨W13, hW13⟩ : ∃ W, W = W12.setCell ⟨gb, 0, none⟩ (.int .i64 99) := ⟨_, rfl⟩
    have HX13 := Lib.hid (show Below W10.heap.size W10 W13 by rw [hW13]; exact ext_set HX12.out HGB.out.1 _)
    have HW13 := Lib.hid (show Blk W13 b18 30 _ by rw [hW13]; exact Blk.far HW12.out (fun h => hn1 h.symm) _)
    have HGA13 := Lib.hid (show Blk W13 ga _ _ by rw [hW13]; exact Blk.far HGA12.out (fun h => hn2 h.symm) _)
    have ca : W13.cell? ⟨ga, 2, none⟩ = some u2 := by rw [HGA13.out.cell, ← HGA12.out.cell]; exact HCA12.out
    have fa := HGA13.out.frozen 2
    rw [← hW13]
    clear hW13 hn1 hn2
    obtain ⟨x0, x1, x2⟩ := bcells3 HW13.out
    go_upto_region 17 with (fail)
    clear x0 x1 x2 ca fa
    obtain ⟨W14, hW14⟩ : ∃ W, W = W13.setCell ⟨ga, 2, none⟩ (.int .i64 9) := ⟨_, rfl⟩
    have HX14 := Lib.hid (show Below W10.heap.size W10 W14 by rw [hW14]; exact ext_set HX13.out HGA.out.1 _)
    rw [← hW14]
    clear hW14 HX13 HX12 HW12 HW13 HGA13 HGA12 HGB12 HCA12 HGA HGB
    have HS14 := Lib.hid (HSX.out.ext HX14.out)
    have HDM14 := Lib.hid (HDM2.out.ext HX14.out)
    have HDO14 := Lib.hid (HDO2.out.ext HX14.out)
    have HMW14 := Lib.hid (HMW2.out.ext HX14.out)
    have HOW14 := Lib.hid (HOW2.out.ext HX14.out)
    have HT14 := Lib.hid (HT10.out.ext HX14.out)
    have HW14 := Lib.hid (HW10.out.ext HX14.out)
    have HE14 := Lib.hid (ext_call HE10.out HX14.out)
    clear HX14 HSX HDM2 HDO2 HMW2 HOW2 HT10 HW10 HE10 HEX
    go_upto_region 18 with (go_at_call 19; refine (HPE.out _).mono ?_; rintro e w' ⟨rfl, hw'⟩; subst w')
    go_cut [19] from 91 to 96 (fun l W => Below W14.heap.size W14 W ∧ ((Hid (ep < eb) ∧ ∃ g A1 n1 k1 A2 n2 k2, l = .slice (some ⟨g, 0, none⟩) 1 1 ∧ Blk W g 57 #[.int .i64 10, .int .i64 100, .int .i64 n, .int .i64 0, .int .i64 0, .int .i64 0, .int .i64 0, .int .i64 0, .int .i64 0, .int .i64 0, .int .i64 0, .int .i64 0, .int .i64 0, .int .i64 0, .int .i64 0, .int .i64 0, .int .i64 0, .int .i64 0, .slice none 0 0, .int .i64 0, .int .i64 0, .int .i64 0, .int .i64 0, .int .i64 0, .int .i64 0, .int .i64 0, .int .i64 0, .int .i64 0, .slice none 0 0, .int .i64 0, .int .i64 0, .int .i64 0, .int .i64 0, .int .i64 0, .int .i64 0, .int .i64 0, .slice none 0 0, .int .i64 0, .bool false, .int .i64 0, .int .i64 0, .int .i64 0, .slice none 0 0, .slice none 0 0, .int .i64 eb, .slice A1 n1 k1, .slice A2 n2 k2] ∧ MemsAt W (.slice A1 n1 k1) nsb ∧ NumsAt W (.slice A2 n2 k2) osb) ∨ (Hid (¬ ep < eb) ∧ l = .slice none 0 0)))
    case first =>
      obtain ⟨va, hva⟩ : ∃ va : Array Value, va = #[.int .i64 9, .int .i64 n, .int .i64 100, .int .i64 0, .int .i64 ep, .int .i64 0, .int .i64 0, .int .i64 0, .int .i64 0, .int .i64 0, .int .i64 0, .int .i64 0, .int .i64 0, .int .i64 0, .int .i64 0, .int .i64 0, .int .i64 0, .int .i64 0, .slice none 0 0, .int .i64 0, .int .i64 0, .int .i64 0, .int .i64 0, .int .i64 0, .int .i64 0, .int .i64 0, .int .i64 0, .int .i64 0, .slice none 0 0, .int .i64 0, .int .i64 0, .int .i64 0, .int .i64 0, .int .i64 0, .int .i64 0, .int .i64 0, .slice none 0 0, .int .i64 0, .bool false, .int .i64 0, .int .i64 0, .int .i64 0, .slice none 0 0, .slice none 0 0, .int .i64 0, .slice none 0 0, .slice none 0 0] := ⟨_, rfl⟩
      obtain ⟨bd1, bd2⟩ := bd_of W14 (P := Tryz.prog) (t := 57) (ps := #[(0, .int .i64 9), (1, .int .i64 n), (2, .int .i64 100), (4, .int .i64 ep)]) (cs := va) (by rw [hva]; kernel_rfl)
      by_cases hlt : ep < eb
      · have HRc := Lib.hid (show Calls Tryz.prog 20 #[.pointer (some ⟨gs, 0, none⟩), .agg va] W14 fun e w' => ∃ g A1 n1 k1 A2 n2 k2, e = .returned (.slice (some ⟨g, 0, none⟩) 1 1) ∧ Blk w' g 57 #[.int .i64 10, .int .i64 100, .int .i64 n, .int .i64 0, .int .i64 0, .int .i64 0, .int .i64 0, .int .i64 0, .int .i64 0, .int .i64 0, .int .i64 0, .int .i64 0, .int .i64 0, .int .i64 0, .int .i64 0, .int .i64 0, .int .i64 0, .int .i64 0, .slice none 0 0, .int .i64 0, .int .i64 0, .int .i64 0, .int .i64 0, .int .i64 0, .int .i64 0, .int .i64 0, .int .i64 0, .int .i64 0, .slice none 0 0, .int .i64 0, .int .i64 0, .int .i64 0, .int .i64 0, .int .i64 0, .int .i64 0, .int .i64 0, .slice none 0 0, .int .i64 0, .bool false, .int .i64 0, .int .i64 0, .int .i64 0, .slice none 0 0, .slice none 0 0, .int .i64 eb, .slice A1 n1 k1, .slice A2 n2 k2] ∧ MemsAt w' (.slice A1 n1 k1) nsb ∧ NumsAt w' (.slice A2 n2 k2) osb ∧ Below W14.heap.size W14 w' by
          rw [hva]
          exact recvWantYes n ep bn.out.1 (by have := bn.out.2; omega) be.out.1 (by have := be.out.2; omega) gs gl gst gn gp 1 1 nm cm no co 0 eb 0 Am Ao nsb osb W14 HS14.out HDM14.out HNB.out HDO14.out HLB.out.1 (by omega))
        have HLT := Lib.hid hlt
        clear hva hlt
        go_wp2_with (go_at_call 19; refine (HPN.out _).mono ?_; rintro e w' ⟨rfl, hw'⟩; subst w')
        refine HRc.out.mono ?_
        rintro e W15 ⟨g, A1, n1, k1, A2, n2, k2, rfl, hb, hm9, ho9, hx⟩
        have HBB := Lib.hid hb
        have HXX := Lib.hid hx
        have HMM := Lib.hid hm9
        have HOO := Lib.hid ho9
        clear hb hx hm9 ho9 bd1 bd2
        go_wp2_with fail
        go_meet
        case rel => exact ⟨HXX.out, .inl ⟨HLT, g, A1, n1, k1, A2, n2, k2, rfl, HBB.out, HMM.out, HOO.out⟩⟩
      · have HRc := Lib.hid (show Calls Tryz.prog 20 #[.pointer (some ⟨gs, 0, none⟩), .agg va] W14 fun e w' => e = .returned (.slice none 0 0) ∧ Below W14.heap.size W14 w' by
          rw [hva]
          exact recvWantNo n ep bn.out.1 (by have := bn.out.2; omega) be.out.1 (by have := be.out.2; omega) gs eb W14 (Blk.cell HS14.out 4) (by omega))
        have HLT := Lib.hid hlt
        clear hva hlt
        go_wp2_with (go_at_call 19; refine (HPN.out _).mono ?_; rintro e w' ⟨rfl, hw'⟩; subst w')
        refine HRc.out.mono ?_
        rintro e W15 ⟨rfl, hx⟩
        have HXX := Lib.hid hx
        clear hx bd1 bd2
        go_wp2_with fail
        go_meet
        case rel => exact ⟨HXX.out, .inr ⟨HLT, rfl⟩⟩
    case rest =>
      obtain ⟨hx, hor⟩ := hcut
      generalize wc = W15 at *
      have HOR := Lib.hid hor
      have HS15 := Lib.hid (HS14.out.ext hx)
      have HDM15 := Lib.hid (HDM14.out.ext hx)
      have HDO15 := Lib.hid (HDO14.out.ext hx)
      have HMW15 := Lib.hid (HMW14.out.ext hx)
      have HOW15 := Lib.hid (HOW14.out.ext hx)
      have HT15 := Lib.hid (HT14.out.ext hx)
      have HW15 := Lib.hid (HW14.out.ext hx)
      have HE15 := Lib.hid (ext_call HE14.out hx)
      clear hx hor HS14 HDM14 HDO14 HMW14 HOW14 HT14 HW14 HE14 HPE
      go_upto_region 19 with (fail)
      go_cut [141] from 97 to 141 (fun t W => t = .bool false ∧ Below W15.heap.size W15 W)
      case first =>
        rcases HOR.out with ⟨hlt, g, A1, n1, k1, A2, n2, k2, rfl, hb, hm9, ho9⟩ | ⟨hlt, rfl⟩
        · have hlt := hlt.out
          have h2lt : ¬ eb ≤ ep := by omega
          have HSA := Lib.hid (fun (W : World) (k : Below W15.heap.size W15 W) => same12_yes nsb osb eb (.slice A1 n1 k1) (.slice A2 n2 k2) _ _ W (hm9.ext k) (HMW15.out.ext k) (ho9.ext k) (HOW15.out.ext k) (by rw [HLB.out.1]; omega) HNB.out.few)
          have HK := Lib.hid (fun (W : World) (k : Below W15.heap.size W15 W) => (⟨cell_ext (HW15.out.cell 0) k, cell_ext (HW15.out.cell 1) k, cell_ext (HW15.out.cell 2) k, cell_ext (hb.cell 0) k, cell_ext (hb.cell 2) k, cell_ext (hb.cell 44) k, cell_ext (hb.cell 45) k, cell_ext (hb.cell 46) k, k⟩ : W.cell? ⟨bw, 0, none⟩ = some (.int .i64 eb) ∧ W.cell? ⟨bw, 1, none⟩ = some (.slice Amb nsb.length cmb) ∧ W.cell? ⟨bw, 2, none⟩ = some (.slice Aob osb.length cob) ∧ W.cell? ⟨g, 0, none⟩ = some (.int .i64 10) ∧ W.cell? ⟨g, 2, none⟩ = some (.int .i64 n) ∧ W.cell? ⟨g, 44, none⟩ = some (.int .i64 eb) ∧ W.cell? ⟨g, 45, none⟩ = some (.slice A1 n1 k1) ∧ W.cell? ⟨g, 46, none⟩ = some (.slice A2 n2 k2) ∧ Below W15.heap.size W15 W))
          clear hb hm9 ho9
          refine wp_region_held_drew (S := fun w' => w'.cell? ⟨bw, 0, none⟩ = some (.int .i64 eb) ∧ w'.cell? ⟨bw, 1, none⟩ = some (.slice Amb nsb.length cmb) ∧ w'.cell? ⟨bw, 2, none⟩ = some (.slice Aob osb.length cob) ∧ w'.cell? ⟨g, 0, none⟩ = some (.int .i64 10) ∧ w'.cell? ⟨g, 2, none⟩ = some (.int .i64 n) ∧ w'.cell? ⟨g, 44, none⟩ = some (.int .i64 eb) ∧ w'.cell? ⟨g, 45, none⟩ = some (.slice A1 n1 k1) ∧ w'.cell? ⟨g, 46, none⟩ = some (.slice A2 n2 k2) ∧ Below W15.heap.size W15 w') (by kernel_rfl) (HK.out _ (ext_refl W15).drew) (fun hHeld => ?_)
          refine wpAnyH_listed (fuel' := 45) (listed' := #[false, false, false, false, false, false, false, false, false, false, false, false, false, false, false, false, false, false, false, false, false, false, false, false, false, false, false, false, false, false, false, false, false, false, false, false, false, false, false, false, false, false, false, false, false]) (by kernel_rfl) (by kernel_rfl) ?_
          refine wpAnyH_hns (by kernel_rfl) (fun HNS => ?_)
          refine wpAnyH_takeZ (i := 0) (v := ?_) HNS rfl (by kernel_rfl) (by kernel_rfl) (fun _ _ _ h => h) (Or.inl ⟨by rfl, ?_⟩) (by assumption) ?_
          rotate_left 1
          · (rintro w' ⟨f0, f1, f2, f3, f4, f5, f6, f7, _⟩; go_simp; try with_reducible rfl)
          try simp only [Act.put, List.getElem_toArray, List.getElem_cons_succ, List.getElem_cons_zero, List.setIfInBounds_toArray, List.set_cons_zero, List.set_cons_succ]
          refine wpAnyH_takeZ (i := 1) (v := ?_) HNS rfl (by kernel_rfl) (by kernel_rfl) (fun _ _ _ h => h) (Or.inl ⟨by rfl, ?_⟩) (by assumption) ?_
          rotate_left 1
          · (rintro w' ⟨f0, f1, f2, f3, f4, f5, f6, f7, _⟩; go_simp; try with_reducible rfl)
          try simp only [Act.put, List.getElem_toArray, List.getElem_cons_succ, List.getElem_cons_zero, List.setIfInBounds_toArray, List.set_cons_zero, List.set_cons_succ]
          refine wpAnyH_takeZ (i := 2) (v := ?_) HNS rfl (by kernel_rfl) (by kernel_rfl) (fun _ _ _ h => h) (Or.inl ⟨by rfl, ?_⟩) (by assumption) ?_
          rotate_left 1
          · (rintro w' ⟨f0, f1, f2, f3, f4, f5, f6, f7, _⟩; go_simp; try with_reducible rfl)
          try simp only [Act.put, List.getElem_toArray, List.getElem_cons_succ, List.getElem_cons_zero, List.setIfInBounds_toArray, List.set_cons_zero, List.set_cons_succ]
          refine wpAnyH_takeZ (i := 3) (v := ?_) HNS rfl (by kernel_rfl) (by kernel_rfl) (fun _ _ _ h => h) (Or.inl ⟨by rfl, ?_⟩) (by assumption) ?_
          rotate_left 1
          · (rintro w' ⟨f0, f1, f2, f3, f4, f5, f6, f7, _⟩; go_simp; try with_reducible rfl)
          try simp only [Act.put, List.getElem_toArray, List.getElem_cons_succ, List.getElem_cons_zero, List.setIfInBounds_toArray, List.set_cons_zero, List.set_cons_succ]
          refine wpAnyH_takeZ (i := 4) (v := ?_) HNS rfl (by kernel_rfl) (by kernel_rfl) (fun _ _ _ h => h) (Or.inl ⟨by rfl, ?_⟩) (by assumption) ?_
          rotate_left 1
          · (rintro w' ⟨f0, f1, f2, f3, f4, f5, f6, f7, _⟩; go_simp; try with_reducible rfl)
          try simp only [Act.put, List.getElem_toArray, List.getElem_cons_succ, List.getElem_cons_zero, List.setIfInBounds_toArray, List.set_cons_zero, List.set_cons_succ]
          refine wpAnyH_takeZ (i := 5) (v := ?_) HNS rfl (by kernel_rfl) (by kernel_rfl) (fun _ _ _ h => h) (Or.inl ⟨by rfl, ?_⟩) (by assumption) ?_
          rotate_left 1
          · (rintro w' ⟨f0, f1, f2, f3, f4, f5, f6, f7, _⟩; go_simp; try with_reducible rfl)
          try simp only [Act.put, List.getElem_toArray, List.getElem_cons_succ, List.getElem_cons_zero, List.setIfInBounds_toArray, List.set_cons_zero, List.set_cons_succ]
          refine wpAnyH_takeZ (i := 6) (v := ?_) HNS rfl (by kernel_rfl) (by kernel_rfl) (fun _ _ _ h => h) (Or.inl ⟨by rfl, ?_⟩) (by assumption) ?_
          rotate_left 1
          · (rintro w' ⟨f0, f1, f2, f3, f4, f5, f6, f7, _⟩; go_simp; try with_reducible rfl)
          try simp only [Act.put, List.getElem_toArray, List.getElem_cons_succ, List.getElem_cons_zero, List.setIfInBounds_toArray, List.set_cons_zero, List.set_cons_succ]
          refine wpAnyH_takeZ (i := 7) (v := ?_) HNS rfl (by kernel_rfl) (by kernel_rfl) (fun _ _ _ h => h) (Or.inl ⟨by rfl, ?_⟩) (by assumption) ?_
          rotate_left 1
          · (rintro w' ⟨f0, f1, f2, f3, f4, f5, f6, f7, _⟩; go_simp; try with_reducible rfl)
          try simp only [Act.put, List.getElem_toArray, List.getElem_cons_succ, List.getElem_cons_zero, List.setIfInBounds_toArray, List.set_cons_zero, List.set_cons_succ]
          refine wpAnyH_takeZ (i := 8) (v := ?_) HNS rfl (by kernel_rfl) (by kernel_rfl) (fun _ _ _ h => h) (Or.inl ⟨by rfl, ?_⟩) (by assumption) ?_
          rotate_left 1
          · (rintro w' ⟨f0, f1, f2, f3, f4, f5, f6, f7, _⟩; go_simp; try with_reducible rfl)
          try simp only [Act.put, List.getElem_toArray, List.getElem_cons_succ, List.getElem_cons_zero, List.setIfInBounds_toArray, List.set_cons_zero, List.set_cons_succ]
          refine wpAnyH_takeZ (i := 9) (v := ?_) HNS rfl (by kernel_rfl) (by kernel_rfl) (fun _ _ _ h => h) (Or.inl ⟨by rfl, ?_⟩) (by assumption) ?_
          rotate_left 1
          · (rintro w' ⟨f0, f1, f2, f3, f4, f5, f6, f7, _⟩; go_simp; try with_reducible rfl)
          try simp only [Act.put, List.getElem_toArray, List.getElem_cons_succ, List.getElem_cons_zero, List.setIfInBounds_toArray, List.set_cons_zero, List.set_cons_succ]
          refine wpAnyH_takeZ (i := 10) (v := ?_) HNS rfl (by kernel_rfl) (by kernel_rfl) (fun _ _ _ h => h) (Or.inl ⟨by rfl, ?_⟩) (by assumption) ?_
          rotate_left 1
          · (rintro w' ⟨f0, f1, f2, f3, f4, f5, f6, f7, _⟩; go_simp; try with_reducible rfl)
          try simp only [Act.put, List.getElem_toArray, List.getElem_cons_succ, List.getElem_cons_zero, List.setIfInBounds_toArray, List.set_cons_zero, List.set_cons_succ]
          refine wpAnyH_takeZ (i := 11) (v := ?_) HNS rfl (by kernel_rfl) (by kernel_rfl) (fun _ _ _ h => h) (Or.inl ⟨by rfl, ?_⟩) (by assumption) ?_
          rotate_left 1
          · (rintro w' ⟨f0, f1, f2, f3, f4, f5, f6, f7, _⟩; go_simp; try with_reducible rfl)
          try simp only [Act.put, List.getElem_toArray, List.getElem_cons_succ, List.getElem_cons_zero, List.setIfInBounds_toArray, List.set_cons_zero, List.set_cons_succ]
          refine wpAnyH_takeZ (i := 12) (v := ?_) HNS rfl (by kernel_rfl) (by kernel_rfl) (fun _ _ _ h => h) (Or.inl ⟨by rfl, ?_⟩) (by assumption) ?_
          rotate_left 1
          · (rintro w' ⟨f0, f1, f2, f3, f4, f5, f6, f7, _⟩; go_simp; try with_reducible rfl)
          try simp only [Act.put, List.getElem_toArray, List.getElem_cons_succ, List.getElem_cons_zero, List.setIfInBounds_toArray, List.set_cons_zero, List.set_cons_succ]
          refine wpAnyH_takeZ (i := 13) (v := ?_) HNS rfl (by kernel_rfl) (by kernel_rfl) (fun _ _ _ h => h) (Or.inl ⟨by rfl, ?_⟩) (by assumption) ?_
          rotate_left 1
          · (rintro w' ⟨f0, f1, f2, f3, f4, f5, f6, f7, _⟩; go_simp; try with_reducible rfl)
          try simp only [Act.put, List.getElem_toArray, List.getElem_cons_succ, List.getElem_cons_zero, List.setIfInBounds_toArray, List.set_cons_zero, List.set_cons_succ]
          refine wpAnyH_takeZ (i := 14) (v := ?_) HNS rfl (by kernel_rfl) (by kernel_rfl) (fun _ _ _ h => h) (Or.inl ⟨by rfl, ?_⟩) (by assumption) ?_
          rotate_left 1
          · (rintro w' ⟨f0, f1, f2, f3, f4, f5, f6, f7, _⟩; go_simp; try with_reducible rfl)
          try simp only [Act.put, List.getElem_toArray, List.getElem_cons_succ, List.getElem_cons_zero, List.setIfInBounds_toArray, List.set_cons_zero, List.set_cons_succ]
          refine wpAnyH_takeZ (i := 15) (v := ?_) HNS rfl (by kernel_rfl) (by kernel_rfl) (fun _ _ _ h => h) (Or.inl ⟨by rfl, ?_⟩) (by assumption) ?_
          rotate_left 1
          · (rintro w' ⟨f0, f1, f2, f3, f4, f5, f6, f7, _⟩; go_simp; try with_reducible rfl)
          try simp only [Act.put, List.getElem_toArray, List.getElem_cons_succ, List.getElem_cons_zero, List.setIfInBounds_toArray, List.set_cons_zero, List.set_cons_succ]
          refine wpAnyH_takeZ (i := 16) (v := ?_) HNS rfl (by kernel_rfl) (by kernel_rfl) (fun _ _ _ h => h) (Or.inl ⟨by rfl, ?_⟩) (by assumption) ?_
          rotate_left 1
          · (rintro w' ⟨f0, f1, f2, f3, f4, f5, f6, f7, _⟩; go_simp; try with_reducible rfl)
          try simp only [Act.put, List.getElem_toArray, List.getElem_cons_succ, List.getElem_cons_zero, List.setIfInBounds_toArray, List.set_cons_zero, List.set_cons_succ]
          refine wpAnyH_takeZ (i := 17) (v := ?_) HNS rfl (by kernel_rfl) (by kernel_rfl) (fun _ _ _ h => h) (Or.inl ⟨by rfl, ?_⟩) (by assumption) ?_
          rotate_left 1
          · (rintro w' ⟨f0, f1, f2, f3, f4, f5, f6, f7, _⟩; go_simp; try with_reducible rfl)
          try simp only [Act.put, List.getElem_toArray, List.getElem_cons_succ, List.getElem_cons_zero, List.setIfInBounds_toArray, List.set_cons_zero, List.set_cons_succ]
          refine wpAnyH_takeZ (i := 18) (v := ?_) HNS rfl (by kernel_rfl) (by kernel_rfl) (fun _ _ _ h => h) (Or.inl ⟨by rfl, ?_⟩) (by assumption) ?_
          rotate_left 1
          · (rintro w' ⟨f0, f1, f2, f3, f4, f5, f6, f7, _⟩; go_simp; try with_reducible rfl)
          try simp only [Act.put, List.getElem_toArray, List.getElem_cons_succ, List.getElem_cons_zero, List.setIfInBounds_toArray, List.set_cons_zero, List.set_cons_succ]
          refine wpAnyH_takeZ (i := 19) (v := ?_) HNS rfl (by kernel_rfl) (by kernel_rfl) (fun _ _ _ h => h) (Or.inl ⟨by rfl, ?_⟩) (by assumption) ?_
          rotate_left 1
          · (rintro w' ⟨f0, f1, f2, f3, f4, f5, f6, f7, _⟩; go_simp; try with_reducible rfl)
          try simp only [Act.put, List.getElem_toArray, List.getElem_cons_succ, List.getElem_cons_zero, List.setIfInBounds_toArray, List.set_cons_zero, List.set_cons_succ]
          refine wpAnyH_takeZ (i := 20) (v := ?_) HNS rfl (by kernel_rfl) (by kernel_rfl) (fun _ _ _ h => h) (Or.inl ⟨by rfl, ?_⟩) (by assumption) ?_
          rotate_left 1
          · (rintro w' ⟨f0, f1, f2, f3, f4, f5, f6, f7, _⟩; go_simp; try with_reducible rfl)
          try simp only [Act.put, List.getElem_toArray, List.getElem_cons_succ, List.getElem_cons_zero, List.setIfInBounds_toArray, List.set_cons_zero, List.set_cons_succ]
          refine wpAnyH_readyZ (rs := [21]) (by kernel_rfl) (by simp) ?_
          refine AllReadyH.cons rfl (fun K hK => ?_) AllReadyH.nil
          go_simp
          with_reducible refine (HPN.out _).mono ?_
          rintro e W16 ⟨rfl, hw'⟩
          subst hw'
          refine hK.out _ _ (HK.out _ (ext_refl W15).drew) (fun hHeld => ?_)
          clear hK K
          try simp only [Act.put, List.getElem_toArray, List.getElem_cons_succ, List.getElem_cons_zero, List.setIfInBounds_toArray, List.set_cons_zero, List.set_cons_succ]
          refine wpAnyH_takeZ (i := 22) (v := ?_) HNS rfl (by kernel_rfl) (by kernel_rfl) (fun _ _ _ h => h) (Or.inl ⟨by rfl, ?_⟩) (by assumption) ?_
          rotate_left 1
          · (rintro w' ⟨f0, f1, f2, f3, f4, f5, f6, f7, _⟩; go_simp; try with_reducible rfl)
          try simp only [Act.put, List.getElem_toArray, List.getElem_cons_succ, List.getElem_cons_zero, List.setIfInBounds_toArray, List.set_cons_zero, List.set_cons_succ]
          refine wpAnyH_takeZ (i := 23) (v := ?_) HNS rfl (by kernel_rfl) (by kernel_rfl) (fun _ _ _ h => h) (Or.inl ⟨by rfl, ?_⟩) (by assumption) ?_
          rotate_left 1
          · (rintro w' ⟨f0, f1, f2, f3, f4, f5, f6, f7, _⟩; go_simp; try with_reducible rfl)
          try simp only [Act.put, List.getElem_toArray, List.getElem_cons_succ, List.getElem_cons_zero, List.setIfInBounds_toArray, List.set_cons_zero, List.set_cons_succ]
          refine wpAnyH_takeZ (i := 24) (v := ?_) HNS rfl (by kernel_rfl) (by kernel_rfl) (fun _ _ _ h => h) (Or.inl ⟨by rfl, ?_⟩) (by assumption) ?_
          rotate_left 1
          · (rintro w' ⟨f0, f1, f2, f3, f4, f5, f6, f7, _⟩; go_simp; try with_reducible rfl)
          try simp only [Act.put, List.getElem_toArray, List.getElem_cons_succ, List.getElem_cons_zero, List.setIfInBounds_toArray, List.set_cons_zero, List.set_cons_succ]
          refine wpAnyH_takeZ (i := 25) (v := ?_) HNS rfl (by kernel_rfl) (by kernel_rfl) (fun _ _ _ h => h) (Or.inl ⟨by rfl, ?_⟩) (by assumption) ?_
          rotate_left 1
          · (rintro w' ⟨f0, f1, f2, f3, f4, f5, f6, f7, _⟩; go_simp; try with_reducible rfl)
          try simp only [Act.put, List.getElem_toArray, List.getElem_cons_succ, List.getElem_cons_zero, List.setIfInBounds_toArray, List.set_cons_zero, List.set_cons_succ]
          refine wpAnyH_takeZ (i := 26) (v := ?_) HNS rfl (by kernel_rfl) (by kernel_rfl) (fun _ _ _ h => h) (Or.inl ⟨by rfl, ?_⟩) (by assumption) ?_
          rotate_left 1
          · (rintro w' ⟨f0, f1, f2, f3, f4, f5, f6, f7, _⟩; go_simp; try with_reducible rfl)
          try simp only [Act.put, List.getElem_toArray, List.getElem_cons_succ, List.getElem_cons_zero, List.setIfInBounds_toArray, List.set_cons_zero, List.set_cons_succ]
          refine wpAnyH_takeZ (i := 27) (v := ?_) HNS rfl (by kernel_rfl) (by kernel_rfl) (fun _ _ _ h => h) (Or.inl ⟨by rfl, ?_⟩) (by assumption) ?_
          rotate_left 1
          · (rintro w' ⟨f0, f1, f2, f3, f4, f5, f6, f7, _⟩; go_simp; try with_reducible rfl)
          try simp only [Act.put, List.getElem_toArray, List.getElem_cons_succ, List.getElem_cons_zero, List.setIfInBounds_toArray, List.set_cons_zero, List.set_cons_succ]
          refine wpAnyH_takeZ (i := 28) (v := ?_) HNS rfl (by kernel_rfl) (by kernel_rfl) (fun _ _ _ h => h) (Or.inl ⟨by rfl, ?_⟩) (by assumption) ?_
          rotate_left 1
          · (rintro w' ⟨f0, f1, f2, f3, f4, f5, f6, f7, _⟩; go_simp; try with_reducible rfl)
          try simp only [Act.put, List.getElem_toArray, List.getElem_cons_succ, List.getElem_cons_zero, List.setIfInBounds_toArray, List.set_cons_zero, List.set_cons_succ]
          refine wpAnyH_takeZ (i := 29) (v := ?_) HNS rfl (by kernel_rfl) (by kernel_rfl) (fun _ _ _ h => h) (Or.inl ⟨by rfl, ?_⟩) (by assumption) ?_
          rotate_left 1
          · (rintro w' ⟨f0, f1, f2, f3, f4, f5, f6, f7, _⟩; go_simp; try with_reducible rfl)
          try simp only [Act.put, List.getElem_toArray, List.getElem_cons_succ, List.getElem_cons_zero, List.setIfInBounds_toArray, List.set_cons_zero, List.set_cons_succ]
          refine wpAnyH_readyZ (rs := [30]) (by kernel_rfl) (by simp) ?_
          refine AllReadyH.cons rfl (fun K hK => ?_) AllReadyH.nil
          go_simp
          with_reducible refine (HSA.out _ (ext_refl W15).drew).mono ?_
          rintro e W16 ⟨rfl, hb16⟩
          have hE16 : Below W15.heap.size W15 W16 := ext_call (ext_refl W15).drew hb16
          refine hK.out _ _ (HK.out _ hE16) (fun hHeld => ?_)
          clear hK K
          try simp only [Act.put, List.getElem_toArray, List.getElem_cons_succ, List.getElem_cons_zero, List.setIfInBounds_toArray, List.set_cons_zero, List.set_cons_succ]
          refine wpAnyH_takeZ (i := 31) (v := ?_) HNS rfl (by kernel_rfl) (by kernel_rfl) (fun _ _ _ h => h) (Or.inl ⟨by rfl, ?_⟩) (by assumption) ?_
          rotate_left 1
          · (rintro w' ⟨f0, f1, f2, f3, f4, f5, f6, f7, _⟩; go_simp; try with_reducible rfl)
          try simp only [Act.put, List.getElem_toArray, List.getElem_cons_succ, List.getElem_cons_zero, List.setIfInBounds_toArray, List.set_cons_zero, List.set_cons_succ]
          refine wpAnyH_takeZ (i := 32) (v := ?_) HNS rfl (by kernel_rfl) (by kernel_rfl) (fun _ _ _ h => h) (Or.inl ⟨by rfl, ?_⟩) (by assumption) ?_
          rotate_left 1
          · (rintro w' ⟨f0, f1, f2, f3, f4, f5, f6, f7, _⟩; go_simp; try with_reducible rfl)
          try simp only [Act.put, List.getElem_toArray, List.getElem_cons_succ, List.getElem_cons_zero, List.setIfInBounds_toArray, List.set_cons_zero, List.set_cons_succ]
          refine wpAnyH_takeZ (i := 33) (v := ?_) HNS rfl (by kernel_rfl) (by kernel_rfl) (fun _ _ _ h => h) (Or.inl ⟨by rfl, ?_⟩) (by assumption) ?_
          rotate_left 1
          · (rintro w' ⟨f0, f1, f2, f3, f4, f5, f6, f7, _⟩; go_simp; try with_reducible rfl)
          try simp only [Act.put, List.getElem_toArray, List.getElem_cons_succ, List.getElem_cons_zero, List.setIfInBounds_toArray, List.set_cons_zero, List.set_cons_succ]
          refine wpAnyH_takeZ (i := 34) (v := ?_) HNS rfl (by kernel_rfl) (by kernel_rfl) (fun _ _ _ h => h) (Or.inl ⟨by rfl, ?_⟩) (by assumption) ?_
          rotate_left 1
          · (rintro w' ⟨f0, f1, f2, f3, f4, f5, f6, f7, _⟩; go_simp; try with_reducible rfl)
          try simp only [Act.put, List.getElem_toArray, List.getElem_cons_succ, List.getElem_cons_zero, List.setIfInBounds_toArray, List.set_cons_zero, List.set_cons_succ]
          refine wpAnyH_takeZ (i := 35) (v := ?_) HNS rfl (by kernel_rfl) (by kernel_rfl) (fun _ _ _ h => h) (Or.inl ⟨by rfl, ?_⟩) (by assumption) ?_
          rotate_left 1
          · (rintro w' ⟨f0, f1, f2, f3, f4, f5, f6, f7, _⟩; go_simp; try with_reducible rfl)
          try simp only [Act.put, List.getElem_toArray, List.getElem_cons_succ, List.getElem_cons_zero, List.setIfInBounds_toArray, List.set_cons_zero, List.set_cons_succ]
          refine wpAnyH_takeZ (i := 36) (v := ?_) HNS rfl (by kernel_rfl) (by kernel_rfl) (fun _ _ _ h => h) (Or.inl ⟨by rfl, ?_⟩) (by assumption) ?_
          rotate_left 1
          · (rintro w' ⟨f0, f1, f2, f3, f4, f5, f6, f7, _⟩; go_simp; try with_reducible rfl)
          try simp only [Act.put, List.getElem_toArray, List.getElem_cons_succ, List.getElem_cons_zero, List.setIfInBounds_toArray, List.set_cons_zero, List.set_cons_succ]
          refine wpAnyH_takeZ (i := 37) (v := ?_) HNS rfl (by kernel_rfl) (by kernel_rfl) (fun _ _ _ h => h) (Or.inl ⟨by rfl, ?_⟩) (by assumption) ?_
          rotate_left 1
          · (rintro w' ⟨f0, f1, f2, f3, f4, f5, f6, f7, _⟩; go_simp; try with_reducible rfl)
          try simp only [Act.put, List.getElem_toArray, List.getElem_cons_succ, List.getElem_cons_zero, List.setIfInBounds_toArray, List.set_cons_zero, List.set_cons_succ]
          refine wpAnyH_takeZ (i := 38) (v := ?_) HNS rfl (by kernel_rfl) (by kernel_rfl) (fun _ _ _ h => h) (Or.inl ⟨by rfl, ?_⟩) (by assumption) ?_
          rotate_left 1
          · (rintro w' ⟨f0, f1, f2, f3, f4, f5, f6, f7, _⟩; go_simp; try with_reducible rfl)
          try simp only [Act.put, List.getElem_toArray, List.getElem_cons_succ, List.getElem_cons_zero, List.setIfInBounds_toArray, List.set_cons_zero, List.set_cons_succ]
          refine wpAnyH_takeZ (i := 39) (v := ?_) HNS rfl (by kernel_rfl) (by kernel_rfl) (fun _ _ _ h => h) (Or.inl ⟨by rfl, ?_⟩) (by assumption) ?_
          rotate_left 1
          · (rintro w' ⟨f0, f1, f2, f3, f4, f5, f6, f7, _⟩; go_simp; try with_reducible rfl)
          try simp only [Act.put, List.getElem_toArray, List.getElem_cons_succ, List.getElem_cons_zero, List.setIfInBounds_toArray, List.set_cons_zero, List.set_cons_succ]
          refine wpAnyH_takeZ (i := 40) (v := undef) HNS rfl (by kernel_rfl) (by kernel_rfl) (fun _ _ _ h => h) (Or.inr ⟨by rfl, rfl⟩) (by assumption) ?_
          try simp only [Act.put, List.getElem_toArray, List.getElem_cons_succ, List.getElem_cons_zero, List.setIfInBounds_toArray, List.set_cons_zero, List.set_cons_succ]
          refine wpAnyH_takeZ (i := 41) (v := undef) HNS rfl (by kernel_rfl) (by kernel_rfl) (fun _ _ _ h => h) (Or.inr ⟨by rfl, rfl⟩) (by assumption) ?_
          try simp only [Act.put, List.getElem_toArray, List.getElem_cons_succ, List.getElem_cons_zero, List.setIfInBounds_toArray, List.set_cons_zero, List.set_cons_succ]
          refine wpAnyH_takeZ (i := 42) (v := undef) HNS rfl (by kernel_rfl) (by kernel_rfl) (fun _ _ _ h => h) (Or.inr ⟨by rfl, rfl⟩) (by assumption) ?_
          try simp only [Act.put, List.getElem_toArray, List.getElem_cons_succ, List.getElem_cons_zero, List.setIfInBounds_toArray, List.set_cons_zero, List.set_cons_succ]
          refine wpAnyH_takeZ (i := 43) (v := ?_) HNS rfl (by kernel_rfl) (by kernel_rfl) (fun _ _ _ h => h) (Or.inl ⟨by rfl, ?_⟩) (by assumption) ?_
          rotate_left 1
          · (rintro w' ⟨f0, f1, f2, f3, f4, f5, f6, f7, _⟩; go_simp; try with_reducible rfl)
          try simp only [Act.put, List.getElem_toArray, List.getElem_cons_succ, List.getElem_cons_zero, List.setIfInBounds_toArray, List.set_cons_zero, List.set_cons_succ]
          refine wpAnyH_takeZ (i := 44) (v := ?_) HNS rfl (by kernel_rfl) (by kernel_rfl) (fun _ _ _ h => h) (Or.inl ⟨by rfl, ?_⟩) (by assumption) ?_
          rotate_left 1
          · (rintro w' ⟨f0, f1, f2, f3, f4, f5, f6, f7, _⟩; go_simp; try with_reducible rfl)
          try simp only [Act.put, List.getElem_toArray, List.getElem_cons_succ, List.getElem_cons_zero, List.setIfInBounds_toArray, List.set_cons_zero, List.set_cons_succ]
          refine wpAnyH_done (by kernel_rfl) ?_ _
          go_wp2_with fail
          go_meet
          case rel => exact ⟨rfl, hE16⟩
        · have hlt := hlt.out
          have h2lt : eb ≤ ep := by omega
          obtain ⟨x0, x1, x2⟩ := bcells3 HW15.out
          go_quiet (fail)
          go_wp2_with fail
          go_meet
          case rel => exact ⟨rfl, ext_drewN (ext_refl W15) _⟩
      case rest =>
        obtain ⟨rfl, hx⟩ := hcut
        generalize wc = W16 at *
        have HS16 := Lib.hid (HS15.out.ext hx)
        have HDM16 := Lib.hid (HDM15.out.ext hx)
        have HDO16 := Lib.hid (HDO15.out.ext hx)
        have HMW16 := Lib.hid (HMW15.out.ext hx)
        have HOW16 := Lib.hid (HOW15.out.ext hx)
        have HT16 := Lib.hid (HT15.out.ext hx)
        have HW16 := Lib.hid (HW15.out.ext hx)
        have HE16 := Lib.hid (ext_call HE15.out hx)
        clear hx HOR HS15 HDM15 HDO15 HMW15 HOW15 HT15 HW15 HE15 HPN
        go_wp2_with fail
        refine (nilCommit _).mono ?_
        rintro e w' ⟨rfl, hw'⟩
        subst w'
        go_wp2_with fail
        refine (nilHead _).mono ?_
        rintro e W17 ⟨rfl, hb17⟩
        have HX17 := Lib.hid hb17
        have HZ := Lib.hid (Blk.new W17 86 #[.int .i64 0, .string ⟨#[]⟩, .string ⟨#[]⟩])
        clear hb17
        go_wp2_with (refine store_head rfl (.tmp 23) (.tmp 150) rfl W17.heap.size #[.int .i64 0, .string ⟨#[]⟩, .string ⟨#[]⟩] rfl (by simp [Value.oneCell']) rfl rfl _ HZ.out rfl ?_; intro W18 hB9 hg9; have HB18 := Lib.hid (ext_put3 rfl hg9 rfl); clear hB9 hg9 HZ)
        have HX18 := Lib.hid (ext_call HX17.out HB18.out)
        refine (nilState _).mono ?_
        rintro e w' ⟨rfl, hw'⟩
        subst w'
        go_wp2_with fail
        refine (nilProve _).mono ?_
        rintro e w' ⟨rfl, hw'⟩
        subst w'
        go_wp2_with fail
        refine (nilExt _).mono ?_
        rintro e w' ⟨rfl, hw'⟩
        subst w'
        have HS18 := Lib.hid (HS16.out.ext HX18.out)
        have HDM18 := Lib.hid (HDM16.out.ext HX18.out)
        have HDO18 := Lib.hid (HDO16.out.ext HX18.out)
        have HMW18 := Lib.hid (HMW16.out.ext HX18.out)
        have HOW18 := Lib.hid (HOW16.out.ext HX18.out)
        have HT18 := Lib.hid (HT16.out.ext HX18.out)
        have HW18 := Lib.hid (HW16.out.ext HX18.out)
        have HE18 := Lib.hid (ext_call HE16.out HX18.out)
        clear HS16 HDM16 HDO16 HMW16 HOW16 HT16 HW16 HE16 HX17 HX18 HB18
        go_wp2_with fail
        by_cases h0 : lag < 0
        · refine ringsEndLow lag h0 w W18 _ _ gs gl gst gn gp nm cm no co bw b13 _ _ _ _ _ _ _ _ eb ea Am Ao _ _ _ _ nsb osb _ _ _ _ _ _ _ _ _ _ _ _ _ _ _ _ _ _ _ _ _ _ _ _ _ _ _ _ _ _ _ _ _ _ _ _ _ _ _ _ _ _ _ _ _ _ _ _ _ _ _ _ _ _ _ _ _ _ _ _ _ _ _ _ _ _ _ _ _ _ _ _ _ _ _ _ _ _ _ _ _ _ _ _ _ _ _ _ _ _ _ _ _ _ _ _ _ _ _ _ _ _ _ _ _ _ _ _ _ _ _ _ _ _ _ _ _ _ _ _ _ _ _ _ _ _ _ _ _ _ _ _ _ _ _ _ _ _ _ _ _ _ _ _ _ _ _ _ _ _ _ _ _ _ _ _ _ _ _ _ _ _ _ _ _ _ _ _ _ _ _ _ _ _ _ _ _ _ _ _ _ _ _ _ _ _ _ _ _ _ _ _ _ _ _ _ _ _ _ _ _ _ _ _ _ _ _ _ _ _ _ _ _ _ _ _ _ _ _ _ _ _ _ _ _ _ _ _ _ _ _ _ _ _ _ _ _ _ _ _ _ _ _ _ _ _ _ _ _ _ _ _ _ _ _ HE18.out HN.out.1 HS18.out HDM18.out HDO18.out HMW18.out HOW18.out HT18.out HW18.out HLB.out.1 HNB.out ?_
          intros
          rename_i w9 hb9
          go_wp2
          go_ret
          exact ⟨rfl, hb9⟩
        · have h0 : 0 ≤ lag := by omega
          by_cases h1 : 10000 < lag
          · refine ringsEndHigh lag h0 h1 w W18 _ _ gs gl gst gn gp nm cm no co bw b13 _ _ _ _ _ _ _ _ eb ea Am Ao _ _ _ _ nsb osb _ _ _ _ _ _ _ _ _ _ _ _ _ _ _ _ _ _ _ _ _ _ _ _ _ _ _ _ _ _ _ _ _ _ _ _ _ _ _ _ _ _ _ _ _ _ _ _ _ _ _ _ _ _ _ _ _ _ _ _ _ _ _ _ _ _ _ _ _ _ _ _ _ _ _ _ _ _ _ _ _ _ _ _ _ _ _ _ _ _ _ _ _ _ _ _ _ _ _ _ _ _ _ _ _ _ _ _ _ _ _ _ _ _ _ _ _ _ _ _ _ _ _ _ _ _ _ _ _ _ _ _ _ _ _ _ _ _ _ _ _ _ _ _ _ _ _ _ _ _ _ _ _ _ _ _ _ _ _ _ _ _ _ _ _ _ _ _ _ _ _ _ _ _ _ _ _ _ _ _ _ _ _ _ _ _ _ _ _ _ _ _ _ _ _ _ _ _ _ _ _ _ _ _ _ _ _ _ _ _ _ _ _ _ _ _ _ _ _ _ _ _ _ _ _ _ _ _ _ _ _ _ _ _ _ _ _ _ _ _ _ _ _ _ _ _ _ _ _ _ _ _ _ _ _ HE18.out HN.out.1 HS18.out HDM18.out HDO18.out HMW18.out HOW18.out HT18.out HW18.out HLB.out.1 HNB.out ?_
            intros
            rename_i w9 hb9
            go_wp2
            go_ret
            exact ⟨rfl, hb9⟩
          · have h1 : lag ≤ 10000 := by omega
            refine ringsEndOk lag h0 h1 w W18 _ _ gs gl gst gn gp nm cm no co bw b13 _ _ _ _ _ _ _ _ eb ea Am Ao _ _ _ _ nsb osb _ _ _ _ _ _ _ _ _ _ _ _ _ _ _ _ _ _ _ _ _ _ _ _ _ _ _ _ _ _ _ _ _ _ _ _ _ _ _ _ _ _ _ _ _ _ _ _ _ _ _ _ _ _ _ _ _ _ _ _ _ _ _ _ _ _ _ _ _ _ _ _ _ _ _ _ _ _ _ _ _ _ _ _ _ _ _ _ _ _ _ _ _ _ _ _ _ _ _ _ _ _ _ _ _ _ _ _ _ _ _ _ _ _ _ _ _ _ _ _ _ _ _ _ _ _ _ _ _ _ _ _ _ _ _ _ _ _ _ _ _ _ _ _ _ _ _ _ _ _ _ _ _ _ _ _ _ _ _ _ _ _ _ _ _ _ _ _ _ _ _ _ _ _ _ _ _ _ _ _ _ _ _ _ _ _ _ _ _ _ _ _ _ _ _ _ _ _ _ _ _ _ _ _ _ _ _ _ _ _ _ _ _ _ _ _ _ _ _ _ _ _ _ _ _ _ _ _ _ _ _ _ _ _ _ _ _ _ _ _ _ _ _ _ _ _ _ _ _ _ _ _ _ _ _ HE18.out HN.out.1 HS18.out HDM18.out HDO18.out HMW18.out HOW18.out HT18.out HW18.out HLB.out.1 HNB.out ?_
            intros
            rename_i w9 hb9
            go_wp2
            go_ret
            exact ⟨rfl, hb9⟩
  · skip
    have hle : eb ≤ ea := by omega
    have HRg := Lib.hid (setRingNo gs ea nsb osb eb _ _ W7 (Blk.cell HS7.out 4) HC7.out.1 HNB.out HC7.out.2 HLB.out.1 HLB.out.2.1 HLB.out.2.2 HEB.out.1 (by have := HEB.out.2; omega) hle)
    go_wp2_with fail
    refine HRg.out.mono ?_
    rintro e W8 ⟨rfl, hb8⟩
    have HS8 := Lib.hid (HS7.out.ext hb8)
    have HMW := Lib.hid (HA7.out.1.ext hb8)
    have HOW := Lib.hid (HA7.out.2.ext hb8)
    have HT8 := Lib.hid (HT7.out.ext hb8)
    have HU8 := Lib.hid (HU7.out.ext hb8)
    have HE8 := Lib.hid (ext_call HE7.out hb8)
    have HDM := Lib.hid (HD7.out.1.ext hb8)
    have HDO := Lib.hid (HD7.out.2.ext hb8)
    clear hb8 HS7 HM7 HA7 HC7 HT7 HU7 HE7 HRg y0 y1 y2 HD7
    obtain ⟨x0, x1, x2⟩ := bcells3 HT8.out
    have HZ := Lib.hid (Blk.new W8 30 #[.int .i64 0, .slice none 0 0, .slice none 0 0])
    go_upto_region 8 with (refine store_ring rfl (.tmp 17) (.tmp 43) rfl W8.heap.size ea Ama Aoa nsa.length cma osa.length coa rfl rfl #[.int .i64 0, .slice none 0 0, .slice none 0 0] HZ.out rfl ?_; intro W9 hB9 hg9; have HW9 := Lib.hid hB9; have HB9 := Lib.hid (ext_put3 rfl hg9 rfl); clear hB9 hg9 HZ)
    have HT10 := Lib.hid (HT8.out.ext HB9.out)
    have HW10 := Lib.hid HW9.out
    have HU10 := Lib.hid (HU8.out.ext HB9.out)
    clear x0 x1 x2
    obtain ⟨x0, x1, x2⟩ := bcells3 HT10.out
    obtain ⟨y0, y1, y2⟩ := bcells3 HU10.out
    go_upto_region 10 with (fail)
    clear x0 x1 x2 y0 y1 y2

    generalize W8.heap.size = bw at HW10 ⊢
    have HSX := Lib.hid (HS8.out.ext HB9.out)
    have HDM2 := Lib.hid (HDM.out.ext HB9.out)
    have HDO2 := Lib.hid (HDO.out.ext HB9.out)
    have HMW2 := Lib.hid (HMW.out.ext HB9.out)
    have HOW2 := Lib.hid (HOW.out.ext HB9.out)
    have HE10 := Lib.hid (ext_call HE8.out HB9.out)
    have HQ := srvRingO gs gl gst gn gp 1 1 nm cm no co 0 ea 0 Am Ao nsa osa W9 HSX.out HDM2.out HNA.out HDO2.out HLA.out.1
    obtain ⟨nn, hnn⟩ : ∃ m, nsa.length = m := ⟨_, rfl⟩
    have hn1 : 0 < nn := by rw [← hnn]; exact HNA.out.some_
    have HNN := Lib.hid hnn
    rw [hnn, HLA.out.1] at HQ
    have HRg := Lib.hid HQ
    clear HQ hnn HS8 HDM HDO HMW HOW HE8 HT8 HU8 HB9
    obtain ⟨x0, x1, x2⟩ := bcells3 HT10.out
    obtain ⟨y0, y1, y2⟩ := bcells3 HU10.out
    go_wp2_with fail
    clear HU10
    clear x0 x1 x2 y0 y1 y2
    refine HRg.out.mono ?_
    rintro e W11 ⟨A, c, B, d, rfl, ha, hb, hx⟩
    obtain ⟨ga, ka, cura, hAeq, hga, hba⟩ := own_blk ha hn1
    injection hAeq with hA1 hA3 hA2
    subst hA1 hA2; clear hA3
    obtain ⟨gb, kb, curb, hBeq, hgb, hbb⟩ := own_blk hb (by omega)
    injection hBeq with hB1 hB3 hB2
    subst hB1 hB2; clear hB3
    obtain ⟨u0, hu0⟩ : ∃ u, (nc osa)[0]? = some u := ⟨_, List.getElem?_eq_getElem (by have := HLA.out.1; simp; omega)⟩
    obtain ⟨u2, hu2⟩ : ∃ u, (mc nsa)[2]? = some u := ⟨_, List.getElem?_eq_getElem (by have := HNN.out; rw [mc_length]; omega)⟩
    have HCB := Lib.hid (own_at hb 0 u0 hu0)
    have HCA := Lib.hid (own_at ha 2 u2 hu2)
    have HGA := Lib.hid (And.intro hga hba)
    have HGB := Lib.hid (And.intro hgb hbb)
    have HX11 := Lib.hid hx
    have HZ := Lib.hid (Blk.new W11 30 #[.int .i64 0, .slice none 0 0, .slice none 0 0])
    have d0 : decide ((nn : Int) = 0) = false := by simp; omega
    have d1 : ((nn : Int) == 0) = false := by simp; omega
    clear hga hgb ha hb hx hba hbb hu0 hu2 HRg HNN
    go_upto_region 13 with (refine store_ring rfl (.tmp 18) (.tmp 71) rfl W11.heap.size ea (some ⟨ga, 0, none⟩) (some ⟨gb, 0, none⟩) nn c 64 d rfl rfl #[.int .i64 0, .slice none 0 0, .slice none 0 0] HZ.out rfl ?_; intro W12 hB9 hg9; have HW12 := Lib.hid hB9; have HB12 := Lib.hid (ext_put3 rfl hg9 rfl); clear hB9 hg9 HZ)
    have HX12 := Lib.hid (ext_call HX11.out HB12.out)
    have HGB12 := Lib.hid (HGB.out.2.ext HB12.out)
    have HGA12 := Lib.hid (HGA.out.2.ext HB12.out)
    have cb := cell_ext HCB.out HB12.out
    have fb := HGB12.out.frozen 0
    have HCA12 := Lib.hid (cell_ext HCA.out HB12.out)
    generalize W11.heap.size = b18 at HW12 ⊢
    obtain ⟨x0, x1, x2⟩ := bcells3 HW12.out
    clear HB12 HCB HCA HX11
    go_upto_region 15 with (fail)
    go_upto_region 16 with (fail)
    clear x0 x1 x2 cb fb d0 d1
    have hn1 : gb ≠ b18 := fun h => blkNe HGB12.out HW12.out (by decide) h
    have hn2 : gb ≠ ga := fun h => blkNe HGB12.out HGA12.out (by decide) h
    obtain ⟨W13, hW13⟩ : ∃ W, W = W12.setCell ⟨gb, 0, none⟩ (.int .i64 99) := ⟨_, rfl⟩
    have HX13 := Lib.hid (show Below W9.heap.size W9 W13 by rw [hW13]; exact ext_set HX12.out HGB.out.1 _)
    have HW13 := Lib.hid (show Blk W13 b18 30 _ by rw [hW13]; exact Blk.far HW12.out (fun h => hn1 h.symm) _)
    have HGA13 := Lib.hid (show Blk W13 ga _ _ by rw [hW13]; exact Blk.far HGA12.out (fun h => hn2 h.symm) _)
    have ca : W13.cell? ⟨ga, 2, none⟩ = some u2 := by rw [HGA13.out.cell, ← HGA12.out.cell]; exact HCA12.out
    have fa := HGA13.out.frozen 2
    rw [← hW13]
    clear hW13 hn1 hn2
    obtain ⟨x0, x1, x2⟩ := bcells3 HW13.out
    go_upto_region 17 with (fail)
    clear x0 x1 x2 ca fa
    obtain ⟨W14, hW14⟩ : ∃ W, W = W13.setCell ⟨ga, 2, none⟩ (.int .i64 9) := ⟨_, rfl⟩
    have HX14 := Lib.hid (show Below W9.heap.size W9 W14 by rw [hW14]; exact ext_set HX13.out HGA.out.1 _)
    rw [← hW14]
    clear hW14 HX13 HX12 HW12 HW13 HGA13 HGA12 HGB12 HCA12 HGA HGB
    have HS14 := Lib.hid (HSX.out.ext HX14.out)
    have HDM14 := Lib.hid (HDM2.out.ext HX14.out)
    have HDO14 := Lib.hid (HDO2.out.ext HX14.out)
    have HMW14 := Lib.hid (HMW2.out.ext HX14.out)
    have HOW14 := Lib.hid (HOW2.out.ext HX14.out)
    have HT14 := Lib.hid (HT10.out.ext HX14.out)
    have HW14 := Lib.hid (HW10.out.ext HX14.out)
    have HE14 := Lib.hid (ext_call HE10.out HX14.out)
    clear HX14 HSX HDM2 HDO2 HMW2 HOW2 HT10 HW10 HE10
    go_upto_region 18 with (go_at_call 19; refine (HPE.out _).mono ?_; rintro e w' ⟨rfl, hw'⟩; subst w')
    go_cut [19] from 91 to 96 (fun l W => Below W14.heap.size W14 W ∧ ((Hid (ep < ea) ∧ ∃ g A1 n1 k1 A2 n2 k2, l = .slice (some ⟨g, 0, none⟩) 1 1 ∧ Blk W g 57 #[.int .i64 10, .int .i64 100, .int .i64 n, .int .i64 0, .int .i64 0, .int .i64 0, .int .i64 0, .int .i64 0, .int .i64 0, .int .i64 0, .int .i64 0, .int .i64 0, .int .i64 0, .int .i64 0, .int .i64 0, .int .i64 0, .int .i64 0, .int .i64 0, .slice none 0 0, .int .i64 0, .int .i64 0, .int .i64 0, .int .i64 0, .int .i64 0, .int .i64 0, .int .i64 0, .int .i64 0, .int .i64 0, .slice none 0 0, .int .i64 0, .int .i64 0, .int .i64 0, .int .i64 0, .int .i64 0, .int .i64 0, .int .i64 0, .slice none 0 0, .int .i64 0, .bool false, .int .i64 0, .int .i64 0, .int .i64 0, .slice none 0 0, .slice none 0 0, .int .i64 ea, .slice A1 n1 k1, .slice A2 n2 k2] ∧ MemsAt W (.slice A1 n1 k1) nsa ∧ NumsAt W (.slice A2 n2 k2) osa) ∨ (Hid (¬ ep < ea) ∧ l = .slice none 0 0)))
    case first =>
      obtain ⟨va, hva⟩ : ∃ va : Array Value, va = #[.int .i64 9, .int .i64 n, .int .i64 100, .int .i64 0, .int .i64 ep, .int .i64 0, .int .i64 0, .int .i64 0, .int .i64 0, .int .i64 0, .int .i64 0, .int .i64 0, .int .i64 0, .int .i64 0, .int .i64 0, .int .i64 0, .int .i64 0, .int .i64 0, .slice none 0 0, .int .i64 0, .int .i64 0, .int .i64 0, .int .i64 0, .int .i64 0, .int .i64 0, .int .i64 0, .int .i64 0, .int .i64 0, .slice none 0 0, .int .i64 0, .int .i64 0, .int .i64 0, .int .i64 0, .int .i64 0, .int .i64 0, .int .i64 0, .slice none 0 0, .int .i64 0, .bool false, .int .i64 0, .int .i64 0, .int .i64 0, .slice none 0 0, .slice none 0 0, .int .i64 0, .slice none 0 0, .slice none 0 0] := ⟨_, rfl⟩
      obtain ⟨bd1, bd2⟩ := bd_of W14 (P := Tryz.prog) (t := 57) (ps := #[(0, .int .i64 9), (1, .int .i64 n), (2, .int .i64 100), (4, .int .i64 ep)]) (cs := va) (by rw [hva]; kernel_rfl)
      by_cases hlt : ep < ea
      · have HRc := Lib.hid (show Calls Tryz.prog 20 #[.pointer (some ⟨gs, 0, none⟩), .agg va] W14 fun e w' => ∃ g A1 n1 k1 A2 n2 k2, e = .returned (.slice (some ⟨g, 0, none⟩) 1 1) ∧ Blk w' g 57 #[.int .i64 10, .int .i64 100, .int .i64 n, .int .i64 0, .int .i64 0, .int .i64 0, .int .i64 0, .int .i64 0, .int .i64 0, .int .i64 0, .int .i64 0, .int .i64 0, .int .i64 0, .int .i64 0, .int .i64 0, .int .i64 0, .int .i64 0, .int .i64 0, .slice none 0 0, .int .i64 0, .int .i64 0, .int .i64 0, .int .i64 0, .int .i64 0, .int .i64 0, .int .i64 0, .int .i64 0, .int .i64 0, .slice none 0 0, .int .i64 0, .int .i64 0, .int .i64 0, .int .i64 0, .int .i64 0, .int .i64 0, .int .i64 0, .slice none 0 0, .int .i64 0, .bool false, .int .i64 0, .int .i64 0, .int .i64 0, .slice none 0 0, .slice none 0 0, .int .i64 ea, .slice A1 n1 k1, .slice A2 n2 k2] ∧ MemsAt w' (.slice A1 n1 k1) nsa ∧ NumsAt w' (.slice A2 n2 k2) osa ∧ Below W14.heap.size W14 w' by
          rw [hva]
          exact recvWantYes n ep bn.out.1 (by have := bn.out.2; omega) be.out.1 (by have := be.out.2; omega) gs gl gst gn gp 1 1 nm cm no co 0 ea 0 Am Ao nsa osa W14 HS14.out HDM14.out HNA.out HDO14.out HLA.out.1 (by omega))
        have HLT := Lib.hid hlt
        clear hva hlt
        go_wp2_with (go_at_call 19; refine (HPN.out _).mono ?_; rintro e w' ⟨rfl, hw'⟩; subst w')
        refine HRc.out.mono ?_
        rintro e W15 ⟨g, A1, n1, k1, A2, n2, k2, rfl, hb, hm9, ho9, hx⟩
        have HBB := Lib.hid hb
        have HXX := Lib.hid hx
        have HMM := Lib.hid hm9
        have HOO := Lib.hid ho9
        clear hb hx hm9 ho9 bd1 bd2
        go_wp2_with fail
        go_meet
        case rel => exact ⟨HXX.out, .inl ⟨HLT, g, A1, n1, k1, A2, n2, k2, rfl, HBB.out, HMM.out, HOO.out⟩⟩
      · have HRc := Lib.hid (show Calls Tryz.prog 20 #[.pointer (some ⟨gs, 0, none⟩), .agg va] W14 fun e w' => e = .returned (.slice none 0 0) ∧ Below W14.heap.size W14 w' by
          rw [hva]
          exact recvWantNo n ep bn.out.1 (by have := bn.out.2; omega) be.out.1 (by have := be.out.2; omega) gs ea W14 (Blk.cell HS14.out 4) (by omega))
        have HLT := Lib.hid hlt
        clear hva hlt
        go_wp2_with (go_at_call 19; refine (HPN.out _).mono ?_; rintro e w' ⟨rfl, hw'⟩; subst w')
        refine HRc.out.mono ?_
        rintro e W15 ⟨rfl, hx⟩
        have HXX := Lib.hid hx
        clear hx bd1 bd2
        go_wp2_with fail
        go_meet
        case rel => exact ⟨HXX.out, .inr ⟨HLT, rfl⟩⟩
    case rest =>
      obtain ⟨hx, hor⟩ := hcut
      generalize wc = W15 at *
      have HOR := Lib.hid hor
      have HS15 := Lib.hid (HS14.out.ext hx)
      have HDM15 := Lib.hid (HDM14.out.ext hx)
      have HDO15 := Lib.hid (HDO14.out.ext hx)
      have HMW15 := Lib.hid (HMW14.out.ext hx)
      have HOW15 := Lib.hid (HOW14.out.ext hx)
      have HT15 := Lib.hid (HT14.out.ext hx)
      have HW15 := Lib.hid (HW14.out.ext hx)
      have HE15 := Lib.hid (ext_call HE14.out hx)
      clear hx hor HS14 HDM14 HDO14 HMW14 HOW14 HT14 HW14 HE14 HPE
      go_upto_region 19 with (fail)
      go_cut [141] from 97 to 141 (fun t W => t = .bool false ∧ Below W15.heap.size W15 W)
      case first =>
        rcases HOR.out with ⟨hlt, g, A1, n1, k1, A2, n2, k2, rfl, hb, hm9, ho9⟩ | ⟨hlt, rfl⟩
        · have hlt := hlt.out
          have h2lt : ¬ ea ≤ ep := by omega
          have HSA := Lib.hid (fun (W : World) (k : Below W15.heap.size W15 W) => same12_yes nsa osa ea (.slice A1 n1 k1) (.slice A2 n2 k2) _ _ W (hm9.ext k) (HMW15.out.ext k) (ho9.ext k) (HOW15.out.ext k) (by rw [HLA.out.1]; omega) HNA.out.few)
          have HK := Lib.hid (fun (W : World) (k : Below W15.heap.size W15 W) => (⟨cell_ext (HW15.out.cell 0) k, cell_ext (HW15.out.cell 1) k, cell_ext (HW15.out.cell 2) k, cell_ext (hb.cell 0) k, cell_ext (hb.cell 2) k, cell_ext (hb.cell 44) k, cell_ext (hb.cell 45) k, cell_ext (hb.cell 46) k, k⟩ : W.cell? ⟨bw, 0, none⟩ = some (.int .i64 ea) ∧ W.cell? ⟨bw, 1, none⟩ = some (.slice Ama nsa.length cma) ∧ W.cell? ⟨bw, 2, none⟩ = some (.slice Aoa osa.length coa) ∧ W.cell? ⟨g, 0, none⟩ = some (.int .i64 10) ∧ W.cell? ⟨g, 2, none⟩ = some (.int .i64 n) ∧ W.cell? ⟨g, 44, none⟩ = some (.int .i64 ea) ∧ W.cell? ⟨g, 45, none⟩ = some (.slice A1 n1 k1) ∧ W.cell? ⟨g, 46, none⟩ = some (.slice A2 n2 k2) ∧ Below W15.heap.size W15 W))
          clear hb hm9 ho9
          refine wp_region_held_drew (S := fun w' => w'.cell? ⟨bw, 0, none⟩ = some (.int .i64 ea) ∧ w'.cell? ⟨bw, 1, none⟩ = some (.slice Ama nsa.length cma) ∧ w'.cell? ⟨bw, 2, none⟩ = some (.slice Aoa osa.length coa) ∧ w'.cell? ⟨g, 0, none⟩ = some (.int .i64 10) ∧ w'.cell? ⟨g, 2, none⟩ = some (.int .i64 n) ∧ w'.cell? ⟨g, 44, none⟩ = some (.int .i64 ea) ∧ w'.cell? ⟨g, 45, none⟩ = some (.slice A1 n1 k1) ∧ w'.cell? ⟨g, 46, none⟩ = some (.slice A2 n2 k2) ∧ Below W15.heap.size W15 w') (by kernel_rfl) (HK.out _ (ext_refl W15).drew) (fun hHeld => ?_)
          refine wpAnyH_listed (fuel' := 45) (listed' := #[false, false, false, false, false, false, false, false, false, false, false, false, false, false, false, false, false, false, false, false, false, false, false, false, false, false, false, false, false, false, false, false, false, false, false, false, false, false, false, false, false, false, false, false, false]) (by kernel_rfl) (by kernel_rfl) ?_
          refine wpAnyH_hns (by kernel_rfl) (fun HNS => ?_)
          refine wpAnyH_takeZ (i := 0) (v := ?_) HNS rfl (by kernel_rfl) (by kernel_rfl) (fun _ _ _ h => h) (Or.inl ⟨by rfl, ?_⟩) (by assumption) ?_
          rotate_left 1
          · (rintro w' ⟨f0, f1, f2, f3, f4, f5, f6, f7, _⟩; go_simp; try with_reducible rfl)
          try simp only [Act.put, List.getElem_toArray, List.getElem_cons_succ, List.getElem_cons_zero, List.setIfInBounds_toArray, List.set_cons_zero, List.set_cons_succ]
          refine wpAnyH_takeZ (i := 1) (v := ?_) HNS rfl (by kernel_rfl) (by kernel_rfl) (fun _ _ _ h => h) (Or.inl ⟨by rfl, ?_⟩) (by assumption) ?_
          rotate_left 1
          · (rintro w' ⟨f0, f1, f2, f3, f4, f5, f6, f7, _⟩; go_simp; try with_reducible rfl)
          try simp only [Act.put, List.getElem_toArray, List.getElem_cons_succ, List.getElem_cons_zero, List.setIfInBounds_toArray, List.set_cons_zero, List.set_cons_succ]
          refine wpAnyH_takeZ (i := 2) (v := ?_) HNS rfl (by kernel_rfl) (by kernel_rfl) (fun _ _ _ h => h) (Or.inl ⟨by rfl, ?_⟩) (by assumption) ?_
          rotate_left 1
          · (rintro w' ⟨f0, f1, f2, f3, f4, f5, f6, f7, _⟩; go_simp; try with_reducible rfl)
          try simp only [Act.put, List.getElem_toArray, List.getElem_cons_succ, List.getElem_cons_zero, List.setIfInBounds_toArray, List.set_cons_zero, List.set_cons_succ]
          refine wpAnyH_takeZ (i := 3) (v := ?_) HNS rfl (by kernel_rfl) (by kernel_rfl) (fun _ _ _ h => h) (Or.inl ⟨by rfl, ?_⟩) (by assumption) ?_
          rotate_left 1
          · (rintro w' ⟨f0, f1, f2, f3, f4, f5, f6, f7, _⟩; go_simp; try with_reducible rfl)
          try simp only [Act.put, List.getElem_toArray, List.getElem_cons_succ, List.getElem_cons_zero, List.setIfInBounds_toArray, List.set_cons_zero, List.set_cons_succ]
          refine wpAnyH_takeZ (i := 4) (v := ?_) HNS rfl (by kernel_rfl) (by kernel_rfl) (fun _ _ _ h => h) (Or.inl ⟨by rfl, ?_⟩) (by assumption) ?_
          rotate_left 1
          · (rintro w' ⟨f0, f1, f2, f3, f4, f5, f6, f7, _⟩; go_simp; try with_reducible rfl)
          try simp only [Act.put, List.getElem_toArray, List.getElem_cons_succ, List.getElem_cons_zero, List.setIfInBounds_toArray, List.set_cons_zero, List.set_cons_succ]
          refine wpAnyH_takeZ (i := 5) (v := ?_) HNS rfl (by kernel_rfl) (by kernel_rfl) (fun _ _ _ h => h) (Or.inl ⟨by rfl, ?_⟩) (by assumption) ?_
          rotate_left 1
          · (rintro w' ⟨f0, f1, f2, f3, f4, f5, f6, f7, _⟩; go_simp; try with_reducible rfl)
          try simp only [Act.put, List.getElem_toArray, List.getElem_cons_succ, List.getElem_cons_zero, List.setIfInBounds_toArray, List.set_cons_zero, List.set_cons_succ]
          refine wpAnyH_takeZ (i := 6) (v := ?_) HNS rfl (by kernel_rfl) (by kernel_rfl) (fun _ _ _ h => h) (Or.inl ⟨by rfl, ?_⟩) (by assumption) ?_
          rotate_left 1
          · (rintro w' ⟨f0, f1, f2, f3, f4, f5, f6, f7, _⟩; go_simp; try with_reducible rfl)
          try simp only [Act.put, List.getElem_toArray, List.getElem_cons_succ, List.getElem_cons_zero, List.setIfInBounds_toArray, List.set_cons_zero, List.set_cons_succ]
          refine wpAnyH_takeZ (i := 7) (v := ?_) HNS rfl (by kernel_rfl) (by kernel_rfl) (fun _ _ _ h => h) (Or.inl ⟨by rfl, ?_⟩) (by assumption) ?_
          rotate_left 1
          · (rintro w' ⟨f0, f1, f2, f3, f4, f5, f6, f7, _⟩; go_simp; try with_reducible rfl)
          try simp only [Act.put, List.getElem_toArray, List.getElem_cons_succ, List.getElem_cons_zero, List.setIfInBounds_toArray, List.set_cons_zero, List.set_cons_succ]
          refine wpAnyH_takeZ (i := 8) (v := ?_) HNS rfl (by kernel_rfl) (by kernel_rfl) (fun _ _ _ h => h) (Or.inl ⟨by rfl, ?_⟩) (by assumption) ?_
          rotate_left 1
          · (rintro w' ⟨f0, f1, f2, f3, f4, f5, f6, f7, _⟩; go_simp; try with_reducible rfl)
          try simp only [Act.put, List.getElem_toArray, List.getElem_cons_succ, List.getElem_cons_zero, List.setIfInBounds_toArray, List.set_cons_zero, List.set_cons_succ]
          refine wpAnyH_takeZ (i := 9) (v := ?_) HNS rfl (by kernel_rfl) (by kernel_rfl) (fun _ _ _ h => h) (Or.inl ⟨by rfl, ?_⟩) (by assumption) ?_
          rotate_left 1
          · (rintro w' ⟨f0, f1, f2, f3, f4, f5, f6, f7, _⟩; go_simp; try with_reducible rfl)
          try simp only [Act.put, List.getElem_toArray, List.getElem_cons_succ, List.getElem_cons_zero, List.setIfInBounds_toArray, List.set_cons_zero, List.set_cons_succ]
          refine wpAnyH_takeZ (i := 10) (v := ?_) HNS rfl (by kernel_rfl) (by kernel_rfl) (fun _ _ _ h => h) (Or.inl ⟨by rfl, ?_⟩) (by assumption) ?_
          rotate_left 1
          · (rintro w' ⟨f0, f1, f2, f3, f4, f5, f6, f7, _⟩; go_simp; try with_reducible rfl)
          try simp only [Act.put, List.getElem_toArray, List.getElem_cons_succ, List.getElem_cons_zero, List.setIfInBounds_toArray, List.set_cons_zero, List.set_cons_succ]
          refine wpAnyH_takeZ (i := 11) (v := ?_) HNS rfl (by kernel_rfl) (by kernel_rfl) (fun _ _ _ h => h) (Or.inl ⟨by rfl, ?_⟩) (by assumption) ?_
          rotate_left 1
          · (rintro w' ⟨f0, f1, f2, f3, f4, f5, f6, f7, _⟩; go_simp; try with_reducible rfl)
          try simp only [Act.put, List.getElem_toArray, List.getElem_cons_succ, List.getElem_cons_zero, List.setIfInBounds_toArray, List.set_cons_zero, List.set_cons_succ]
          refine wpAnyH_takeZ (i := 12) (v := ?_) HNS rfl (by kernel_rfl) (by kernel_rfl) (fun _ _ _ h => h) (Or.inl ⟨by rfl, ?_⟩) (by assumption) ?_
          rotate_left 1
          · (rintro w' ⟨f0, f1, f2, f3, f4, f5, f6, f7, _⟩; go_simp; try with_reducible rfl)
          try simp only [Act.put, List.getElem_toArray, List.getElem_cons_succ, List.getElem_cons_zero, List.setIfInBounds_toArray, List.set_cons_zero, List.set_cons_succ]
          refine wpAnyH_takeZ (i := 13) (v := ?_) HNS rfl (by kernel_rfl) (by kernel_rfl) (fun _ _ _ h => h) (Or.inl ⟨by rfl, ?_⟩) (by assumption) ?_
          rotate_left 1
          · (rintro w' ⟨f0, f1, f2, f3, f4, f5, f6, f7, _⟩; go_simp; try with_reducible rfl)
          try simp only [Act.put, List.getElem_toArray, List.getElem_cons_succ, List.getElem_cons_zero, List.setIfInBounds_toArray, List.set_cons_zero, List.set_cons_succ]
          refine wpAnyH_takeZ (i := 14) (v := ?_) HNS rfl (by kernel_rfl) (by kernel_rfl) (fun _ _ _ h => h) (Or.inl ⟨by rfl, ?_⟩) (by assumption) ?_
          rotate_left 1
          · (rintro w' ⟨f0, f1, f2, f3, f4, f5, f6, f7, _⟩; go_simp; try with_reducible rfl)
          try simp only [Act.put, List.getElem_toArray, List.getElem_cons_succ, List.getElem_cons_zero, List.setIfInBounds_toArray, List.set_cons_zero, List.set_cons_succ]
          refine wpAnyH_takeZ (i := 15) (v := ?_) HNS rfl (by kernel_rfl) (by kernel_rfl) (fun _ _ _ h => h) (Or.inl ⟨by rfl, ?_⟩) (by assumption) ?_
          rotate_left 1
          · (rintro w' ⟨f0, f1, f2, f3, f4, f5, f6, f7, _⟩; go_simp; try with_reducible rfl)
          try simp only [Act.put, List.getElem_toArray, List.getElem_cons_succ, List.getElem_cons_zero, List.setIfInBounds_toArray, List.set_cons_zero, List.set_cons_succ]
          refine wpAnyH_takeZ (i := 16) (v := ?_) HNS rfl (by kernel_rfl) (by kernel_rfl) (fun _ _ _ h => h) (Or.inl ⟨by rfl, ?_⟩) (by assumption) ?_
          rotate_left 1
          · (rintro w' ⟨f0, f1, f2, f3, f4, f5, f6, f7, _⟩; go_simp; try with_reducible rfl)
          try simp only [Act.put, List.getElem_toArray, List.getElem_cons_succ, List.getElem_cons_zero, List.setIfInBounds_toArray, List.set_cons_zero, List.set_cons_succ]
          refine wpAnyH_takeZ (i := 17) (v := ?_) HNS rfl (by kernel_rfl) (by kernel_rfl) (fun _ _ _ h => h) (Or.inl ⟨by rfl, ?_⟩) (by assumption) ?_
          rotate_left 1
          · (rintro w' ⟨f0, f1, f2, f3, f4, f5, f6, f7, _⟩; go_simp; try with_reducible rfl)
          try simp only [Act.put, List.getElem_toArray, List.getElem_cons_succ, List.getElem_cons_zero, List.setIfInBounds_toArray, List.set_cons_zero, List.set_cons_succ]
          refine wpAnyH_takeZ (i := 18) (v := ?_) HNS rfl (by kernel_rfl) (by kernel_rfl) (fun _ _ _ h => h) (Or.inl ⟨by rfl, ?_⟩) (by assumption) ?_
          rotate_left 1
          · (rintro w' ⟨f0, f1, f2, f3, f4, f5, f6, f7, _⟩; go_simp; try with_reducible rfl)
          try simp only [Act.put, List.getElem_toArray, List.getElem_cons_succ, List.getElem_cons_zero, List.setIfInBounds_toArray, List.set_cons_zero, List.set_cons_succ]
          refine wpAnyH_takeZ (i := 19) (v := ?_) HNS rfl (by kernel_rfl) (by kernel_rfl) (fun _ _ _ h => h) (Or.inl ⟨by rfl, ?_⟩) (by assumption) ?_
          rotate_left 1
          · (rintro w' ⟨f0, f1, f2, f3, f4, f5, f6, f7, _⟩; go_simp; try with_reducible rfl)
          try simp only [Act.put, List.getElem_toArray, List.getElem_cons_succ, List.getElem_cons_zero, List.setIfInBounds_toArray, List.set_cons_zero, List.set_cons_succ]
          refine wpAnyH_takeZ (i := 20) (v := ?_) HNS rfl (by kernel_rfl) (by kernel_rfl) (fun _ _ _ h => h) (Or.inl ⟨by rfl, ?_⟩) (by assumption) ?_
          rotate_left 1
          · (rintro w' ⟨f0, f1, f2, f3, f4, f5, f6, f7, _⟩; go_simp; try with_reducible rfl)
          try simp only [Act.put, List.getElem_toArray, List.getElem_cons_succ, List.getElem_cons_zero, List.setIfInBounds_toArray, List.set_cons_zero, List.set_cons_succ]
          refine wpAnyH_readyZ (rs := [21]) (by kernel_rfl) (by simp) ?_
          refine AllReadyH.cons rfl (fun K hK => ?_) AllReadyH.nil
          go_simp
          with_reducible refine (HPN.out _).mono ?_
          rintro e W16 ⟨rfl, hw'⟩
          subst hw'
          refine hK.out _ _ (HK.out _ (ext_refl W15).drew) (fun hHeld => ?_)
          clear hK K
          try simp only [Act.put, List.getElem_toArray, List.getElem_cons_succ, List.getElem_cons_zero, List.setIfInBounds_toArray, List.set_cons_zero, List.set_cons_succ]
          refine wpAnyH_takeZ (i := 22) (v := ?_) HNS rfl (by kernel_rfl) (by kernel_rfl) (fun _ _ _ h => h) (Or.inl ⟨by rfl, ?_⟩) (by assumption) ?_
          rotate_left 1
          · (rintro w' ⟨f0, f1, f2, f3, f4, f5, f6, f7, _⟩; go_simp; try with_reducible rfl)
          try simp only [Act.put, List.getElem_toArray, List.getElem_cons_succ, List.getElem_cons_zero, List.setIfInBounds_toArray, List.set_cons_zero, List.set_cons_succ]
          refine wpAnyH_takeZ (i := 23) (v := ?_) HNS rfl (by kernel_rfl) (by kernel_rfl) (fun _ _ _ h => h) (Or.inl ⟨by rfl, ?_⟩) (by assumption) ?_
          rotate_left 1
          · (rintro w' ⟨f0, f1, f2, f3, f4, f5, f6, f7, _⟩; go_simp; try with_reducible rfl)
          try simp only [Act.put, List.getElem_toArray, List.getElem_cons_succ, List.getElem_cons_zero, List.setIfInBounds_toArray, List.set_cons_zero, List.set_cons_succ]
          refine wpAnyH_takeZ (i := 24) (v := ?_) HNS rfl (by kernel_rfl) (by kernel_rfl) (fun _ _ _ h => h) (Or.inl ⟨by rfl, ?_⟩) (by assumption) ?_
          rotate_left 1
          · (rintro w' ⟨f0, f1, f2, f3, f4, f5, f6, f7, _⟩; go_simp; try with_reducible rfl)
          try simp only [Act.put, List.getElem_toArray, List.getElem_cons_succ, List.getElem_cons_zero, List.setIfInBounds_toArray, List.set_cons_zero, List.set_cons_succ]
          refine wpAnyH_takeZ (i := 25) (v := ?_) HNS rfl (by kernel_rfl) (by kernel_rfl) (fun _ _ _ h => h) (Or.inl ⟨by rfl, ?_⟩) (by assumption) ?_
          rotate_left 1
          · (rintro w' ⟨f0, f1, f2, f3, f4, f5, f6, f7, _⟩; go_simp; try with_reducible rfl)
          try simp only [Act.put, List.getElem_toArray, List.getElem_cons_succ, List.getElem_cons_zero, List.setIfInBounds_toArray, List.set_cons_zero, List.set_cons_succ]
          refine wpAnyH_takeZ (i := 26) (v := ?_) HNS rfl (by kernel_rfl) (by kernel_rfl) (fun _ _ _ h => h) (Or.inl ⟨by rfl, ?_⟩) (by assumption) ?_
          rotate_left 1
          · (rintro w' ⟨f0, f1, f2, f3, f4, f5, f6, f7, _⟩; go_simp; try with_reducible rfl)
          try simp only [Act.put, List.getElem_toArray, List.getElem_cons_succ, List.getElem_cons_zero, List.setIfInBounds_toArray, List.set_cons_zero, List.set_cons_succ]
          refine wpAnyH_takeZ (i := 27) (v := ?_) HNS rfl (by kernel_rfl) (by kernel_rfl) (fun _ _ _ h => h) (Or.inl ⟨by rfl, ?_⟩) (by assumption) ?_
          rotate_left 1
          · (rintro w' ⟨f0, f1, f2, f3, f4, f5, f6, f7, _⟩; go_simp; try with_reducible rfl)
          try simp only [Act.put, List.getElem_toArray, List.getElem_cons_succ, List.getElem_cons_zero, List.setIfInBounds_toArray, List.set_cons_zero, List.set_cons_succ]
          refine wpAnyH_takeZ (i := 28) (v := ?_) HNS rfl (by kernel_rfl) (by kernel_rfl) (fun _ _ _ h => h) (Or.inl ⟨by rfl, ?_⟩) (by assumption) ?_
          rotate_left 1
          · (rintro w' ⟨f0, f1, f2, f3, f4, f5, f6, f7, _⟩; go_simp; try with_reducible rfl)
          try simp only [Act.put, List.getElem_toArray, List.getElem_cons_succ, List.getElem_cons_zero, List.setIfInBounds_toArray, List.set_cons_zero, List.set_cons_succ]
          refine wpAnyH_takeZ (i := 29) (v := ?_) HNS rfl (by kernel_rfl) (by kernel_rfl) (fun _ _ _ h => h) (Or.inl ⟨by rfl, ?_⟩) (by assumption) ?_
          rotate_left 1
          · (rintro w' ⟨f0, f1, f2, f3, f4, f5, f6, f7, _⟩; go_simp; try with_reducible rfl)
          try simp only [Act.put, List.getElem_toArray, List.getElem_cons_succ, List.getElem_cons_zero, List.setIfInBounds_toArray, List.set_cons_zero, List.set_cons_succ]
          refine wpAnyH_readyZ (rs := [30]) (by kernel_rfl) (by simp) ?_
          refine AllReadyH.cons rfl (fun K hK => ?_) AllReadyH.nil
          go_simp
          with_reducible refine (HSA.out _ (ext_refl W15).drew).mono ?_
          rintro e W16 ⟨rfl, hb16⟩
          have hE16 : Below W15.heap.size W15 W16 := ext_call (ext_refl W15).drew hb16
          refine hK.out _ _ (HK.out _ hE16) (fun hHeld => ?_)
          clear hK K
          try simp only [Act.put, List.getElem_toArray, List.getElem_cons_succ, List.getElem_cons_zero, List.setIfInBounds_toArray, List.set_cons_zero, List.set_cons_succ]
          refine wpAnyH_takeZ (i := 31) (v := ?_) HNS rfl (by kernel_rfl) (by kernel_rfl) (fun _ _ _ h => h) (Or.inl ⟨by rfl, ?_⟩) (by assumption) ?_
          rotate_left 1
          · (rintro w' ⟨f0, f1, f2, f3, f4, f5, f6, f7, _⟩; go_simp; try with_reducible rfl)
          try simp only [Act.put, List.getElem_toArray, List.getElem_cons_succ, List.getElem_cons_zero, List.setIfInBounds_toArray, List.set_cons_zero, List.set_cons_succ]
          refine wpAnyH_takeZ (i := 32) (v := ?_) HNS rfl (by kernel_rfl) (by kernel_rfl) (fun _ _ _ h => h) (Or.inl ⟨by rfl, ?_⟩) (by assumption) ?_
          rotate_left 1
          · (rintro w' ⟨f0, f1, f2, f3, f4, f5, f6, f7, _⟩; go_simp; try with_reducible rfl)
          try simp only [Act.put, List.getElem_toArray, List.getElem_cons_succ, List.getElem_cons_zero, List.setIfInBounds_toArray, List.set_cons_zero, List.set_cons_succ]
          refine wpAnyH_takeZ (i := 33) (v := ?_) HNS rfl (by kernel_rfl) (by kernel_rfl) (fun _ _ _ h => h) (Or.inl ⟨by rfl, ?_⟩) (by assumption) ?_
          rotate_left 1
          · (rintro w' ⟨f0, f1, f2, f3, f4, f5, f6, f7, _⟩; go_simp; try with_reducible rfl)
          try simp only [Act.put, List.getElem_toArray, List.getElem_cons_succ, List.getElem_cons_zero, List.setIfInBounds_toArray, List.set_cons_zero, List.set_cons_succ]
          refine wpAnyH_takeZ (i := 34) (v := ?_) HNS rfl (by kernel_rfl) (by kernel_rfl) (fun _ _ _ h => h) (Or.inl ⟨by rfl, ?_⟩) (by assumption) ?_
          rotate_left 1
          · (rintro w' ⟨f0, f1, f2, f3, f4, f5, f6, f7, _⟩; go_simp; try with_reducible rfl)
          try simp only [Act.put, List.getElem_toArray, List.getElem_cons_succ, List.getElem_cons_zero, List.setIfInBounds_toArray, List.set_cons_zero, List.set_cons_succ]
          refine wpAnyH_takeZ (i := 35) (v := ?_) HNS rfl (by kernel_rfl) (by kernel_rfl) (fun _ _ _ h => h) (Or.inl ⟨by rfl, ?_⟩) (by assumption) ?_
          rotate_left 1
          · (rintro w' ⟨f0, f1, f2, f3, f4, f5, f6, f7, _⟩; go_simp; try with_reducible rfl)
          try simp only [Act.put, List.getElem_toArray, List.getElem_cons_succ, List.getElem_cons_zero, List.setIfInBounds_toArray, List.set_cons_zero, List.set_cons_succ]
          refine wpAnyH_takeZ (i := 36) (v := ?_) HNS rfl (by kernel_rfl) (by kernel_rfl) (fun _ _ _ h => h) (Or.inl ⟨by rfl, ?_⟩) (by assumption) ?_
          rotate_left 1
          · (rintro w' ⟨f0, f1, f2, f3, f4, f5, f6, f7, _⟩; go_simp; try with_reducible rfl)
          try simp only [Act.put, List.getElem_toArray, List.getElem_cons_succ, List.getElem_cons_zero, List.setIfInBounds_toArray, List.set_cons_zero, List.set_cons_succ]
          refine wpAnyH_takeZ (i := 37) (v := ?_) HNS rfl (by kernel_rfl) (by kernel_rfl) (fun _ _ _ h => h) (Or.inl ⟨by rfl, ?_⟩) (by assumption) ?_
          rotate_left 1
          · (rintro w' ⟨f0, f1, f2, f3, f4, f5, f6, f7, _⟩; go_simp; try with_reducible rfl)
          try simp only [Act.put, List.getElem_toArray, List.getElem_cons_succ, List.getElem_cons_zero, List.setIfInBounds_toArray, List.set_cons_zero, List.set_cons_succ]
          refine wpAnyH_takeZ (i := 38) (v := ?_) HNS rfl (by kernel_rfl) (by kernel_rfl) (fun _ _ _ h => h) (Or.inl ⟨by rfl, ?_⟩) (by assumption) ?_
          rotate_left 1
          · (rintro w' ⟨f0, f1, f2, f3, f4, f5, f6, f7, _⟩; go_simp; try with_reducible rfl)
          try simp only [Act.put, List.getElem_toArray, List.getElem_cons_succ, List.getElem_cons_zero, List.setIfInBounds_toArray, List.set_cons_zero, List.set_cons_succ]
          refine wpAnyH_takeZ (i := 39) (v := ?_) HNS rfl (by kernel_rfl) (by kernel_rfl) (fun _ _ _ h => h) (Or.inl ⟨by rfl, ?_⟩) (by assumption) ?_
          rotate_left 1
          · (rintro w' ⟨f0, f1, f2, f3, f4, f5, f6, f7, _⟩; go_simp; try with_reducible rfl)
          try simp only [Act.put, List.getElem_toArray, List.getElem_cons_succ, List.getElem_cons_zero, List.setIfInBounds_toArray, List.set_cons_zero, List.set_cons_succ]
          refine wpAnyH_takeZ (i := 40) (v := undef) HNS rfl (by kernel_rfl) (by kernel_rfl) (fun _ _ _ h => h) (Or.inr ⟨by rfl, rfl⟩) (by assumption) ?_
          try simp only [Act.put, List.getElem_toArray, List.getElem_cons_succ, List.getElem_cons_zero, List.setIfInBounds_toArray, List.set_cons_zero, List.set_cons_succ]
          refine wpAnyH_takeZ (i := 41) (v := undef) HNS rfl (by kernel_rfl) (by kernel_rfl) (fun _ _ _ h => h) (Or.inr ⟨by rfl, rfl⟩) (by assumption) ?_
          try simp only [Act.put, List.getElem_toArray, List.getElem_cons_succ, List.getElem_cons_zero, List.setIfInBounds_toArray, List.set_cons_zero, List.set_cons_succ]
          refine wpAnyH_takeZ (i := 42) (v := undef) HNS rfl (by kernel_rfl) (by kernel_rfl) (fun _ _ _ h => h) (Or.inr ⟨by rfl, rfl⟩) (by assumption) ?_
          try simp only [Act.put, List.getElem_toArray, List.getElem_cons_succ, List.getElem_cons_zero, List.setIfInBounds_toArray, List.set_cons_zero, List.set_cons_succ]
          refine wpAnyH_takeZ (i := 43) (v := ?_) HNS rfl (by kernel_rfl) (by kernel_rfl) (fun _ _ _ h => h) (Or.inl ⟨by rfl, ?_⟩) (by assumption) ?_
          rotate_left 1
          · (rintro w' ⟨f0, f1, f2, f3, f4, f5, f6, f7, _⟩; go_simp; try with_reducible rfl)
          try simp only [Act.put, List.getElem_toArray, List.getElem_cons_succ, List.getElem_cons_zero, List.setIfInBounds_toArray, List.set_cons_zero, List.set_cons_succ]
          refine wpAnyH_takeZ (i := 44) (v := ?_) HNS rfl (by kernel_rfl) (by kernel_rfl) (fun _ _ _ h => h) (Or.inl ⟨by rfl, ?_⟩) (by assumption) ?_
          rotate_left 1
          · (rintro w' ⟨f0, f1, f2, f3, f4, f5, f6, f7, _⟩; go_simp; try with_reducible rfl)
          try simp only [Act.put, List.getElem_toArray, List.getElem_cons_succ, List.getElem_cons_zero, List.setIfInBounds_toArray, List.set_cons_zero, List.set_cons_succ]
          refine wpAnyH_done (by kernel_rfl) ?_ _
          go_wp2_with fail
          go_meet
          case rel => exact ⟨rfl, hE16⟩
        · have hlt := hlt.out
          have h2lt : ea ≤ ep := by omega
          obtain ⟨x0, x1, x2⟩ := bcells3 HW15.out
          go_quiet (fail)
          go_wp2_with fail
          go_meet
          case rel => exact ⟨rfl, ext_drewN (ext_refl W15) _⟩
      case rest =>
        obtain ⟨rfl, hx⟩ := hcut
        generalize wc = W16 at *
        have HS16 := Lib.hid (HS15.out.ext hx)
        have HDM16 := Lib.hid (HDM15.out.ext hx)
        have HDO16 := Lib.hid (HDO15.out.ext hx)
        have HMW16 := Lib.hid (HMW15.out.ext hx)
        have HOW16 := Lib.hid (HOW15.out.ext hx)
        have HT16 := Lib.hid (HT15.out.ext hx)
        have HW16 := Lib.hid (HW15.out.ext hx)
        have HE16 := Lib.hid (ext_call HE15.out hx)
        clear hx HOR HS15 HDM15 HDO15 HMW15 HOW15 HT15 HW15 HE15 HPN
        go_wp2_with fail
        refine (nilCommit _).mono ?_
        rintro e w' ⟨rfl, hw'⟩
        subst w'
        go_wp2_with fail
        refine (nilHead _).mono ?_
        rintro e W17 ⟨rfl, hb17⟩
        have HX17 := Lib.hid hb17
        have HZ := Lib.hid (Blk.new W17 86 #[.int .i64 0, .string ⟨#[]⟩, .string ⟨#[]⟩])
        clear hb17
        go_wp2_with (refine store_head rfl (.tmp 23) (.tmp 150) rfl W17.heap.size #[.int .i64 0, .string ⟨#[]⟩, .string ⟨#[]⟩] rfl (by simp [Value.oneCell']) rfl rfl _ HZ.out rfl ?_; intro W18 hB9 hg9; have HB18 := Lib.hid (ext_put3 rfl hg9 rfl); clear hB9 hg9 HZ)
        have HX18 := Lib.hid (ext_call HX17.out HB18.out)
        refine (nilState _).mono ?_
        rintro e w' ⟨rfl, hw'⟩
        subst w'
        go_wp2_with fail
        refine (nilProve _).mono ?_
        rintro e w' ⟨rfl, hw'⟩
        subst w'
        go_wp2_with fail
        refine (nilExt _).mono ?_
        rintro e w' ⟨rfl, hw'⟩
        subst w'
        have HS18 := Lib.hid (HS16.out.ext HX18.out)
        have HDM18 := Lib.hid (HDM16.out.ext HX18.out)
        have HDO18 := Lib.hid (HDO16.out.ext HX18.out)
        have HMW18 := Lib.hid (HMW16.out.ext HX18.out)
        have HOW18 := Lib.hid (HOW16.out.ext HX18.out)
        have HT18 := Lib.hid (HT16.out.ext HX18.out)
        have HW18 := Lib.hid (HW16.out.ext HX18.out)
        have HE18 := Lib.hid (ext_call HE16.out HX18.out)
        clear HS16 HDM16 HDO16 HMW16 HOW16 HT16 HW16 HE16 HX17 HX18 HB18
        go_wp2_with fail
        by_cases h0 : lag < 0
        · refine ringsEndLow lag h0 w W18 _ _ gs gl gst gn gp nm cm no co bw b13 _ _ _ _ _ _ _ _ ea ea Am Ao _ _ _ _ nsa osa _ _ _ _ _ _ _ _ _ _ _ _ _ _ _ _ _ _ _ _ _ _ _ _ _ _ _ _ _ _ _ _ _ _ _ _ _ _ _ _ _ _ _ _ _ _ _ _ _ _ _ _ _ _ _ _ _ _ _ _ _ _ _ _ _ _ _ _ _ _ _ _ _ _ _ _ _ _ _ _ _ _ _ _ _ _ _ _ _ _ _ _ _ _ _ _ _ _ _ _ _ _ _ _ _ _ _ _ _ _ _ _ _ _ _ _ _ _ _ _ _ _ _ _ _ _ _ _ _ _ _ _ _ _ _ _ _ _ _ _ _ _ _ _ _ _ _ _ _ _ _ _ _ _ _ _ _ _ _ _ _ _ _ _ _ _ _ _ _ _ _ _ _ _ _ _ _ _ _ _ _ _ _ _ _ _ _ _ _ _ _ _ _ _ _ _ _ _ _ _ _ _ _ _ _ _ _ _ _ _ _ _ _ _ _ _ _ _ _ _ _ _ _ _ _ _ _ _ _ _ _ _ _ _ _ _ _ _ _ _ _ _ _ _ _ _ _ _ _ _ _ _ _ _ _ HE18.out HN.out.1 HS18.out HDM18.out HDO18.out HMW18.out HOW18.out HT18.out HW18.out HLA.out.1 HNA.out ?_
          intros
          rename_i w9 hb9
          go_wp2
          go_ret
          exact ⟨rfl, hb9⟩
        · have h0 : 0 ≤ lag := by omega
          by_cases h1 : 10000 < lag
          · refine ringsEndHigh lag h0 h1 w W18 _ _ gs gl gst gn gp nm cm no co bw b13 _ _ _ _ _ _ _ _ ea ea Am Ao _ _ _ _ nsa osa _ _ _ _ _ _ _ _ _ _ _ _ _ _ _ _ _ _ _ _ _ _ _ _ _ _ _ _ _ _ _ _ _ _ _ _ _ _ _ _ _ _ _ _ _ _ _ _ _ _ _ _ _ _ _ _ _ _ _ _ _ _ _ _ _ _ _ _ _ _ _ _ _ _ _ _ _ _ _ _ _ _ _ _ _ _ _ _ _ _ _ _ _ _ _ _ _ _ _ _ _ _ _ _ _ _ _ _ _ _ _ _ _ _ _ _ _ _ _ _ _ _ _ _ _ _ _ _ _ _ _ _ _ _ _ _ _ _ _ _ _ _ _ _ _ _ _ _ _ _ _ _ _ _ _ _ _ _ _ _ _ _ _ _ _ _ _ _ _ _ _ _ _ _ _ _ _ _ _ _ _ _ _ _ _ _ _ _ _ _ _ _ _ _ _ _ _ _ _ _ _ _ _ _ _ _ _ _ _ _ _ _ _ _ _ _ _ _ _ _ _ _ _ _ _ _ _ _ _ _ _ _ _ _ _ _ _ _ _ _ _ _ _ _ _ _ _ _ _ _ _ _ _ _ _ HE18.out HN.out.1 HS18.out HDM18.out HDO18.out HMW18.out HOW18.out HT18.out HW18.out HLA.out.1 HNA.out ?_
            intros
            rename_i w9 hb9
            go_wp2
            go_ret
            exact ⟨rfl, hb9⟩
          · have h1 : lag ≤ 10000 := by omega
            refine ringsEndOk lag h0 h1 w W18 _ _ gs gl gst gn gp nm cm no co bw b13 _ _ _ _ _ _ _ _ ea ea Am Ao _ _ _ _ nsa osa _ _ _ _ _ _ _ _ _ _ _ _ _ _ _ _ _ _ _ _ _ _ _ _ _ _ _ _ _ _ _ _ _ _ _ _ _ _ _ _ _ _ _ _ _ _ _ _ _ _ _ _ _ _ _ _ _ _ _ _ _ _ _ _ _ _ _ _ _ _ _ _ _ _ _ _ _ _ _ _ _ _ _ _ _ _ _ _ _ _ _ _ _ _ _ _ _ _ _ _ _ _ _ _ _ _ _ _ _ _ _ _ _ _ _ _ _ _ _ _ _ _ _ _ _ _ _ _ _ _ _ _ _ _ _ _ _ _ _ _ _ _ _ _ _ _ _ _ _ _ _ _ _ _ _ _ _ _ _ _ _ _ _ _ _ _ _ _ _ _ _ _ _ _ _ _ _ _ _ _ _ _ _ _ _ _ _ _ _ _ _ _ _ _ _ _ _ _ _ _ _ _ _ _ _ _ _ _ _ _ _ _ _ _ _ _ _ _ _ _ _ _ _ _ _ _ _ _ _ _ _ _ _ _ _ _ _ _ _ _ _ _ _ _ _ _ _ _ _ _ _ _ _ _ _ HE18.out HN.out.1 HS18.out HDM18.out HDO18.out HMW18.out HOW18.out HT18.out HW18.out HLA.out.1 HNA.out ?_
            intros
            rename_i w9 hb9
            go_wp2
            go_ret
            exact ⟨rfl, hb9⟩

end Go.Proofs.YtbgfmbmcabekeaaGreatDoor
