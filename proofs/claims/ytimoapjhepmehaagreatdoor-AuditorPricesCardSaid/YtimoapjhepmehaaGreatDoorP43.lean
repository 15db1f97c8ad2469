/-
  package auditor: Check, At, Settle over any heads, an answer to a query for a row.
-/
import Derived.Test.YtimoapjhepmehaaGreatDoorP23
import Derived.Test.YtimoapjhepmehaaGreatDoorP42
import Derived.BigRegion
import Derived.Deep.RegionHeld3
set_option linter.unusedSimpArgs false
set_option linter.unusedVariables false
set_option maxHeartbeats 4000000
set_option maxRecDepth 100000
namespace Go.Proofs.YtimoapjhepmehaaGreatDoor
open Go.RowKit Go.Shelf
attribute [local go_sem ↓] Go.wp_at_zero Go.wp_at_succ
theorem audCheckI (ga gm:Nat) (n:Int) (r:ByteArray) (kv:List (Int × Value)) (ca sa cb sb:ByteArray) (t k si:Int) (un base:Nat) (Au Ar Al:Option Addr) (nu cu cr nl cl:Nat) (b:Bool) (w:World) (h:AudI w ga gm n r kv) (h1:getI kv (base:Int)=some (headV base (ca,sa))) (h2:getI kv (un:Int)=some (headV un (cb,sb)))
    (hC:∀ W:World,Below w.heap.size w W→Calls Tryz.prog 31 #[.agg #[.int .i64 (base:Int),.string ca,.string sa],.agg #[.int .i64 (un:Int),.string cb,.string sb],.agg #[.int .i64 1,.int .i64 t,.int .i64 0,.int .i64 k,.int .i64 k,.int .i64 0,.int .i64 0,.slice Au nu cu,.int .i64 0,.bool false,.int .i64 si,.int .i64 (un:Int),.int .i64 (base:Int),.slice Ar 1 cr,.slice Al nl cl]] W fun e w'=>e=.returned (.bool b)∧Below W.heap.size W w') :
    Calls Tryz.prog 13 #[.pointer (some ⟨ga,0,none⟩),.agg #[.int .i64 1,.int .i64 t,.int .i64 0,.int .i64 k,.int .i64 k,.int .i64 0,.int .i64 0,.slice Au nu cu,.int .i64 0,.bool false,.int .i64 si,.int .i64 (un:Int),.int .i64 (base:Int),.slice Ar 1 cr,.slice Al nl cl]] w fun e w'=>e=.returned (.bool b)∧Below w.heap.size w w':=by
  have hmf:∀ (fn:Fn) (first cap:Array Value) (w:World),(Instr.makeFunc fn first cap).run Tryz.prog w=.ok (.func fn first cap) w:=fun _ _ _ _=>rfl
  obtain ⟨X,hX⟩:∃ X,X=(w.alloc (.cells #[.pointer (some ⟨ga,0,none⟩)] 43)).alloc (.cells #[.int .i64 1,.int .i64 t,.int .i64 0,.int .i64 k,.int .i64 k,.int .i64 0,.int .i64 0,.slice Au nu cu,.int .i64 0,.bool false,.int .i64 si,.int .i64 (un:Int),.int .i64 (base:Int),.slice Ar 1 cr,.slice Al nl cl] 39):=⟨_,rfl⟩
  have hE:Below w.heap.size w X:=by rw [hX];exact ext_alloc (ext_new _ _) _
  have hBx:Blk X w.heap.size 43 #[.pointer (some ⟨ga,0,none⟩)]:=by rw [hX];exact (Blk.new _ _ _).alloc _
  have HBa:=Lib.hid (show Blk X (w.heap.size+1) 39 #[.int .i64 1,.int .i64 t,.int .i64 0,.int .i64 k,.int .i64 k,.int .i64 0,.int .i64 0,.slice Au nu cu,.int .i64 0,.bool false,.int .i64 si,.int .i64 (un:Int),.int .i64 (base:Int),.slice Ar 1 cr,.slice Al nl cl] by rw [hX];exact Blk.new' _ _ _ (by simp))
  have HF1:=Lib.hid (show ∀ W:World,Below X.heap.size X W→Calls Tryz.prog 30 #[.int .i64 (base:Int),.pointer (some ⟨w.heap.size,0,none⟩)] W fun e w'=>e=.returned (.agg #[.int .i64 (base:Int),.string ca,.string sa])∧Below W.heap.size W w' from
    fun W k=>findI2 ga gm w.heap.size base n r kv ca sa W ((h.ext hE).ext k) h1 (hBx.ext k))
  have HF2:=Lib.hid (show ∀ W:World,Below X.heap.size X W→Calls Tryz.prog 30 #[.int .i64 (un:Int),.pointer (some ⟨w.heap.size,0,none⟩)] W fun e w'=>e=.returned (.agg #[.int .i64 (un:Int),.string cb,.string sb])∧Below W.heap.size W w' from
    fun W k=>findI2 ga gm w.heap.size un n r kv cb sb W ((h.ext hE).ext k) h2 (hBx.ext k))
  have HC:=Lib.hid (fun (W:World) (k:Below X.heap.size X W)=>hC W (ext_call hE k))
  have HK:=Lib.hid (an15Keep HBa.out (ext_refl X))
  have HE:=Lib.hid hE
  have HX:=Lib.hid hX
  clear h hE hBx hX hC h1 h2
  go_enter Tryz.func13,Tryz.ntmps13
  go_wp2_with fail
  rw [← HX.out]
  go_region_held3 (fun w'=>w'.cell? ⟨w.heap.size+1,0,none⟩=some (.int .i64 1)∧w'.cell? ⟨w.heap.size+1,1,none⟩=some (.int .i64 t)∧w'.cell? ⟨w.heap.size+1,2,none⟩=some (.int .i64 0)∧w'.cell? ⟨w.heap.size+1,3,none⟩=some (.int .i64 k)∧w'.cell? ⟨w.heap.size+1,4,none⟩=some (.int .i64 k)∧w'.cell? ⟨w.heap.size+1,5,none⟩=some (.int .i64 0)∧w'.cell? ⟨w.heap.size+1,6,none⟩=some (.int .i64 0)∧w'.cell? ⟨w.heap.size+1,7,none⟩=some (.slice Au nu cu)∧w'.cell? ⟨w.heap.size+1,8,none⟩=some (.int .i64 0)∧w'.cell? ⟨w.heap.size+1,9,none⟩=some (.bool false)∧w'.cell? ⟨w.heap.size+1,10,none⟩=some (.int .i64 si)∧w'.cell? ⟨w.heap.size+1,11,none⟩=some (.int .i64 (un:Int))∧w'.cell? ⟨w.heap.size+1,12,none⟩=some (.int .i64 (base:Int))∧w'.cell? ⟨w.heap.size+1,13,none⟩=some (.slice Ar 1 cr)∧w'.cell? ⟨w.heap.size+1,14,none⟩=some (.slice Al nl cl)∧Below X.heap.size X w')
    (first|with_reducible assumption|exact an15Keep HBa.out (by repeat (first|with_reducible refine ext_alloc ?_ _|with_reducible refine Below.drew ?_|with_reducible refine ext_drewN ?_ _|with_reducible assumption|with_reducible exact ext_refl _)))
    (first
      | (go_at_call 30;(with_reducible refine (HF1.out _ ?_).mono ?_);(exact an15B (by assumption));rintro e Z ⟨rfl,hb'⟩;have hXZ:=ext_call (an15B (by assumption)) hb';clear hb')
      | (go_at_call 30;(with_reducible refine (HF2.out _ ?_).mono ?_);(exact an15B (by assumption));rintro e Z ⟨rfl,hb'⟩;have hXZ:=ext_call (an15B (by assumption)) hb';clear hb')
      | (go_at_call 31;(with_reducible refine (HC.out _ ?_).mono ?_);(exact an15B (by assumption));rintro e Z ⟨rfl,hb'⟩;have hXZ:=ext_call (an15B (by assumption)) hb';clear hb'))
  all_goals
    have HZ:=Lib.hid (ext_call HE.out hXZ)
    clear hXZ
    go_wp2
    go_ret
    exact ⟨rfl,HZ.out⟩
theorem audCheckI0 (ga gm:Nat) (n:Int) (r:ByteArray) (kv:List (Int × Value)) (t k si:Int) (un base:Nat) (Au Ar Al:Option Addr) (nu cu cr nl cl:Nat) (w:World) (h:AudI w ga gm n r kv) (h1:getI kv (base:Int)=none) (h2:getI kv (un:Int)=none)
    (hC:∀ W:World,Below w.heap.size w W→Calls Tryz.prog 31 #[.agg #[.int .i64 (-1),.string ⟨#[]⟩,.string ⟨#[]⟩],.agg #[.int .i64 (-1),.string ⟨#[]⟩,.string ⟨#[]⟩],.agg #[.int .i64 1,.int .i64 t,.int .i64 0,.int .i64 k,.int .i64 k,.int .i64 0,.int .i64 0,.slice Au nu cu,.int .i64 0,.bool false,.int .i64 si,.int .i64 (un:Int),.int .i64 (base:Int),.slice Ar 1 cr,.slice Al nl cl]] W fun e w'=>e=.returned (.bool false)∧Below W.heap.size W w') :
    Calls Tryz.prog 13 #[.pointer (some ⟨ga,0,none⟩),.agg #[.int .i64 1,.int .i64 t,.int .i64 0,.int .i64 k,.int .i64 k,.int .i64 0,.int .i64 0,.slice Au nu cu,.int .i64 0,.bool false,.int .i64 si,.int .i64 (un:Int),.int .i64 (base:Int),.slice Ar 1 cr,.slice Al nl cl]] w fun e w'=>e=.returned (.bool false)∧Below w.heap.size w w':=by
  have hmf:∀ (fn:Fn) (first cap:Array Value) (w:World),(Instr.makeFunc fn first cap).run Tryz.prog w=.ok (.func fn first cap) w:=fun _ _ _ _=>rfl
  obtain ⟨X,hX⟩:∃ X,X=(w.alloc (.cells #[.pointer (some ⟨ga,0,none⟩)] 43)).alloc (.cells #[.int .i64 1,.int .i64 t,.int .i64 0,.int .i64 k,.int .i64 k,.int .i64 0,.int .i64 0,.slice Au nu cu,.int .i64 0,.bool false,.int .i64 si,.int .i64 (un:Int),.int .i64 (base:Int),.slice Ar 1 cr,.slice Al nl cl] 39):=⟨_,rfl⟩
  have hE:Below w.heap.size w X:=by rw [hX];exact ext_alloc (ext_new _ _) _
  have hBx:Blk X w.heap.size 43 #[.pointer (some ⟨ga,0,none⟩)]:=by rw [hX];exact (Blk.new _ _ _).alloc _
  have HBa:=Lib.hid (show Blk X (w.heap.size+1) 39 #[.int .i64 1,.int .i64 t,.int .i64 0,.int .i64 k,.int .i64 k,.int .i64 0,.int .i64 0,.slice Au nu cu,.int .i64 0,.bool false,.int .i64 si,.int .i64 (un:Int),.int .i64 (base:Int),.slice Ar 1 cr,.slice Al nl cl] by rw [hX];exact Blk.new' _ _ _ (by simp))
  have HF1:=Lib.hid (show ∀ W:World,Below X.heap.size X W→Calls Tryz.prog 30 #[.int .i64 (base:Int),.pointer (some ⟨w.heap.size,0,none⟩)] W fun e w'=>e=.returned (.agg #[.int .i64 (-1),.string ⟨#[]⟩,.string ⟨#[]⟩])∧Below W.heap.size W w' from
    fun W k=>findI1 ga gm w.heap.size base n r kv W ((h.ext hE).ext k) h1 (hBx.ext k))
  have HF2:=Lib.hid (show ∀ W:World,Below X.heap.size X W→Calls Tryz.prog 30 #[.int .i64 (un:Int),.pointer (some ⟨w.heap.size,0,none⟩)] W fun e w'=>e=.returned (.agg #[.int .i64 (-1),.string ⟨#[]⟩,.string ⟨#[]⟩])∧Below W.heap.size W w' from
    fun W k=>findI1 ga gm w.heap.size un n r kv W ((h.ext hE).ext k) h2 (hBx.ext k))
  have HC:=Lib.hid (fun (W:World) (k:Below X.heap.size X W)=>hC W (ext_call hE k))
  have HK:=Lib.hid (an15Keep HBa.out (ext_refl X))
  have HE:=Lib.hid hE
  have HX:=Lib.hid hX
  clear h hE hBx hX hC h1 h2
  go_enter Tryz.func13,Tryz.ntmps13
  go_wp2_with fail
  rw [← HX.out]
  go_region_held3 (fun w'=>w'.cell? ⟨w.heap.size+1,0,none⟩=some (.int .i64 1)∧w'.cell? ⟨w.heap.size+1,1,none⟩=some (.int .i64 t)∧w'.cell? ⟨w.heap.size+1,2,none⟩=some (.int .i64 0)∧w'.cell? ⟨w.heap.size+1,3,none⟩=some (.int .i64 k)∧w'.cell? ⟨w.heap.size+1,4,none⟩=some (.int .i64 k)∧w'.cell? ⟨w.heap.size+1,5,none⟩=some (.int .i64 0)∧w'.cell? ⟨w.heap.size+1,6,none⟩=some (.int .i64 0)∧w'.cell? ⟨w.heap.size+1,7,none⟩=some (.slice Au nu cu)∧w'.cell? ⟨w.heap.size+1,8,none⟩=some (.int .i64 0)∧w'.cell? ⟨w.heap.size+1,9,none⟩=some (.bool false)∧w'.cell? ⟨w.heap.size+1,10,none⟩=some (.int .i64 si)∧w'.cell? ⟨w.heap.size+1,11,none⟩=some (.int .i64 (un:Int))∧w'.cell? ⟨w.heap.size+1,12,none⟩=some (.int .i64 (base:Int))∧w'.cell? ⟨w.heap.size+1,13,none⟩=some (.slice Ar 1 cr)∧w'.cell? ⟨w.heap.size+1,14,none⟩=some (.slice Al nl cl)∧Below X.heap.size X w')
    (first|with_reducible assumption|exact an15Keep HBa.out (by repeat (first|with_reducible refine ext_alloc ?_ _|with_reducible refine Below.drew ?_|with_reducible refine ext_drewN ?_ _|with_reducible assumption|with_reducible exact ext_refl _)))
    (first
      | (go_at_call 30;(with_reducible refine (HF1.out _ ?_).mono ?_);(exact an15B (by assumption));rintro e Z ⟨rfl,hb'⟩;have hXZ:=ext_call (an15B (by assumption)) hb';clear hb')
      | (go_at_call 30;(with_reducible refine (HF2.out _ ?_).mono ?_);(exact an15B (by assumption));rintro e Z ⟨rfl,hb'⟩;have hXZ:=ext_call (an15B (by assumption)) hb';clear hb')
      | (go_at_call 31;(with_reducible refine (HC.out _ ?_).mono ?_);(exact an15B (by assumption));rintro e Z ⟨rfl,hb'⟩;have hXZ:=ext_call (an15B (by assumption)) hb';clear hb'))
  all_goals
    have HZ:=Lib.hid (ext_call HE.out hXZ)
    clear hXZ
    go_wp2
    go_ret
    exact ⟨rfl,HZ.out⟩
theorem checkNoG (t k si:Int) (un base:Nat) (Au Ar Al:Option Addr) (nu cu cr nl cl:Nat) (w:World) :
    Calls Tryz.prog 31 #[.agg #[.int .i64 (-1),.string ⟨#[]⟩,.string ⟨#[]⟩],.agg #[.int .i64 (-1),.string ⟨#[]⟩,.string ⟨#[]⟩],.agg #[.int .i64 1,.int .i64 t,.int .i64 0,.int .i64 k,.int .i64 k,.int .i64 0,.int .i64 0,.slice Au nu cu,.int .i64 0,.bool false,.int .i64 si,.int .i64 (un:Int),.int .i64 (base:Int),.slice Ar 1 cr,.slice Al nl cl]] w fun e w'=>e=.returned (.bool false)∧Below w.heap.size w w':=by
  have hb:((-1:Int) == (base:Int))=false:=by rw [beq_eq_false_iff_ne];omega
  go_enter Tryz.func31,Tryz.ntmps31
  go_wp2
  go_ret
  exact ⟨rfl,ext_alloc (ext_alloc (ext_new _ _) _) _⟩
theorem audAtI (ga:Nat) (t k si:Int) (un base:Nat) (Au Ar Al:Option Addr) (nu cu cr nl cl:Nat) (p:Int) (b:Bool) (hp1:si≤p) (hp2:p≤(un:Int)) (w:World)
    (hC:∀ W:World,Below w.heap.size w W→Calls Tryz.prog 13 #[.pointer (some ⟨ga,0,none⟩),.agg #[.int .i64 1,.int .i64 t,.int .i64 0,.int .i64 k,.int .i64 k,.int .i64 0,.int .i64 0,.slice Au nu cu,.int .i64 0,.bool false,.int .i64 si,.int .i64 (un:Int),.int .i64 (base:Int),.slice Ar 1 cr,.slice Al nl cl]] W fun e w'=>e=.returned (.bool b)∧Below W.heap.size W w') :
    Calls Tryz.prog 14 #[.pointer (some ⟨ga,0,none⟩),.agg #[.int .i64 1,.int .i64 t,.int .i64 0,.int .i64 k,.int .i64 k,.int .i64 0,.int .i64 0,.slice Au nu cu,.int .i64 0,.bool false,.int .i64 si,.int .i64 (un:Int),.int .i64 (base:Int),.slice Ar 1 cr,.slice Al nl cl],.int .i64 p] w fun e w'=>e=.returned (.bool b)∧Below w.heap.size w w':=by
  have HE:=Lib.hid (ext_new w (.cells #[.int .i64 1,.int .i64 t,.int .i64 0,.int .i64 k,.int .i64 k,.int .i64 0,.int .i64 0,.slice Au nu cu,.int .i64 0,.bool false,.int .i64 si,.int .i64 (un:Int),.int .i64 (base:Int),.slice Ar 1 cr,.slice Al nl cl] 39))
  have HC:=Lib.hid (hC _ HE.out)
  have d1:decide (si≤p)=true:=decide_eq_true hp1
  have d2:decide (p≤(un:Int))=true:=decide_eq_true hp2
  clear hC
  go_enter Tryz.func14,Tryz.ntmps14
  go_wp2_with fail
  refine HC.out.mono ?_
  rintro e W1 ⟨rfl,hb1⟩
  have HE1:=Lib.hid (ext_call HE.out hb1)
  clear hb1
  go_wp2
  go_ret
  exact ⟨rfl,HE1.out⟩
theorem audAtLow (pa:Option Addr) (t k si:Int) (un base:Nat) (Au Ar Al:Option Addr) (nu cu cr nl cl:Nat) (p:Int) (hp1:p<si) (w:World) :
    Calls Tryz.prog 14 #[.pointer pa,.agg #[.int .i64 1,.int .i64 t,.int .i64 0,.int .i64 k,.int .i64 k,.int .i64 0,.int .i64 0,.slice Au nu cu,.int .i64 0,.bool false,.int .i64 si,.int .i64 (un:Int),.int .i64 (base:Int),.slice Ar 1 cr,.slice Al nl cl],.int .i64 p] w fun e w'=>e=.returned (.bool false)∧Below w.heap.size w w':=by
  have d1:decide (si≤p)=false:=decide_eq_false (by omega)
  have d2:¬ si≤p:=by omega
  go_enter Tryz.func14,Tryz.ntmps14
  go_wp2
  go_ret
  exact ⟨rfl,ext_new _ _⟩
theorem settleInG (n lo hi:Int) (h1:lo≤n) (h2:n≤hi) (w:World):Calls Tryz.prog 35 #[.int .i64 n,.int .i64 lo,.int .i64 hi] w fun e w'=>e=.returned (.bool true)∧w=w':=by
  go_enter Tryz.func35,Tryz.ntmps35
  go_wp2
  go_ret
  exact ⟨by simp [h1,h2],rfl⟩
theorem settleI0 (pa:Option Addr) (t k si:Int) (un base:Nat) (Au Ar Al:Option Addr) (cu cr nl cl:Nat) (p c q:Int) (w:World) :
    Calls Tryz.prog 18 #[.pointer pa,.agg #[.int .i64 1,.int .i64 t,.int .i64 0,.int .i64 k,.int .i64 k,.int .i64 0,.int .i64 0,.slice Au 0 cu,.int .i64 0,.bool false,.int .i64 si,.int .i64 (un:Int),.int .i64 (base:Int),.slice Ar 1 cr,.slice Al nl cl],.int .i64 p,.int .i64 c,.int .i64 q] w fun e w'=>e=.returned (.tuple #[.int .i64 0,.bool false])∧Below w.heap.size w w':=by
  go_enter Tryz.func18,Tryz.ntmps18
  go_wp2
  go_ret2
  exact ⟨rfl,ext_new _ _⟩
theorem settleI1 (ga:Nat) (t k si:Int) (un base:Nat) (Ar Al:Option Addr) (cu cr nl cl:Nat) (x:RowT) (gr:Nat) (p q:Int) (c:Nat) (hc:1≤c∧c≤3) (hq : -1000000000≤q∧q≤1000000000) (hw:IntKind.i64.wrap (x.col c*q)=x.col c*q) (w:World)
    (hx:∀ i,i<5→w.cell? ⟨gr,i,none⟩=(encR x)[i]?)
    (hA:∀ W:World,Below w.heap.size w W→Calls Tryz.prog 14 #[.pointer (some ⟨ga,0,none⟩),.agg #[.int .i64 1,.int .i64 t,.int .i64 0,.int .i64 k,.int .i64 k,.int .i64 0,.int .i64 0,.slice (some ⟨gr,0,none⟩) 1 cu,.int .i64 0,.bool false,.int .i64 si,.int .i64 (un:Int),.int .i64 (base:Int),.slice Ar 1 cr,.slice Al nl cl],.int .i64 p] W fun e w'=>e=.returned (.bool true)∧Below W.heap.size W w') :
    Calls Tryz.prog 18 #[.pointer (some ⟨ga,0,none⟩),.agg #[.int .i64 1,.int .i64 t,.int .i64 0,.int .i64 k,.int .i64 k,.int .i64 0,.int .i64 0,.slice (some ⟨gr,0,none⟩) 1 cu,.int .i64 0,.bool false,.int .i64 si,.int .i64 (un:Int),.int .i64 (base:Int),.slice Ar 1 cr,.slice Al nl cl],.int .i64 p,.int .i64 (c:Int),.int .i64 q] w fun e w'=>e=.returned (.tuple #[.int .i64 (x.col c*q),.bool true])∧Below w.heap.size w w':=by
  have HE:=Lib.hid (ext_new w (.cells #[.int .i64 1,.int .i64 t,.int .i64 0,.int .i64 k,.int .i64 k,.int .i64 0,.int .i64 0,.slice (some ⟨gr,0,none⟩) 1 cu,.int .i64 0,.bool false,.int .i64 si,.int .i64 (un:Int),.int .i64 (base:Int),.slice Ar 1 cr,.slice Al nl cl] 39))
  have HB:=Lib.hid (Blk.new w 39 #[.int .i64 1,.int .i64 t,.int .i64 0,.int .i64 k,.int .i64 k,.int .i64 0,.int .i64 0,.slice (some ⟨gr,0,none⟩) 1 cu,.int .i64 0,.bool false,.int .i64 si,.int .i64 (un:Int),.int .i64 (base:Int),.slice Ar 1 cr,.slice Al nl cl])
  have HC:=Lib.hid (hA _ HE.out)
  have HX:=Lib.hid (show ∀ W:World,Below w.heap.size w W→W.cell? ⟨gr,0,none⟩=some (.int .i64 x.t)∧W.cell? ⟨gr,1,none⟩=some (.int .i64 x.k)∧W.cell? ⟨gr,2,none⟩=some (.int .i64 x.a)∧W.cell? ⟨gr,3,none⟩=some (.int .i64 x.b)∧W.cell? ⟨gr,4,none⟩=some (.int .i64 x.c) from fun W h=>
    ⟨cell_ext (hx 0 (by omega)) h,cell_ext (hx 1 (by omega)) h,cell_ext (hx 2 (by omega)) h,cell_ext (hx 3 (by omega)) h,cell_ext (hx 4 (by omega)) h⟩)
  obtain ⟨y0,y1,y2,y3,y4⟩:=x
  dsimp only at HX
  clear hx hA
  have q1 : -1000000000≤q:=hq.1
  have q2:q≤1000000000:=hq.2
  have hcc:c=1∨c=2∨c=3:=by omega
  rcases hcc with rfl|rfl|rfl
  all_goals
    dsimp only [RowT.col] at hw ⊢
    go_enter Tryz.func18,Tryz.ntmps18
    go_wp2_with (first
      | (go_at_call 35;refine (settleInG _ _ _ (by omega) (by omega) _).mono ?_;rintro e w' ⟨rfl,rfl⟩)
      | (go_at_call 14;refine HC.out.mono ?_;rintro e W1 ⟨rfl,hb1⟩;have HE1:=Lib.hid (ext_call HE.out hb1);have p7:=(HB.out.ext hb1).cell 7;obtain ⟨r0,r1,r2,r3,r4⟩:=HX.out _ HE1.out;clear hb1))
    go_ret2
    exact ⟨rfl,HE1.out⟩
end Go.Proofs.YtimoapjhepmehaaGreatDoor
