/- Part 39: contracts that the last part uses. -/
import Derived.Test.YtimoapjhepmehaaGreatDoorJ26
import Derived.Stop.Asserts
import Derived.LaidEql
import Derived.Laws.Externs
set_option linter.unusedSimpArgs false
set_option linter.unusedVariables false
set_option maxHeartbeats 4000000
set_option maxRecDepth 100000
namespace Go.Proofs.YtimoapjhepmehaaGreatDoor
open Go.IntKind renaming i64->I
open Go.Value renaming int->U,bool->J,slice->jD,pointer->jE
open Tryz renaming prog->R
open Go renaming World->o
open Go.RowKit Go.Shelf
attribute [local go_sem ↓] Go.wp_at_zero Go.wp_at_succ
def C3(w:o):Prop:=∃ a,w.cell? ⟨0,0,none⟩=some (.iface 358 (.pointer (some a)))
theorem C3.below{w w':o}(h:C3 w)(hb:Below w.heap.size w w'):C3 w':=by
 obtain⟨a,h⟩:=h;exact⟨a,AG h hb⟩
section
open Go.Extern.Stop Go.Stop Go.Extern
theorem R4(v:Value)(w:o):(Extern.ReflectliteType.typeOf #[.iface 358 v]).run R w=.ok (.iface 315 (.agg #[jE (some ⟨3,358,none⟩)])) w:=by kernel_rfl
theorem Ka(w:o):((Extern.ReflectliteType.method fun t=>do Extern.Rtype.noPackHeld "Comparable" t;(fun a=>Value.bool a.comparable) <$> typeInfo t) #[.agg #[jE (some ⟨3,358,none⟩)]]).run R w=.ok (J true) w:=by kernel_rfl
theorem GA(v:Value)(w:o):(Go.method 495 315 v "Comparable").run R w=.ok (281,v) w:=by kernel_rfl
theorem VU:(Tryz.prog.info? 358).map (·.comparable)=some true:=by kernel_rfl
theorem VV:(Tryz.prog.info? 384).map (·.size)=some 1:=by kernel_rfl
theorem VW(a:Addr)(w:o) :
  Calls R 142 #[.iface 358 (.pointer (some a)),.iface 358 (.pointer (some a))] w fun e w'=>e=.returned (J true)/\w'=w:=by
 obtain⟨i,hi,hcmp⟩:=Option.map_eq_some_iff.1 VU;obtain⟨j,hj,hjs⟩:=Option.map_eq_some_iff.1 VV;have h8:=@run_callFunc_extern R 189 _ Extern.ReflectliteType.typeOf Tryz.func189 (by kernel_rfl) (by kernel_rfl) (by kernel_rfl) (by kernel_rfl);have h32:=@run_callFunc_extern R 281 _ (Extern.ReflectliteType.method fun t=>do Extern.Rtype.noPackHeld "Comparable" t;pure (J (<- typeInfo t).comparable)) Tryz.func281 (by kernel_rfl) (by kernel_rfl) (by kernel_rfl) (by kernel_rfl)
 have tT:=R4;have cT:=Ka;have mR:=GA;have heq:=run_eql_iface_ptr_same (P:=R) w a Tryz.underlying218 Tryz.underlying358 hi hcmp hj;go_enter Tryz.func142,Tryz.ntmps142;go_wp2;refine wp_loop_rounds 1 ?_;rw[rounds_succ];go_wp2;go_ret;exact⟨rfl,rfl⟩
end
theorem T9(v:Value)(w:o)(hm:w.cell? ⟨0,0,none⟩=some (.iface 358 v)):Calls R 97 #[J false] w fun e w'=>e=.panicked [{ v:=.iface 358 v,recovered:=false }]/\w=w':=by
 go_enter Tryz.func97,Tryz.ntmps97;go_wp2;exact⟨rfl,rfl,rfl⟩
theorem VX(a:Addr)(bk:Nat)(w:o)(hb:Blk w bk 4 #[J true])(hm:w.cell? ⟨0,0,none⟩=some (.iface 358 (.pointer (some a)))) :
  CallsD R 96 #[jE (some ⟨bk,0,none⟩)] (.panicking [{ v:=.iface 358 (.pointer (some a)),recovered:=false }]) w fun e u' w'=>e=.returned (.tuple #[])/\u'=.panicking [{ v:=.iface 358 (.pointer (some a)),recovered:=true }]/\w'=w.setCell ⟨bk,0,none⟩ (J false):=by
 have hta:∀ w:o,(Instr.typeAssert (.iface 358 (.pointer (some a))) 20 218 true).run R w=.ok (.tuple #[.iface 358 (.pointer (some a)),J true]) w:=fun w=>run_typeAssert_hasB Tryz.underlying218 (by kernel_rfl) _ _ w;have c0:=hb.cell 0;have f0:=hb.frozen 0;refine callsD_of_wpS Tryz.func96 rfl fun c₀ cs hu=>?_;have hn:Tryz.f96.ntmps=17:=Tryz.ntmps96;rw[hn];simp only[List.size_toArray,List.length_cons,List.length_nil,Nat.reduceAdd,Nat.reduceSub,Array.replicate_succ,Array.replicate_zero,List.push_toArray,List.append_toArray,List.nil_append,List.cons_append];apply wpS_seq;apply wpS_region;simp[wpOpsS,go_sem,recoverD,hu,hta,Exit.thenS];clear hta hn;refine wpS_of_wp ?_;go_wp2_with fail
 refine(VW a w).mono ?_;rintro e w1 ⟨rfl,rfl⟩;go_wp2;cases c₀;simp_all [bodyPostS,results,Tryz.results96]
theorem N9(bk bo:Nat)(x y z:Value)(w:o)(u:FrameMode)(hk:w.cell? ⟨bk,0,none⟩=some (J false))(ho:Blk w bo 36 #[x,y,z]) :
  CallsD R 95 #[jE (some ⟨bk,0,none⟩),jE (some ⟨bo,0,none⟩)] u w fun e u' w'=>u'=u/\(e=.returned (.tuple #[])/\w'=((w.setCell ⟨bo,0,none⟩ (jD none 0 0)).setCell ⟨bo,1,none⟩ (U I 0)).setCell ⟨bo,2,none⟩ (J false)):=by
 have o0:=ho.cell 0;have o1:=ho.cell 1;have o2:=ho.cell 2;have f0:=ho.frozen 0;have f1:=ho.frozen 1;have f2:=ho.frozen 2;go_enter_d Tryz.func95,Tryz.ntmps95;go_wp2;go_end0;exact⟨rfl,rfl⟩
theorem Kb(w:o):Calls R 47 #[.agg #[U I 0,U I 0,U I 0,U I 0,U I 0,U I 0,U I 0]] w fun e w'=>e=.returned (J false)/\Below w.heap.size w w':=by
 go_enter Tryz.func47,Tryz.ntmps47;go_wp2;go_ret;exact⟨rfl,AC _ _⟩
theorem VY(w:o)(hM:C3 w):Calls R 53 #[.agg #[U I 0,U I 0,U I 0,U I 0,U I 0,U I 0,U I 0],jD none 0 0] w
   fun e w'=>e=.returned (.tuple #[.agg #[jD none 0 0,U I 0,J false],J false])/\Below w.heap.size w w':=by
 have hmf:∀(fn:Fn) (first cap:Array Value) (w:o),(Instr.makeFunc fn first cap).run R w=.ok (.func fn first cap) w:=fun _ _ _ _=>rfl;have HQV:=Wz Kb;obtain⟨W0,hW0⟩:∃ W0,W0=((w.alloc (.cells #[U I 0,U I 0,U I 0,U I 0,U I 0,U I 0,U I 0] 33)).alloc (.cells #[jD none 0 0,U I 0,J false] 36)).alloc (.cells #[J true] 4):=⟨_,rfl⟩;have HE0:=Wz (show Below w.heap.size w W0 by rw[hW0];exact AB (AB (AC _ _) _) _);have HO0:=Wz (show Blk W0 (w.heap.size+1) 36 #[jD none 0 0,U I 0,J false]by rw[hW0];exact(Blk.new' _ _ _ (by simp)).alloc _);have HK0:=Wz (show Blk W0 (w.heap.size+1+1) 4 #[J true]by rw[hW0];exact Blk.new' _ _ _ (by simp));have HW0:=Wz hW0;have HM0:=Wz hM;clear hW0 hM;go_enter_defers Tryz.func53,Tryz.ntmps53;go_wp2_with fail
 rw[<- HW0.out];refine(HQV.out _).mono ?_;rintro e W1 ⟨rfl,hb1⟩;have HE1:=Wz (AA HE0.out hb1);have HO1:=Wz (HO0.out.ext hb1);have HK1:=Wz (HK0.out.ext hb1);obtain⟨a,hm⟩:=HM0.out.below HE1.out;clear hb1;go_wp2_with (go_at_call 97;refine(T9 _ _ hm).mono ?_;rintro e w' ⟨rfl,rfl⟩)
 refine leaves_cons (f:=96) (args:=#[jE (some ⟨w.heap.size+1+1,0,none⟩)]) (by simp) (by simp[go_sem]) ?_;refine(VX a _ _ HK1.out hm).mono ?_;rintro e u' w'' ⟨rfl,rfl,rfl⟩;have HO2:=Wz (HO1.out.far (p:=⟨w.heap.size+1+1,0,none⟩) (by simp) (J false));have k0:=(HK1.out.set_ 0 (J false)).cell 0;refine leaves_cons (f:=95) (args:=#[jE (some ⟨w.heap.size+1+1,0,none⟩),jE (some ⟨w.heap.size+1,0,none⟩)]) (by simp[settle]) (by simp[go_sem]) ?_;refine(N9 _ _ _ _ _ _ _ k0 HO2.out).mono ?_;rintro e u' w'' ⟨rfl,rfl,rfl⟩;have HK3:=((((HK1.out.set_ 0 (J false)).far (p:=⟨w.heap.size+1,0,none⟩) (by simp) (jD none 0 0)).far (p:=⟨w.heap.size+1,1,none⟩) (by simp) (U I 0)).far (p:=⟨w.heap.size+1,2,none⟩) (by simp) (J false)).cell 0;have HO3:=((HO2.out.set_ 0 (jD none 0 0)).set_ 1 (U I 0)).set_ 2 (J false);have o0:=HO3.cell 0;have o1:=HO3.cell 1;have o2:=HO3.cell 2;simp only[List.setIfInBounds_toArray,List.set_cons_zero,List.set_cons_succ,List.getElem?_toArray,List.getElem?_cons_zero,List.getElem?_cons_succ]at o0 o1 o2 k0 HK3;have HB:=Wz (show Below w.heap.size w ((((W1.setCell ⟨w.heap.size+1+1,0,none⟩ (J false)).setCell ⟨w.heap.size+1,0,none⟩ (jD none 0 0)).setCell ⟨w.heap.size+1,1,none⟩ (U I 0)).setCell ⟨w.heap.size+1,2,none⟩ (J false))from AE (AE (AE (AE HE1.out (by simp;omega) _) (by simp) _) (by simp) _) (by simp) _);clear HO3 HO2 HO1 HK1 HE1 HM0 HW0 HO0 HK0 HE0 hmf k0 hm;simp[Leaves,settle,results,Tryz.results53,go_sem,o0,o1,o2,HK3];exact HB.out
end Go.Proofs.YtimoapjhepmehaaGreatDoor
