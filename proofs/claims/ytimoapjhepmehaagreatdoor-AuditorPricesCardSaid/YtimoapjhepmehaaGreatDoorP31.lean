/-
  package predicate: kinds.
-/
import Derived.Test.YtimoapjhepmehaaGreatDoorP16
import Derived.Test.YtimoapjhepmehaaGreatDoorP3
set_option linter.unusedSimpArgs false
set_option linter.unusedVariables false
set_option maxHeartbeats 4000000
set_option maxRecDepth 100000
namespace Go.Proofs.YtimoapjhepmehaaGreatDoor
open Go.RowKit Go.Shelf
attribute [local go_sem ↓] Go.wp_at_zero Go.wp_at_succ
theorem extremeAny (n:Nat) (w:World):Calls Tryz.prog 218 #[.func (.func n) #[] #[]] w fun e w'=>e=.returned (.func (.func 236) #[] #[.pointer (some ⟨w.heap.size,0,none⟩)])∧Blk w' w.heap.size 166 #[.func (.func n) #[] #[]]∧Below w.heap.size w w':=by
  have hmf:∀ (fn:Fn) (first cap:Array Value) (w:World),(Instr.makeFunc fn first cap).run Tryz.prog w=.ok (.func fn first cap) w:=fun _ _ _ _=>rfl
  go_enter Tryz.func218,Tryz.ntmps218
  go_wp2
  go_ret
  exact ⟨rfl,Blk.new _ _ _,ext_new _ _⟩
def kindV (a b:Nat):Value:=.agg #[.func (.func a) #[] #[],.func (.func b) #[] #[]]
theorem kindsAny (w:World):Calls Tryz.prog 192 #[] w fun e w'=>∃ g kv,e=.returned (.map (some g))∧MapI w' g kv∧getI kv 1=some (kindV 211 212)∧getI kv 2=some (kindV 211 212)∧getI kv 3=some (kindV 213 214)∧getI kv 4=some (kindV 215 216)∧Below w.heap.size w w':=by
  have hmm:=@run_makeMap Tryz.prog
  have hm0:=MapI.new w
  have e0:Below w.heap.size w (w.alloc (.map #[] 0)):=ext_new _ _
  obtain ⟨o1,r1,hm1⟩:=update_I (P:=Tryz.prog) Tryz.underlying293 Tryz.underlying3 hm0 1 (.agg #[.func (.func 211) #[] #[],.func (.func 212) #[] #[]])
  have e1:=ext_put e0 (Nat.le_refl _) o1
  generalize World.putObj (w.alloc (.map #[] 0)) w.heap.size o1=X1 at *
  obtain ⟨o2,r2,hm2⟩:=update_I (P:=Tryz.prog) Tryz.underlying293 Tryz.underlying3 hm1 2 (.agg #[.func (.func 211) #[] #[],.func (.func 212) #[] #[]])
  have e2:=ext_put e1 (Nat.le_refl _) o2
  generalize World.putObj X1 w.heap.size o2=X2 at *
  obtain ⟨o3,r3,hm3⟩:=update_I (P:=Tryz.prog) Tryz.underlying293 Tryz.underlying3 hm2 3 (.agg #[.func (.func 213) #[] #[],.func (.func 214) #[] #[]])
  have e3:=ext_put e2 (Nat.le_refl _) o3
  generalize World.putObj X2 w.heap.size o3=X3 at *
  obtain ⟨o4,r4,hm4⟩:=update_I (P:=Tryz.prog) Tryz.underlying293 Tryz.underlying3 hm3 4 (.agg #[.func (.func 215) #[] #[],.func (.func 216) #[] #[]])
  have e4:=ext_put e3 (Nat.le_refl _) o4
  generalize World.putObj X3 w.heap.size o4=X4 at *
  go_enter Tryz.func192,Tryz.ntmps192
  go_wp2_with fail
  refine (extremeAny _ _).mono ?_
  rintro e Y1 ⟨rfl,-,hb1⟩
  have hm4':=hm4.ext hb1
  have e4':=ext_call e4 hb1
  clear r1 r2 r3 r4 hm0 hm1 hm2 hm3 hm4 e0 e1 e2 e3 e4 hb1
  generalize X4.heap.size=x4 at *
  obtain ⟨o5,r5,hm5⟩:=update_I (P:=Tryz.prog) Tryz.underlying293 Tryz.underlying3 hm4' 5 (.agg #[.func (.func 217) #[] #[],.func (.func 236) #[] #[.pointer (some ⟨x4,0,none⟩)]])
  have e5:=ext_put e4' (Nat.le_refl _) o5
  generalize World.putObj Y1 w.heap.size o5=X5 at *
  go_wp2_with fail
  refine (extremeAny _ _).mono ?_
  rintro e Y2 ⟨rfl,-,hb2⟩
  have hm5':=hm5.ext hb2
  have e5':=ext_call e5 hb2
  clear r5 hm4' hm5 e4' e5 hb2
  generalize X5.heap.size=x5 at *
  obtain ⟨o6,r6,hm6⟩:=update_I (P:=Tryz.prog) Tryz.underlying293 Tryz.underlying3 hm5' 6 (.agg #[.func (.func 220) #[] #[],.func (.func 236) #[] #[.pointer (some ⟨x5,0,none⟩)]])
  have e6:=ext_put e5' (Nat.le_refl _) o6
  generalize World.putObj Y2 w.heap.size o6=X6 at *
  obtain ⟨o7,r7,hm7⟩:=update_I (P:=Tryz.prog) Tryz.underlying293 Tryz.underlying3 hm6 7 (.agg #[.func (.func 222) #[] #[],.func (.func 223) #[] #[]])
  have e7:=ext_put e6 (Nat.le_refl _) o7
  generalize World.putObj X6 w.heap.size o7=X7 at *
  clear hm5' hm6 e5' e6
  have HM:=Lib.hid hm7
  have HE:=Lib.hid e7
  clear hm7 e7
  go_wp2
  go_ret
  exact ⟨_,_,rfl,HM.out,by simp [getI,setI,kindV],by simp [getI,setI,kindV],by simp [getI,setI,kindV],by simp [getI,setI,kindV],HE.out⟩
end Go.Proofs.YtimoapjhepmehaaGreatDoor
