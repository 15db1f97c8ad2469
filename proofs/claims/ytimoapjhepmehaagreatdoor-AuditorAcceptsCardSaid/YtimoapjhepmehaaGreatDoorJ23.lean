/- Part 23: contracts that the last part uses. -/
import Derived.Test.YtimoapjhepmehaaGreatDoorJ16
set_option linter.unusedSimpArgs false
set_option linter.unusedVariables false
set_option maxHeartbeats 4000000
set_option maxRecDepth 100000
namespace Go.Proofs.YtimoapjhepmehaaGreatDoor
open Tryz renaming prog->I
section
open Go.RowKit Go.Shelf
attribute [local go_sem ↓] Go.wp_at_zero Go.wp_at_succ
theorem Jw(n:Nat)(w:World):Calls I 218 #[.func (.func n) #[] #[]] w fun e w'=>e=.returned (.func (.func 236) #[] #[.pointer (some ⟨w.heap.size,0,none⟩)])/\Blk w' w.heap.size 166 #[.func (.func n) #[] #[]]/\Below w.heap.size w w':=by
 have hmf:∀(fn:Fn) (first cap:Array Value) (w:World),(Instr.makeFunc fn first cap).run I w=.ok (.func fn first cap) w:=fun _ _ _ _=>rfl;go_enter Tryz.func218,Tryz.ntmps218;go_wp2;go_ret;exact⟨rfl,Blk.new _ _ _,AC _ _⟩
end
section
open Go.RowKit Go.Shelf
attribute [local go_sem ↓] Go.wp_at_zero Go.wp_at_succ
def Ci(a b:Nat)(caps:Array Value):Value:=.agg #[.func (.func a) #[] #[],.func (.func b) #[] caps]
def kvK(x4 x5:Nat):List (Int × Value):=[(1,Ci 211 212 #[]),(2,Ci 211 212 #[]),(3,Ci 213 214 #[]),(4,Ci 215 216 #[]),(5,Ci 217 236 #[.pointer (some ⟨x4,0,none⟩)]),(6,Ci 220 236 #[.pointer (some ⟨x5,0,none⟩)]),(7,Ci 222 223 #[])]
theorem PM(w:World):Calls I 192 #[] w fun e w'=>∃ g x4 x5,e=.returned (.map (some g))/\Ea w' g (kvK x4 x5)/\Blk w' x4 166 #[.func (.func 219) #[] #[]]/\Blk w' x5 166 #[.func (.func 221) #[] #[]]/\Below w.heap.size w w':=by
 have hmm:=@run_makeMap I;have hm0:=Ea.new w;have e0:Below w.heap.size w (w.alloc (.map #[] 0)):=AC _ _;obtain⟨X0,hX0⟩:∃ X0,X0=w.alloc (.map #[] 0):=⟨_,rfl⟩;have HX0:=Wz hX0;have hl0:w.heap.size<X0.heap.size:=by rw[hX0];simp
 rw[<- hX0]at hm0 e0;clear hX0;obtain⟨o1,r1,hm1⟩:=Cu (P:=I) Tryz.underlying293 Tryz.underlying3 hm0 1 (Ci 211 212 #[]);have e1:=DA e0 (Nat.le_refl _) o1;have hl1:w.heap.size<(World.putObj X0 w.heap.size o1).heap.size:=by simpa using hl0
 generalize World.putObj X0 w.heap.size o1=X1 at *;obtain⟨o2,r2,hm2⟩:=Cu (P:=I) Tryz.underlying293 Tryz.underlying3 hm1 2 (Ci 211 212 #[]);have e2:=DA e1 (Nat.le_refl _) o2;have hl2:w.heap.size<(World.putObj X1 w.heap.size o2).heap.size:=by simpa using hl1
 generalize World.putObj X1 w.heap.size o2=X2 at *;obtain⟨o3,r3,hm3⟩:=Cu (P:=I) Tryz.underlying293 Tryz.underlying3 hm2 3 (Ci 213 214 #[]);have e3:=DA e2 (Nat.le_refl _) o3;have hl3:w.heap.size<(World.putObj X2 w.heap.size o3).heap.size:=by simpa using hl2
 generalize World.putObj X2 w.heap.size o3=X3 at *;obtain⟨o4,r4,hm4⟩:=Cu (P:=I) Tryz.underlying293 Tryz.underlying3 hm3 4 (Ci 215 216 #[]);have e4:=DA e3 (Nat.le_refl _) o4;have hl4:w.heap.size<(World.putObj X3 w.heap.size o4).heap.size:=by simpa using hl3
 generalize World.putObj X3 w.heap.size o4=X4 at *;unfold Ci at r1 r2 r3 r4;go_enter Tryz.func192,Tryz.ntmps192;go_wp2_with (first|(rw[<- HX0.out])|fail)
 refine(Jw _ _).mono ?_;rintro e Y1 ⟨rfl,hx4,hb1⟩;have hm4':=hm4.ext hb1;have e4':=AA e4 hb1;have hne4:X4.heap.size≠w.heap.size:=by omega
 have hl4':w.heap.size<Y1.heap.size:=Nat.lt_of_lt_of_le hl4 hb1.size;clear r1 r2 r3 r4 hm0 hm1 hm2 hm3 hm4 e0 e1 e2 e3 e4 hb1 hl0 hl1 hl2 hl3 hl4;generalize X4.heap.size=x4 at *;obtain⟨o5,r5,hm5⟩:=Cu (P:=I) Tryz.underlying293 Tryz.underlying3 hm4' 5 (Ci 217 236 #[.pointer (some ⟨x4,0,none⟩)]);have e5:=DA e4' (Nat.le_refl _) o5;have hx4:=hx4.putObj o5 hne4;have hl5:w.heap.size<(World.putObj Y1 w.heap.size o5).heap.size:=by simpa using hl4'
 generalize World.putObj Y1 w.heap.size o5=X5 at *;unfold Ci at r5;go_wp2_with fail
 refine(Jw _ _).mono ?_;rintro e Y2 ⟨rfl,hx5,hb2⟩;have hm5':=hm5.ext hb2;have e5':=AA e5 hb2;have hx4:=hx4.ext hb2;have hne5:X5.heap.size≠w.heap.size:=by omega
 clear r5 hm4' hm5 e4' e5 hb2 hl4' hl5;generalize X5.heap.size=x5 at *;obtain⟨o6,r6,hm6⟩:=Cu (P:=I) Tryz.underlying293 Tryz.underlying3 hm5' 6 (Ci 220 236 #[.pointer (some ⟨x5,0,none⟩)]);have e6:=DA e5' (Nat.le_refl _) o6;have hx4:=hx4.putObj o6 hne4;have hx5:=hx5.putObj o6 hne5;generalize World.putObj Y2 w.heap.size o6=X6 at *;obtain⟨o7,r7,hm7⟩:=Cu (P:=I) Tryz.underlying293 Tryz.underlying3 hm6 7 (Ci 222 223 #[]);have e7:=DA e6 (Nat.le_refl _) o7;have hx4:=hx4.putObj o7 hne4;have hx5:=hx5.putObj o7 hne5;generalize World.putObj X6 w.heap.size o7=X7 at *;unfold Ci at r6 r7;clear hm5' hm6 e5' e6;have HM:=Wz hm7;have HE:=Wz e7;have H4:=Wz hx4;have H5:=Wz hx5;clear hm7 e7 hx4 hx5;go_wp2;go_ret;exact⟨_,_,_,rfl,HM.out,H4.out,H5.out,HE.out⟩
end
end Go.Proofs.YtimoapjhepmehaaGreatDoor
