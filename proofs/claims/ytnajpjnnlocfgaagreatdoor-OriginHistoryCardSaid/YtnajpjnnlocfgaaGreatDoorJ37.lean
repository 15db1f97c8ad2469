/-
  package cachetierref02: rotated, constants; laws on bits.
-/
import Derived.Test.YtnajpjnnlocfgaaGreatDoorJ2
import Derived.Test.YtnajpjnnlocfgaaGreatDoorJ1
import Derived.BigQuiet
set_option linter.unusedSimpArgs false
set_option linter.unusedVariables false
set_option maxHeartbeats 4000000
namespace Go.Proofs.YtnajpjnnlocfgaaGreatDoor
open Go.RowKit Go.Shelf
attribute [local go_sem ↓] Go.wp_at_zero Go.wp_at_succ
theorem bits_or_comm (k:IntKind) (x y:Int):bits .or k x y=bits .or k y x:=by
  unfold bits
  dsimp only
  rw [BitVec.or_comm]
theorem ofInt_wrap (v:BitVec 32):BitVec.ofInt 32 (IntKind.u32.wrap (v.toNat:Int))=v:=by
  rw [IntKind.wrap_u32]
  have:=v.isLt
  rw [show ((v.toNat:Int) % 4294967296)=(v.toNat:Int) by omega,BitVec.ofInt_natCast,BitVec.ofNat_toNat,BitVec.setWidth_eq]
theorem xor0_or (a b:Int):bits .xor .u32 0 (bits .or .u32 a b)=bits .or .u32 a b:=by
  unfold bits
  dsimp only
  rw [show IntKind.u32.bits=32 from rfl,ofInt_wrap,show BitVec.ofInt 32 0=0#32 from rfl,BitVec.zero_xor]
def rotrF (x n:Int):Int:=bits .or .u32 (x / 2 ^ n.toNat) (x*2 ^ (32-n).toNat % 4294967296)
theorem rotr_eq (x n:Int) (h:rotN (wrap64 (-n))=32-n) (h0:0≤n) (hn:n≤31):rotrF x n=rotlF x (wrap64 (-n)):=by
  unfold rotrF rotlF
  rw [h,bits_or_comm,IntKind.wrap_u64,show (32-(32-n)) % 18446744073709551616=n by omega]
  unfold shlU shrU
  rw [IntKind.wrap_u32,Nat.min_eq_left (by omega),Nat.min_eq_left (by omega)]
theorem mixed2_eq (x m n:Int) (hm:rotN (wrap64 (-m))=32-m) (hn:rotN (wrap64 (-n))=32-n) (h1:0≤m∧m≤31) (h2:0≤n∧n≤31):mixedF x [m,n]=bits .xor .u32 (rotrF x m) (rotrF x n):=by
  rw [rotr_eq x m hm h1.1 h1.2,rotr_eq x n hn h2.1 h2.2]
  show bits .xor .u32 (bits .xor .u32 0 (rotlF x (wrap64 (-m)))) _=_
  conv=>lhs;unfold rotlF
  rw [xor0_or]
  rfl
theorem mixed3_eq (x m n k:Int) (hm:rotN (wrap64 (-m))=32-m) (hn:rotN (wrap64 (-n))=32-n) (hk:rotN (wrap64 (-k))=32-k) (h1:0≤m∧m≤31) (h2:0≤n∧n≤31) (h3:0≤k∧k≤31):mixedF x [m,n,k]=bits .xor .u32 (bits .xor .u32 (rotrF x m) (rotrF x n)) (rotrF x k):=by
  rw [← mixed2_eq x m n hm hn h1 h2,rotr_eq x k hk h3.1 h3.2]
  rfl
theorem mixed_7_18 (x:Int):mixedF x [7,18]=bits .xor .u32 (rotrF x 7) (rotrF x 18):=mixed2_eq x 7 18 (by kernel_rfl) (by kernel_rfl) (by omega) (by omega)
theorem mixed_17_19 (x:Int):mixedF x [17,19]=bits .xor .u32 (rotrF x 17) (rotrF x 19):=mixed2_eq x 17 19 (by kernel_rfl) (by kernel_rfl) (by omega) (by omega)
theorem mixed_6_11_25 (x:Int):mixedF x [6,11,25]=bits .xor .u32 (bits .xor .u32 (rotrF x 6) (rotrF x 11)) (rotrF x 25):=mixed3_eq x 6 11 25 (by kernel_rfl) (by kernel_rfl) (by kernel_rfl) (by omega) (by omega) (by omega)
theorem mixed_2_13_22 (x:Int):mixedF x [2,13,22]=bits .xor .u32 (bits .xor .u32 (rotrF x 2) (rotrF x 13)) (rotrF x 22):=mixed3_eq x 2 13 22 (by kernel_rfl) (by kernel_rfl) (by kernel_rfl) (by omega) (by omega) (by omega)
theorem refRot (x n:Int) (h0:0≤n) (hn:n≤31) (w:World) :
    Calls Tryz.prog 179 #[.int .u32 x,.int .i64 n] w fun e w'=>e=.returned (.int .u32 (rotrF x n))∧∃ m,w'=w.drewN m:=by
  have e1:IntKind.i64.wrap (32-n)=32-n:=IntWalk.i64_in _ (by omega)
  have h1:0≤32-n:=by omega
  have h2:32-n≤32:=by omega
  have h3:n≤32:=by omega
  go_enter Tryz.func179,Tryz.ntmps179
  go_wp2
  go_quiet (fail)
  go_wp2
  go_ret
  exact ⟨rfl,_,rfl⟩
set_option maxRecDepth 100000 in
theorem refConsts (w:World):Calls Tryz.prog 180 #[] w fun e w'=>e=.returned (.slice (some ⟨w.heap.size,0,none⟩) 64 64)∧(∀ k,k<64→w'.cell? ⟨w.heap.size,k,none⟩=some (.int .u32 (kList[k]?.getD 0)))∧Below w.heap.size w w':=by
  go_enter Tryz.func180,Tryz.ntmps180
  go_wp2
  go_ret
  refine ⟨rfl,fun k hk=>?_,ext_new _ _⟩
  rw [(Blk.new w _ _).cell k]
  have hl:k<kList.length:=hk
  show (kList.map (Value.int .u32)).toArray[k]? = _
  simp [hl]
end Go.Proofs.YtnajpjnnlocfgaaGreatDoor
