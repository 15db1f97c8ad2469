/-
  package cachetierref02: extended.
-/
import Derived.Test.YtnajpjnnlocfgaaGreatDoorJ37
import Derived.Test.YtnajpjnnlocfgaaGreatDoorJ2
set_option linter.unusedSimpArgs false
set_option linter.unusedVariables false
namespace Go.Proofs.YtnajpjnnlocfgaaGreatDoor
open Go.RowKit Go.Shelf
attribute [local go_sem ↓] app_exec app_sem Go.wp_at_zero Go.wp_at_succ
def EX (w W:World) (v:Value) (l:List Int):Prop:=W.ownsRow w.heap.size 5 1 v l.length (cellsU8 l)∧Below w.heap.size w W
theorem EX.app {w W:World} {v:Value} {l:List Int} (h:EX w W v l) (hn:l.length≤1000000) (x:Int) :
    AppOK Tryz.prog (W.alloc (.cells #[.int .u8 x] 5)) 174 174 v (.slice (some ⟨W.heap.size,0,none⟩) 1 1)∧∃ W',appW Tryz.prog (W.alloc (.cells #[.int .u8 x] 5)) 174 174 v (.slice (some ⟨W.heap.size,0,none⟩) 1 1)=W' ∧
      ∃ v',appV Tryz.prog (W.alloc (.cells #[.int .u8 x] 5)) 174 174 v (.slice (some ⟨W.heap.size,0,none⟩) 1 1)=v'∧EX w W' v' (l++[x]):=by
  obtain ⟨i0,hi,hz0,hz1,hz2⟩:=info_parts u8_info
  have hz:=h.2.size
  obtain ⟨h1,h2,h3⟩:=app_own (P:=Tryz.prog) (w:=W.alloc (.cells #[.int .u8 x] 5)) w.heap.size 174 174 5 i0 (.int .u8 0) 1 1 Tryz.underlying174 hi hz0 hz1 hz2 rfl (by decide) v l.length (cellsU8 l) (h.1.alloc _) ⟨W.heap.size,0,none⟩ 1 1 [.int .u8 x] rfl (cell_one_new _ _ _) (by simp [Value.oneCell']) (by unfold maxLen;omega) (by omega) (by simp;omega)
  exact ⟨h1,_,rfl,_,rfl,⟨by rw [List.length_append,List.length_singleton,← cellsU8_snoc];exact h2,(ext_alloc h.2 _).grown h3 (by simp;omega) (fun g hg=>(h.1.lt g hg).1)⟩⟩
theorem EX.shape {w W:World} {v:Value} {l:List Int} (h:EX w W v l):∃ A c,v=.slice A l.length c:=own_shape h.1
set_option maxHeartbeats 2000000 in
set_option maxRecDepth 100000 in
theorem refExtended (s:ByteArray) (w:World) (hs:s.size≤100000):Calls Tryz.prog 138 #[.string s] w fun e w'=>∃ v,e=.returned v∧EX w w' v (padded s):=by
  go_enter Tryz.func138,Tryz.ntmps138
  go_wp2
  go_loopw [3,4] (fun bv iv W=>∃ k:Nat,k≤s.size∧iv=.int .i64 (k:Int)∧EX w W bv ((byteList s).take k)) (fun _ iv _=>s.size-(intOf iv).toNat)
  case atStart=>exact ⟨0,Nat.zero_le _,rfl,World.ownsRow_nil _ _ _ _,ext_refl _⟩
  case round =>
    obtain ⟨k,hk,rfl,hX⟩:=hrel
    have HX:=Lib.hid hX
    clear hX
    by_cases hlt:k<s.size
    · have hl:((byteList s).take k).length=k:=by rw [List.length_take,byteList_length];omega
      have htk:(byteList s).take (k+1)=(byteList s).take k++[(s[k].toNat:Int)]:=by
        rw [List.take_succ_eq_append_getElem (by rw [byteList_length];exact hlt)]
        congr 2
        simp [byteList]
        rfl
      have HTK:=Lib.hid htk
      obtain ⟨ha,W4,hW4,v4,hv4,h4⟩:=HX.out.app (by omega) (s[k].toNat:Int)
      have H4:=Lib.hid h4
      clear h4 htk
      have d1:decide ((k:Int)<(s.size:Int))=true:=decide_eq_true (by omega)
      go_wp2
      go_roundw
      case rel=>exact ⟨k+1,by omega,by go_num,by rw [HTK.out];exact H4.out⟩
      case measure=>simp [intOf];omega
    · have HK := Lib.hid (show k = s.size by omega)
      have htk:(byteList s).take k=byteList s:=List.take_of_length_le (by rw [byteList_length];omega)
      rw [htk] at HX
      have d1:decide ((k:Int)<(s.size:Int))=false:=decide_eq_false (by omega)
      obtain ⟨ha,W4,hW4,v4,hv4,h4⟩:=HX.out.app (by rw [byteList_length];omega) 128
      have H4:=Lib.hid (show EX w W4 v4 (padTo s 0) by simpa [padTo] using h4)
      clear h4 htk
      go_wp2
      clear d1 hlt hk
      go_loopw [3] (fun bv W=>∃ k:Nat,k≤zerosN s.size∧EX w W bv (padTo s k)) (fun bv _=>s.size+1+zerosN s.size-lenV bv)
      case atStart=>exact ⟨0,Nat.zero_le _,H4.out⟩
      case round=>
        obtain ⟨k,hk,hX⟩:=hrel
        clear HX H4
        have HX:=Lib.hid hX
        obtain ⟨A,c,hsh⟩:=hX.shape
        rw [padTo_length] at hsh
        subst hsh
        clear hX
        have hzd:zerosN s.size=(119-s.size % 64) % 64:=rfl
        by_cases hlt:k<zerosN s.size
        · have ht:(((s.size:Int)+1+(k:Int)) % 64 != 56)=true:=by rw [bne_iff_ne];omega
          obtain ⟨ha,W4,hW4,v4,hv4,h4⟩:=HX.out.app (by rw [padTo_length];omega) 0
          have H4:=Lib.hid h4
          have HS4:=Lib.hid h4.shape
          clear hzd h4
          go_wp2
          go_roundw
          case rel=>exact ⟨k+1,by omega,by rw [padTo_succ];exact H4.out⟩
          case measure=>
            obtain ⟨A,c,h⟩:=HS4.out
            rw [h,List.length_append,padTo_length]
            simp [lenV]
            omega
        · have HK:=Lib.hid (show k=zerosN s.size by omega)
          have ht:(((s.size:Int)+1+(k:Int)) % 64 != 56)=false:=by
            have:=HK.out
            simp only [bne_eq_false_iff_eq]
            omega
          clear hlt hk hzd
          go_wp2
          clear ht
          go_loopw [3,5] (fun bv iv W=>∃ m:Nat,m≤8∧iv=.int .i64 (7-(m:Int))∧EX w W bv (padTo s k++lenBytes s.size m)) (fun _ iv _=>(intOf iv+1).toNat)
          case atStart=>exact ⟨0,by omega,rfl,by simpa [lenBytes] using HX.out⟩
          case round=>
            obtain ⟨m,hm,rfl,hX⟩:=hrel
            clear HX
            have HX:=Lib.hid hX
            clear hX
            by_cases hlt:m<8
            · have q0:(0:Int)≤7-(m:Int):=by omega
              have q1:(m:Int)≤7:=by omega
              obtain ⟨ha,W4,hW4,v4,hv4,h4⟩:=HX.out.app (by rw [List.length_append,padTo_length];have:=HK.out;unfold zerosN at this;simp [lenBytes];omega) (8*(s.size:Int) / 2 ^ (8*(7-m)) % 256)
              have H4:=Lib.hid h4
              clear h4
              go_wp2
              go_roundw
              case rel=>exact ⟨m+1,by omega,by go_num,by rw [lenBytes_succ,← List.append_assoc];exact H4.out⟩
              case measure=>simp [intOf];omega
            · have HM:=Lib.hid (show m=8 by omega)
              have q2:decide ((m:Int)≤7)=false:=by simp;omega
              go_wp2
              go_ret
              refine ⟨_,rfl,?_⟩
              unfold padded
              rw [← HK.out,← HM.out]
              exact HX.out
end Go.Proofs.YtnajpjnnlocfgaaGreatDoor
