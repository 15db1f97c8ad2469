/-
  wire.groups and PutInt at any number.
-/
import Derived.Test.YtnajpjnnlocfgaaGreatDoorJ14
set_option linter.unusedSimpArgs false
set_option linter.unusedVariables false
set_option maxRecDepth 100000
namespace Go.Proofs.YtnajpjnnlocfgaaGreatDoor
open Go.RowKit Go.Shelf
def cellN (W:World) (b:Nat):Nat:=match W.cell? ⟨b,0,none⟩ with|some (.int _ n)=>n.toNat|_=>0
theorem and127_nat (z:Nat) (hz:z<18446744073709551616):bits BinOp.and IntKind.u64 (z:Int) 127=((z % 128:Nat):Int):=by
  have h:=bits_and_u64_nat z 127 hz (by omega)
  rw [show ((127:Nat):Int)=127 from rfl] at h
  rw [h]
  congr 1
  exact Nat.and_two_pow_sub_one_eq_mod z 7
theorem or128 (g:Nat) (hg:g<128):bits BinOp.or IntKind.u8 (g:Int) 128=((g+128:Nat):Int):=by
  have h:∀ z:Fin 128,bits BinOp.or IntKind.u8 ((z.1:Nat):Int) 128=((z.1+128:Nat):Int):=by decide +kernel
  exact h ⟨g,hg⟩
theorem xor_zero64 (m:Nat) (hm:m<4611686018427387904):bits BinOp.xor IntKind.u64 ((m:Int)*2) 0=((2*m:Nat):Int):=by
  have h:=bits_xor_u64_nat (2*m) 0 (by omega) (by omega)
  rw [Nat.xor_zero] at h
  rw [← h]
  congr 1
  omega
theorem xor_ones (a:Nat) (ha:a<18446744073709551616):a ^^^ 18446744073709551615=18446744073709551615-a:=by
  have h:(BitVec.ofNat 64 a ^^^ BitVec.allOnes 64).toNat=(~~~ BitVec.ofNat 64 a).toNat:=by rw [BitVec.xor_allOnes]
  rw [BitVec.toNat_xor,BitVec.toNat_not,BitVec.toNat_ofNat,BitVec.toNat_allOnes,Nat.mod_eq_of_lt (by omega)] at h
  simpa using h
theorem xor_neg64 (m:Nat) (hm:m<4611686018427387904):bits BinOp.xor IntKind.u64 (IntKind.u64.wrap (IntKind.u64.wrap (-(m:Int)-1)*2)) (IntKind.u64.wrap (-1))=((2*m+1:Nat):Int):=by
  have h1:IntKind.u64.wrap (IntKind.u64.wrap (-(m:Int)-1)*2)=((18446744073709551614-2*m:Nat):Int):=by
    rw [IntKind.wrap_u64,IntKind.wrap_u64]
    omega
  have h2:IntKind.u64.wrap (-1)=((18446744073709551615:Nat):Int):=by rw [IntKind.wrap_u64];omega
  rw [h1,h2,bits_xor_u64_nat _ _ (by omega) (by omega),xor_ones _ (by omega)]
  congr 1
  omega
theorem shr7_exec {w:World} {ρ:Operand→Value} {d:Option Tmp} {x:Operand} {t u:TypeId} {p:String} {af:Array Edge} {g:Option (Nat × Bool)} {z:Nat} (h:ρ x=.int .u64 (z:Int)) (hc:ρ (.const (.int .u64 7))=.int .u64 7) (hz:z<18446744073709551616) :
    (execOp ρ { dst:=d,op:=.binOp .shr 223 x (.const (.int .u64 7)) u,type:=t,pos:=p,after:=af,guard:=g }).run Tryz.prog w=.ok (.value (.int .u64 ((z:Int) / 128))) w:=by
  unfold execOp
  simp only [Sem.run_bind,Sem.run_pure,Result.andThen_ok,h,hc]
  have e1:(0:Int)≤(z:Int):=by omega
  have e2:(z:Int)≤18446744073709551615:=by omega
  go_simp
theorem shr7_sem {w:World} {ro:Option Nat} {ρ:Operand→Value} {d:Option Tmp} {x:Operand} {t u:TypeId} {p:String} {af:Array Edge} {g:Option (Nat × Bool)} {z:Nat} (h:ρ x=.int .u64 (z:Int)) (hc:ρ (.const (.int .u64 7))=.int .u64 7) (hz:z<18446744073709551616) :
    (Oper.semAt ro ρ { dst:=d,op:=.binOp .shr 223 x (.const (.int .u64 7)) u,type:=t,pos:=p,after:=af,guard:=g }).run Tryz.prog w=.ok (.value (.int .u64 ((z:Int) / 128))) w:=by
  rw [Oper.semAt_eq ro ρ _ (by intro c h;cases h)]
  exact shr7_exec h hc hz
attribute [local go_sem] Oper.semAt_some
attribute [local go_sem ↓] Go.wp_at_zero Go.wp_at_succ
set_option maxHeartbeats 1000000 in
theorem groupsS_seq (n:Nat) (hn:1≤n) (Bz z L:Nat) (hL:L=grpL 9 z) (hz:z<18446744073709551616) :
    SeqWr n Tryz.prog 173 #[.pointer (some ⟨Bz,0,none⟩)] (L+1) (fun j=>j=Bz) (fun W=>Blk W Bz 223 #[.int .u64 (z:Int)]) (fun k=>#[.int .u8 (grpN z k:Int),.bool (decide (k=L))]):=by
  intro l J W hA hY h0 hC
  have HA:=Lib.hid hA
  have HY:=Lib.hid hY
  have H0:=Lib.hid h0
  have HC:=Lib.hid hC
  have hze:z<128 ^ (9+1):=by omega
  have HLT:=Lib.hid (fun k=>grpL_lt 9 z k hze)
  have HEND:=Lib.hid (grpL_end 9 z hze)
  rw [← hL] at HLT HEND
  clear hA hY h0 hC hL hze
  refine callsIn_of_wp Tryz.func173 rfl trivial ?_ rfl
  simp only [Tryz.ntmps173,List.size_toArray,List.length_cons,List.length_nil,Nat.reduceAdd,Nat.reduceSub,Array.replicate_succ,Array.replicate_zero,List.push_toArray,List.append_toArray,List.nil_append,List.cons_append]
  gi_wp2
  gi_loopw [3] (fun _ wr=>∃ k:Nat,k≤L∧J k wr∧Blk wr Bz 223 #[.int .u64 ((z / 128 ^ k:Nat):Int)]) (fun _ W=>cellN W Bz)
  case atStart=>exact ⟨0,Nat.zero_le _,H0.out,by simpa using HC.out⟩
  case round=>
    obtain ⟨k,hk,hJ,hB⟩:=hrel
    obtain ⟨zk,hzk⟩:∃ zk,zk=z / 128 ^ k:=⟨_,rfl⟩
    rw [← hzk] at hB
    have HZK:=Lib.hid hzk
    have hzk64:zk<18446744073709551616:=by rw [hzk];exact Nat.lt_of_le_of_lt (Nat.div_le_self _ _) hz
    have HJ:=Lib.hid hJ
    have HB:=Lib.hid hB
    have b0:=hB.cell 0
    have bf:=hB.frozen 0
    have bl:=hB.lt
    have hand:=and127_nat zk hzk64
    obtain ⟨g,hg⟩:∃ g,g=zk % 128:=⟨_,rfl⟩
    rw [← hg] at hand
    have hg128:g<128:=by omega
    have HG:=Lib.hid (show grpN z k=g by rw [hg,hzk];rfl)
    have hmod:(g:Int) % 256=(g:Int):=by omega
    have HM:=Lib.hid (show cellN wr Bz=zk by unfold cellN;rw [hB.cell];rfl)
    clear hJ hB hzk hg H0 HC
    by_cases hlast:zk<128
    · have hkL:k=L:=by
        have h9:=HLT.out k
        rw [← HZK.out] at h9
        omega
      have d1:decide ((zk:Int)<128)=true:=decide_eq_true (by omega)
      have q1:(zk:Int)<128:=by omega
      have hkl:decide (k=L)=true:=decide_eq_true hkL
      obtain ⟨fn,tmps,assign,body,hy,hR⟩:=HY.out k wr (by omega) HJ.out
      rw [HG.out,hkl] at hy
      gi_wp2
      refine hR.mono ?_
      rintro e W3 ⟨rfl,hJ3,hS3⟩
      have HJ3:=Lib.hid hJ3
      clear hJ3 hR hy hS3
      gi_wp2
      refine bodyPost_ret (results_none rfl _ _ _) rfl ⟨⟨_,rfl⟩,?_⟩
      rw [← hkL]
      exact HJ3.out
    · have hkL:k<L:=by
        rcases Nat.lt_or_ge k L with h|h
        · exact h
        · have h9:=HEND.out
          rw [show L=k by omega,← HZK.out] at h9
          omega
      have d1:decide ((zk:Int)<128)=false:=decide_eq_false (by omega)
      have q1:¬ (zk:Int)<128:=by omega
      have hkl:decide (k=L)=false:=decide_eq_false (by omega)
      obtain ⟨fn,tmps,assign,body,hy,hR⟩:=HY.out k wr (by omega) HJ.out
      rw [HG.out,hkl] at hy
      gi_wp2
      refine hR.mono ?_
      rintro e W3 ⟨rfl,hJ3,hS3⟩
      have HJ3:=Lib.hid hJ3
      have HB3:=Lib.hid (show Blk W3 Bz 223 #[.int .u64 (zk:Int)] from (hS3 Bz rfl HB.out.lt).trans HB.out)
      clear hJ3 hR hy hS3 b0 bf bl
      have b0:=HB3.out.cell 0
      have bf:=HB3.out.frozen 0
      have bl:=HB3.out.lt
      have hsr:∀ ρ:Operand→Value,ρ (.tmp 16)=.int .u64 (zk:Int)→ρ (.const (.int .u64 7))=.int .u64 7→(Oper.semAt Fence.wide.round ρ { dst:=some 17,op:=.binOp .shr 223 (.tmp 16) (.const (.int .u64 7)) 169,type:=223,pos:="wire.go:18",after:=#[{ on:=0,ground:=.data }],guard:=none }).run Tryz.prog W3=.ok (.value (.int .u64 ((zk:Int) / 128))) W3:=fun ρ h1 h2=>shr7_sem h1 h2 hzk64
      gi_wp2
      go_roundw
      case rel=>
        refine ⟨k+1,by omega,HA.out _ _ _ HJ3.out (ExtS.set1 _ _ _ _),?_⟩
        have h9:=HB3.out.set_ 0 (.int .u64 ((zk:Int) / 128))
        rw [show z / 128 ^ (k+1)=zk / 128 by rw [Nat.pow_succ,← Nat.div_div_eq_div_mul,← HZK.out]]
        exact h9
      case measure=>
        rw [HM.out]
        have h9:=(HB3.out.set_ 0 (.int .u64 ((zk:Int) / 128))).cell 0
        unfold cellN
        rw [h9]
        show ((zk:Int) / 128).toNat<zk
        omega
end Go.Proofs.YtnajpjnnlocfgaaGreatDoor
