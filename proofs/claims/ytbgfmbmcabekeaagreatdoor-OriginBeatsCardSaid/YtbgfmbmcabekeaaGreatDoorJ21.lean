/-
  Stores of whole rings and heads; what stays where a ring is set.
-/
import Derived.Test.YtbgfmbmcabekeaaGreatDoorJ12
set_option linter.unusedSimpArgs false
set_option linter.unusedVariables false

namespace Go.Proofs.YtbgfmbmcabekeaaGreatDoor
open Go.RowKit Go.Shelf

/-- a ring is stored as a whole -/
theorem store_ring {ops : Array Oper} {rest : List Oper} {o : Oper} {a : Act} {w : World} {Q : Exit → Act → World → Prop} (hgd : o.guard = none) (x y : Operand) (ho : o.op = .store 30 x y)
    (g : Nat) (ep : Int) (A B : Option Addr) (n c m d : Nat) (hx : a.eval x = .pointer (some ⟨g, 0, none⟩)) (hy : a.eval y = .agg #[.int .i64 ep, .slice A n c, .slice B m d])
    (old : Array Value) (hg : Blk w g 30 old) (hs : old.size = 3)
    (h : ∀ W', Blk W' g 30 #[.int .i64 ep, .slice A n c, .slice B m d] → w.grownBy W' (some g) → wpList Tryz.prog ops Q rest (a.put o.dst undef) W') : wpList Tryz.prog ops Q (o :: rest) a w :=
  wpList_store_blk hgd 30 x y ho g #[.int .i64 ep, .slice A n c, .slice B m d] hx hy 30 old hg (show (Tryz.prog.info? 30).map (·.size) = some 3 by kernel_rfl) hs (by simp [Value.oneCell']) h
theorem ext_put3 {w W W' : World} {g : Nat} {o : Obj} (hW : W = w) (hb : (w.alloc o).grownBy W' (some g)) (hg : g = w.heap.size) : Below w.heap.size w W' :=
  (ext_new w o).grown hb (ext_new w o).size (fun k e => by have e2 : g = k := Option.some.inj e; omega)
/-- lists of a ring keep where the server's blocks change -/
theorem MemsAt.srv {W W' : World} {gs gl gst gn gp np cp nm cm no co : Nat} {lag ep sent : Int} {Am Ao : Option Addr} {kv : List (Int × Value)} {v : Value} {ns : List Nat} (h : MemsAt W v ns) (hs : SrvAt W gs gl gst gn gp np cp lag ep sent Am nm cm Ao no co) (hm : MapI W gn kv) (k : ExtS (fun j => j = gs ∨ j = gn) W W') : MemsAt W' v ns :=
  h.extS k (fun b off x y z h0 h1 h2 => by rintro (e | e); exact SrvAt.ne3 hs h0 h1 h2 e; exact MapI.ne hm h0 e)
theorem NumsAt.srv {W W' : World} {gs gl gst gn gp np cp nm cm no co : Nat} {lag ep sent : Int} {Am Ao : Option Addr} {kv : List (Int × Value)} {v : Value} {os : List Nat} (h : NumsAt W v os) (hl : os.length = 64) (hs : SrvAt W gs gl gst gn gp np cp lag ep sent Am nm cm Ao no co) (hm : MapI W gn kv) (k : ExtS (fun j => j = gs ∨ j = gn) W W') : NumsAt W' v os :=
  h.extS (by omega) k (fun b off x y z h0 h1 h2 => by rintro (e | e); exact SrvAt.ne3 hs h0 h1 h2 e; exact MapI.ne hm h0 e)
theorem Blk.srv {W W' : World} {gs gl gst gn gp np cp nm cm no co b : Nat} {t : TypeId} {cs : Array Value} {lag ep sent : Int} {Am Ao : Option Addr} {kv : List (Int × Value)} (h : Blk W b t cs) (ht : t ≠ 101) (hs : SrvAt W gs gl gst gn gp np cp lag ep sent Am nm cm Ao no co) (hm : MapI W gn kv) (k : ExtS (fun j => j = gs ∨ j = gn) W W') : Blk W' b t cs :=
  ExtS.blk h k (by rintro (e | e); exact blkNe h hs ht e; exact MapI.neBlk hm h e)

end Go.Proofs.YtbgfmbmcabekeaaGreatDoor
