/- The reference's New on valid catalogs whose names differ. -/
import Derived.Test.YthjfdfdgbpbanaaGreatDoorM1x1
import Derived.Test.YthjfdfdgbpbanaaGreatDoorM1x15
import Derived.Deep.CutBlock
import Derived.Deep.DeepCutAuto
import Derived.Deep.RegionHeld3
import Derived.BigQuiet
import Derived.Maps.AppendAt
set_option linter.unusedVariables false
set_option linter.unusedSimpArgs false
open Go.RowKit
namespace Go.Proofs.YthjfdfdgbpbanaaGreatDoor
section
/-- The memory of the reference's New: w is the world at its call. -/
structure RnAt (w V : World) (io ro to_ xo ix rx tx xx R : Sl) (lo ln : List It) (rs : List Ren) : Prop where
 b1:Bk V w.heap.size 28 (catSL io ro to_ xo)
 b2:Bk V (w.heap.size+1) 28 (catSL ix rx tx xx)
 li:ItsR V io.A io.n lo
 lx:ItsR V ix.A ix.n ln
 lr:RensV V R.A R.n rs
 bel:Below w.heap.size w V
theorem RnAt.below {w V V':World} {io ro to_ xo ix rx tx xx R:Sl} {lo ln:List It} {rs:List Ren} (h:RnAt w V io ro to_ xo ix rx tx xx R lo ln rs) (hb:Below V.heap.size V V'):RnAt w V' io ro to_ xo ix rx tx xx R lo ln rs :=
 ⟨h.b1.below hb h.b1.lt,h.b2.below hb h.b2.lt,h.li.below hb,h.lx.below hb,h.lr.below hb,h.bel.trans (hb.mono h.bel.size)⟩
/-- A row of counterparts, and one in its box g. -/
structure XAt (V W : World) (v : Value) (n : Nat) (l : List Tr) (g : Nat) (t : Tr) : Prop where
 own:W.ownsRow V.heap.size 68 3 v n (tcells l)
 bx:Bk W g 68 [.int .i64 t.1,.int .i64 t.2.1,.int .i64 t.2.2]
 ne:v.ownBlock≠some g
 ge:V.heap.size≤g
 bel:Below V.heap.size V W
section
variable {V W W' : World} {v : Value} {n : Nat} {l : List Tr} {g : Nat} {t : Tr}
theorem XAt.below (h:XAt V W v n l g t) (hb:Below W.heap.size W W'):XAt V W' v n l g t :=
 ⟨h.own.kept (grown_of_below hb (some g)) (.inr h.ne),h.bx.below hb h.bx.lt,h.ne,h.ge,h.bel.trans (hb.mono h.bel.size)⟩
theorem XAt.set1 (h:XAt V W v n l g t) (u:Int):XAt V (W.setCell ⟨g,0,none⟩ (.int .i64 u)) v n l g (u,t.2.1,t.2.2):=by
 have hg:=grown_setCell W g 0 (.int .i64 u);exact⟨h.own.kept hg (.inr h.ne),h.bx.set 0 _,h.ne,h.ge,h.bel.setCell h.ge _⟩
theorem XAt.set2 (h:XAt V W v n l g t) (u:Int):XAt V (W.setCell ⟨g,1,none⟩ (.int .i64 u)) v n l g (t.1,u,t.2.2):=by
 have hg:=grown_setCell W g 1 (.int .i64 u);exact⟨h.own.kept hg (.inr h.ne),h.bx.set 1 _,h.ne,h.ge,h.bel.setCell h.ge _⟩
theorem XAt.set3 (h:XAt V W v n l g t) (u:Int):XAt V (W.setCell ⟨g,2,none⟩ (.int .i64 u)) v n l g (t.1,t.2.1,u):=by
 have hg:=grown_setCell W g 2 (.int .i64 u);exact⟨h.own.kept hg (.inr h.ne),h.bx.set 2 _,h.ne,h.ge,h.bel.setCell h.ge _⟩
theorem XAt.put (h:XAt V W v n l g t) (u:Tr):XAt V (((W.setCell ⟨g,0,none⟩ (.int .i64 u.1)).setCell ⟨g,1,none⟩ (.int .i64 u.2.1)).setCell ⟨g,2,none⟩ (.int .i64 u.2.2)) v n l g u :=
 ((h.set1 u.1).set2 u.2.1).set3 u.2.2
end
def xL (lo ln:List It) (rs:List Ren) (k:Nat):List Tr:=(List.range k).map fun i=>xTo lo ln rs i rs.length
@[simp] theorem xL_length (lo ln : List It) (rs : List Ren) (k : Nat) : (xL lo ln rs k).length = k := by simp [xL]
end
end Go.Proofs.YthjfdfdgbpbanaaGreatDoor
