/- New and the reference's New on any catalogs answer alike. -/
import Derived.Test.YthjfdfdgbpbanaaGreatDoorX17
import Derived.Test.YthjfdfdgbpbanaaGreatDoorX18
set_option linter.unusedVariables false
set_option linter.unusedSimpArgs false
set_option maxRecDepth 100000
set_option maxHeartbeats 1000000
open Go.RowKit
namespace Go.Proofs.YthjfdfdgbpbanaaGreatDoor
def newCE (a b:CatM) (rs:List Ren):Int:=if codeBoth a b≠0 then codeBoth a b else newE a.items b.items rs
def newCL (a b:CatM) (rs:List Ren):List Tr:=if codeBoth a b≠0 then[] else newL a.items b.items rs
def NewC (w:World) (a b:CatM) (rs:List Ren) (e:Ending) (w':World):Prop :=
 ∃A c,e=.returned (.tuple #[.slice A (newCL a b rs).length c,.int .i64 (newCE a b rs)])∧FR w w' A (tcells (newCL a b rs))∧Below w.heap.size w w'
theorem NewC.bad {w w':World} {a b:CatM} {rs:List Ren} {q:Int} (hq:codeBoth a b=q) (h:q≠0) (hb:Below w.heap.size w w'):NewC w a b rs (.returned (.tuple #[.slice none 0 0,.int .i64 q])) w':=by
 have e1:newCL a b rs=[]:=by unfold newCL;rw[if_pos (by rw[hq];exact h)]
 have e2:newCE a b rs=q:=by unfold newCE;rw[if_pos (by rw[hq];exact h),hq]
 exact⟨none,0,by rw[e1,e2];rfl,by rw[e1];exact .inl rfl,hb⟩
theorem NewC.good {w w':World} {a b:CatM} {rs:List Ren} {e:Ending} (hq:codeBoth a b=0) (h:NewPost w a.items b.items rs e w'):NewC w a b rs e w':=by
 have e1:newCL a b rs=newL a.items b.items rs:=by unfold newCL;rw[if_neg (by rw[hq];simp)]
 have e2:newCE a b rs=newE a.items b.items rs:=by unfold newCE;rw[if_neg (by rw[hq];simp)]
 unfold NewC;rw[e1,e2];exact h
theorem codeBoth_zero {a b:CatM} (h:codeBoth a b=0):codeC a=0∧codeC b=0:=by
 unfold codeBoth at h;by_cases e:codeC a≠0
 ·rw[if_pos e]at h;exact absurd h e
 ·rw[if_neg e]at h;exact⟨by omega,h⟩
theorem code_parts {m:CatM} (h:codeC m=0):limC m=true∧fitB m=true∧diffC m=true∧wfC m=true∧rgC m=true:=by
 unfold codeC codeOf at h;cases h1:limC m
 ·rw[h1]at h;simp at h
 cases h2:fitB m
 ·rw[h1,h2]at h;simp at h
 cases h3:diffC m
 ·rw[h1,h2,h3]at h;simp at h
 cases h4:wfC m
 ·rw[h1,h2,h3,h4]at h;simp at h
 cases h5:rgC m
 ·rw[h1,h2,h3,h4,h5]at h;simp at h
 exact⟨rfl,rfl,rfl,rfl,rfl⟩
theorem dist_cat {m:CatM} (h:codeC m=0):Dist m.items:=by
 have:=(code_parts h).2.2.1;simp only[diffC,Bool.and_eq_true]at this;exact dist_of this.1.1.1
theorem New_cat {w:World} {a b:CatM} {R:Sl} {rs:List Ren} (ha:a.Ok w) (hb:b.Ok w) (hr:RensV w R.A R.n rs) (hT:Tab w) :
 Calls Tryz.prog 12 #[a.val,b.val,.slice R.A R.n R.c] w (NewC w a b rs):=by
 by_cases hq:codeBoth a b=0
 ·have:=New_valid2 (ro:=a.sr) (to_:=a.st) (xo:=a.sx) (rx:=b.sr) (tx:=b.st) (xx:=b.sx) (R:=R) ha.items.itsR hb.items.itsR hr (fun W hW=>by
   have h:=both_cat (ha.below hW) (hb.below hW) (hT.below hW hT.1)
   rw[hq]at h
   exact h)
  exact this.mono fun e w' h=>NewC.good hq h
 ·have X0:Below w.heap.size w ((w.alloc (catSO a.si a.sr a.st a.sx)).alloc (catSO b.si b.sr b.st b.sx)):=((Below.refl _ _).alloc (Nat.le_refl _) _).alloc (by simp) _;have K:=iH (both_cat (ha.below X0) (hb.below X0) (hT.below X0 hT.1));have HE:Hid (∀w',Below w.heap.size w w'->NewC w a b rs (.returned (.tuple #[.slice none 0 0,.int .i64 (codeBoth a b)])) w'):=fun w' h=>NewC.bad rfl hq h
  have e1:(codeBoth a b != 0)=true:=by simpa using hq
  generalize codeBoth a b=q at *;clear ha hb hr hT hq;go_enter Tryz.func12,Tryz.ntmps12;go_wp2_with fail;(with_reducible refine K.out.mono ?_);rintro e w1 ⟨rfl,hb1⟩;have HB:=iH (X0.trans (hb1.mono (by simp;omega)));clear hb1;go_wp2;exact bodyPost_ret (v:=.tuple #[.slice none 0 0,.int .i64 q]) (by simp[results,Tryz.results12,go_sem]) rfl (HE.out _ HB.out)
theorem rNew_cat {w:World} {a b:CatM} {R:Sl} {rs:List Ren} (ha:a.Ok w) (hb:b.Ok w) (hr:RensV w R.A R.n rs) :
 Calls Tryz.prog 14 #[a.val,b.val,.slice R.A R.n R.c] w (NewC w a b rs):=by
 by_cases hq:codeBoth a b=0
 ·obtain⟨c1,c2⟩:=codeBoth_zero hq;have:=rNew_valid (ro:=a.sr) (to_:=a.st) (xo:=a.sx) (rx:=b.sr) (tx:=b.st) (xx:=b.sx) (R:=R) ha.items.itsR hb.items.itsR hr (dist_cat c1) (dist_cat c2) (fun W hW=>by
   have h:=rboth_cat (ha.below hW) (hb.below hW)
   rw[hq]at h
   exact h)
  exact this.mono fun e w' h=>NewC.good hq h
 ·have X0:Below w.heap.size w ((w.alloc (catSO a.si a.sr a.st a.sx)).alloc (catSO b.si b.sr b.st b.sx)):=((Below.refl _ _).alloc (Nat.le_refl _) _).alloc (by simp) _;have K:=iH (rboth_cat (ha.below X0) (hb.below X0));have HE:Hid (∀w',Below w.heap.size w w'->NewC w a b rs (.returned (.tuple #[.slice none 0 0,.int .i64 (codeBoth a b)])) w'):=fun w' h=>NewC.bad rfl hq h
  have e1:(codeBoth a b != 0)=true:=by simpa using hq
  generalize codeBoth a b=q at *;clear ha hb hr hq;go_enter Tryz.func14,Tryz.ntmps14;go_wp2_with fail;(with_reducible refine K.out.mono ?_);rintro e w1 ⟨rfl,hb1⟩;have HB:=iH (X0.trans (hb1.mono (by simp;omega)));clear hb1;go_wp2;exact bodyPost_ret (v:=.tuple #[.slice none 0 0,.int .i64 q]) (by simp[results,Tryz.results14,go_sem]) rfl (HE.out _ HB.out)
end Go.Proofs.YthjfdfdgbpbanaaGreatDoor
