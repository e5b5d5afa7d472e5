/- The plain law of amounts that come back. -/
import Derived.Test.YthjfdfdgbpbanaaGreatDoorX21
set_option linter.unusedVariables false
set_option linter.unusedSimpArgs false
open Go.RowKit
namespace Go.Proofs.YthjfdfdgbpbanaaGreatDoor
inductive SubA : List P2 -> List P2 -> Prop where
 | nil:SubA [] []
 | skip {t b:List P2} (p:P2):SubA t b->SubA (t ++ [p]) b
 | take {t b:List P2} (x N m:Int):SubA t b->1<=m->m<=N->SubA (t ++ [(x,N)]) (b ++ [(x,m)])
theorem SubA.len {t b:List P2} (h:SubA t b):b.length<=t.length:=by
 induction h with
 | nil=>exact Nat.le_refl _
 | skip p _ ih=>simp;omega
 | take x N m _ _ _ ih=>simp;omega
theorem SubA.empty (t:List P2):SubA t []:=by
 have:∀k,k<=t.length->SubA (t.take k) []:=by
  intro k
  induction k with
  | zero=>intro _;exact .nil
  | succ k ih=>intro hk;rw[List.take_succ_eq_append_getElem (by omega)];exact .skip _ (ih (by omega))
 have h:=this t.length (Nat.le_refl _)
 rwa [List.take_length]at h
theorem Am.init {n:Nat} {l:List P2} {p:P2} (h:Am n (l ++ [p])):Am n l:=⟨(List.pairwise_append.1 h.1).1,fun q hq=>h.2 q (List.mem_append_left _ hq)⟩
theorem SubA.am {n:Nat} {t b:List P2} (h:SubA t b):Am n t->Am n b∧∀q∈b,∃p∈t,p.1=q.1∧q.2<=p.2:=by
 induction h with
 | nil=>intro h;exact⟨h,by simp⟩
 | skip p _ ih =>
   intro h;obtain⟨h1,h2⟩:=ih h.init;refine⟨h1,fun q hq=>?_⟩;obtain⟨p',hp',e⟩:=h2 q hq;exact⟨p',List.mem_append_left _ hp',e⟩
 | take x N m _ h1 h2 ih =>
   intro h;obtain⟨i1,i2⟩:=ih h.init;have hx:=h.2 (x,N) (by simp);dsimp only at hx;refine⟨⟨List.pairwise_append.2 ⟨i1.1,by simp,fun a ha c hc=>?_⟩,fun p hp=>?_⟩,fun q hq=>?_⟩
   ·rw[List.mem_singleton.1 hc];obtain⟨p',hp',e,_⟩:=i2 a ha;have:=(List.pairwise_append.1 h.1).2.2 p' hp' (x,N) (by simp);rw[<- e];exact this
   ·rcases List.mem_append.1 hp with hp | hp
    ·exact i1.2 p hp
    ·rw[List.mem_singleton.1 hp];dsimp only;omega
   ·rcases List.mem_append.1 hq with hq | hq
    ·obtain⟨p',hp',e⟩:=i2 q hq;exact⟨p',List.mem_append_left _ hp',e⟩
    ·rw[List.mem_singleton.1 hq];exact⟨(x,N),by simp,rfl,h2⟩
theorem unitsW_at {n:Nat} {l:List P2} (h:Am n l) {j:Nat} (hj:j<l.length):∀k,k<=l.length->unitsW l l[j].1 k=if j<k then l[j].2 else 0:=by
 intro k
 induction k with
 | zero=>intro _;simp[unitsW]
 | succ k ih =>
   intro hk;have hkl:k<l.length:=by omega
   have e1:itemK l k=l[k].1:=by simp[itemK,hkl]
   have e2:nK l k=l[k].2:=by simp[nK,hkl]
   have hm:=h.2 l[k] (List.getElem_mem hkl);simp only[unitsW,ih (by omega),e1,e2];rcases Nat.lt_trichotomy j k with h1|h1|h1
   ·have:=List.pairwise_iff_getElem.1 h.1 j k hj hkl h1;rw[if_neg (by omega),if_pos h1,if_pos (by omega)]
   ·subst h1;rw[if_pos rfl,if_neg (by omega),if_pos (by omega),Int.zero_add];exact IntWalk.i64_in _ (by omega)
   ·have:=List.pairwise_iff_getElem.1 h.1 k j hkl hj h1;rw[if_neg (by omega),if_neg (by omega),if_neg (by omega)]
theorem unitsW_mem {n:Nat} {l:List P2} (h:Am n l) {p:P2} (hp:p∈l):unitsW l p.1 l.length=p.2:=by
 obtain⟨j,hj,rfl⟩:=List.getElem_of_mem hp;rw[unitsW_at h hj _ (Nat.le_refl _),if_pos hj]
theorem SubA.cont {n:Nat} {t b:List P2} (h:SubA t b) (ht:Am n t):contB t b=true:=by
 obtain⟨hb,hs⟩:=h.am ht;have key:∀k,k<=b.length->contTo t b k=true:=by
  intro k
  induction k with
  | zero=>intro _;rfl
  | succ k ih =>
    intro hk;have hkl:k<b.length:=by omega
    have e1:itemK b k=b[k].1:=by simp[itemK,hkl]
    obtain⟨p,hp,e,hle⟩:=hs b[k] (List.getElem_mem hkl);have u1:=unitsW_mem hb (List.getElem_mem hkl);have u2:=unitsW_mem ht hp;rw[e]at u2;simp only[contTo,ih (by omega),Bool.true_and,e1,u1,u2,decide_eq_true_eq];exact hle
 exact key _ (Nat.le_refl _)
end Go.Proofs.YthjfdfdgbpbanaaGreatDoor
