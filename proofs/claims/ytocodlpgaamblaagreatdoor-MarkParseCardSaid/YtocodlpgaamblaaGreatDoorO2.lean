/- Marks as trees: what they mean, their normal form, how many there are. -/
import Derived.Test.YtocodlpgaamblaaGreatDoorO1
set_option linter.unusedVariables false
set_option linter.unusedSimpArgs false
open Go.RowKit
namespace Go.Proofs.YtocodlpgaamblaaGreatDoor
inductive Mk where
 | node (op:ByteArray) (a b:Int) (kids:List Mk)
def Mk.op:Mk->ByteArray | .node op _ _ _=>op
def Mk.a:Mk->Int | .node _ a _ _=>a
def Mk.b:Mk->Int | .node _ _ b _=>b
def Mk.kids:Mk->List Mk | .node _ _ _ ks=>ks
theorem Mk.ind {P:Mk->Prop} (h:∀op a b ks,(∀k∈ks,P k)->P (.node op a b ks)):∀m,P m :=
 fun m=>Mk.rec (motive_1:=P) (motive_2:=fun ks=>∀k∈ks,P k) (fun op a b ks ih=>h op a b ks ih) (fun _ hk=>absurd hk List.not_mem_nil)
  (fun x xs hx hxs k hk=>by
   rcases List.mem_cons.1 hk with e|hk
   ·exact e ▸ hx
   ·exact hxs k hk) m
mutual
def Mk.size:Mk->Nat | .node _ _ _ ks=>Mk.sizeL ks+1
def Mk.sizeL:List Mk->Nat | []=>0 | k :: ks=>k.size+Mk.sizeL ks
end
mutual
def Mk.depth:Mk->Nat | .node _ _ _ ks=>Mk.depthL ks+1
def Mk.depthL:List Mk->Nat | []=>0 | k :: ks=>max k.depth (Mk.depthL ks)
end
theorem Mk.size_mem {k:Mk} {ks:List Mk} (h:k∈ks):k.size<=Mk.sizeL ks:=by
 induction ks with
 | nil=>cases h
 | cons x xs ih =>
   rcases List.mem_cons.1 h with e|h
   ·subst e;simp[Mk.sizeL]
   ·have:=ih h;simp[Mk.sizeL];omega
mutual
def Mk.val:Mk->(ByteArray->Int->Int->Bool)->Bool
 | .node op a b ks,f=>if op=⟨#[97,110,100]⟩ then Mk.allV ks f else if op=⟨#[111,114]⟩ then Mk.anyV ks f else if op=⟨#[110,111,116]⟩ then !Mk.anyV ks f else f op a b
def Mk.allV:List Mk->(ByteArray->Int->Int->Bool)->Bool | [],_=>true | k :: ks,f=>k.val f && Mk.allV ks f
def Mk.anyV:List Mk->(ByteArray->Int->Int->Bool)->Bool | [],_=>false | k :: ks,f=>k.val f || Mk.anyV ks f
end
theorem Mk.allV_eq (ks:List Mk) (f):Mk.allV ks f=ks.all (·.val f):=by
 induction ks with
 | nil=>rfl
 | cons x xs ih=>simp[Mk.allV,ih]
theorem Mk.anyV_eq (ks:List Mk) (f):Mk.anyV ks f=ks.any (·.val f):=by
 induction ks with
 | nil=>rfl
 | cons x xs ih=>simp[Mk.anyV,ih]
mutual
def Mk.norm : Mk -> Bool -> Mk
 | .node op a b ks, no =>
   if op=⟨#[97,110,100]⟩∨op=⟨#[111,114]⟩ then .node (if decide (op=⟨#[111,114]⟩) != no then⟨#[111,114]⟩ else⟨#[97,110,100]⟩) 0 0 (Mk.normL ks no)
   else if op=⟨#[110,111,116]⟩ then
    match Mk.normL ks (!no)with
    | [k]=>k
    | l=>.node (if no then⟨#[111,114]⟩ else⟨#[97,110,100]⟩) 0 0 l
   else if no then .node ⟨#[110,111,116]⟩ 0 0 [.node op a b []] else .node op a b []
def Mk.normL:List Mk->Bool->List Mk | [],_=>[] | k :: ks,no=>k.norm no :: Mk.normL ks no
end
theorem Mk.normL_eq (ks:List Mk) (no):Mk.normL ks no=ks.map (·.norm no):=by
 induction ks with
 | nil=>rfl
 | cons x xs ih=>simp[Mk.normL,ih]
abbrev nAnd:ByteArray:=⟨#[97,110,100]⟩
abbrev nOr:ByteArray:=⟨#[111,114]⟩
abbrev nNot:ByteArray:=⟨#[110,111,116]⟩
abbrev joinOp (b:Bool):ByteArray:=if b then nOr else nAnd
theorem norm_join {op:ByteArray} (a b:Int) (ks:List Mk) (no:Bool) (h:op=nAnd∨op=nOr):(Mk.node op a b ks).norm no=.node (joinOp (decide (op=nOr) != no)) 0 0 (ks.map (·.norm no)):=by
 simp only[Mk.norm,if_pos h,Mk.normL_eq]
theorem norm_not1 (a b:Int) (k:Mk) (no:Bool):(Mk.node nNot a b [k]).norm no=k.norm (!no):=by
 simp[Mk.norm,Mk.normL]
theorem norm_not (a b:Int) (ks:List Mk) (no:Bool) (h:ks.length≠1):(Mk.node nNot a b ks).norm no=.node (joinOp no) 0 0 (ks.map (·.norm !no)):=by
 simp only[Mk.norm,Mk.normL_eq];rw[if_neg (by decide),if_pos trivial];split
 ·rename_i k hk
  have:=congrArg List.length hk;simp at this;exact absurd this h
 ·rfl
theorem norm_alone {op:ByteArray} (a b:Int) (ks:List Mk) (no:Bool) (h:¬ (op=nAnd∨op=nOr)) (h2:op≠nNot):(Mk.node op a b ks).norm no=if no then .node nNot 0 0 [.node op a b []] else .node op a b []:=by
 simp only[Mk.norm];rw[if_neg h,if_neg h2]
theorem val_and (a b:Int) (ks:List Mk) (f):(Mk.node nAnd a b ks).val f=ks.all (·.val f):=by simp[Mk.val,Mk.allV_eq]
theorem val_or (a b:Int) (ks:List Mk) (f):(Mk.node nOr a b ks).val f=ks.any (·.val f):=by
 simp only[Mk.val,Mk.anyV_eq];rw[if_neg (by decide),if_pos trivial]
theorem val_not (a b:Int) (ks:List Mk) (f):(Mk.node nNot a b ks).val f = !ks.any (·.val f):=by
 simp only[Mk.val,Mk.anyV_eq];rw[if_neg (by decide),if_neg (by decide),if_pos trivial]
theorem val_alone {op:ByteArray} (a b:Int) (ks:List Mk) (h:¬ (op=nAnd∨op=nOr)) (h2:op≠nNot) (f):(Mk.node op a b ks).val f=f op a b:=by
 have h3:=not_or.1 h;simp only[Mk.val];rw[if_neg h3.1,if_neg h3.2,if_neg h2]
def cntL (f:Mk->Nat) (most:Nat):List Mk->Nat->Nat
 | [],n=>n
 | k :: ks,n=>if most<n+f k then most+1 else cntL f most ks (n+f k)
def cntP (most:Nat):Nat->Mk->Nat
 | 0,_=>most+1
 | d+1,m=>cntL (cntP most d) most m.kids 1
theorem cntL_is (f:Mk->Nat) (most d:Nat) (ks:List Mk) (hf:∀k∈ks,(f k<=most ↔ k.size<=most∧k.depth<=d)∧(f k<=most->f k=k.size)) :
 ∀n,n<=most->(cntL f most ks n<=most ↔ n+Mk.sizeL ks<=most∧Mk.depthL ks<=d)∧(cntL f most ks n<=most->cntL f most ks n=n+Mk.sizeL ks)∧cntL f most ks n<=most+1:=by
 induction ks with
 | nil=>intro n hn;simp[cntL,Mk.sizeL,Mk.depthL,hn];omega
 | cons k ks ih =>
   intro n hn;obtain⟨h1,h2⟩:=hf k (List.mem_cons_self ..);have ih':=ih (fun x hx=>hf x (List.mem_cons_of_mem _ hx));simp only[cntL,Mk.sizeL,Mk.depthL];by_cases hb:most<n+f k
   ·rw[if_pos hb];refine⟨⟨fun h=>absurd h (by omega),fun h=>?_⟩,fun h=>absurd h (by omega),by omega⟩;have:=h2 (h1.2 ⟨by omega,by omega⟩);omega
   ·rw[if_neg hb];have hk:f k<=most:=by omega
    have e:=h2 hk;obtain⟨i1,i2,i3⟩:=ih' (n+f k) (by omega);have hd:=(h1.1 hk).2;refine⟨⟨fun h=>?_,fun h=>?_⟩,fun h=>?_,i3⟩
    ·have:=i1.1 h;omega
    ·exact i1.2 ⟨by omega,by omega⟩
    ·have:=i2 h;omega
theorem cntP_is (most:Nat) (hm:1<=most):∀d m,(cntP most d m<=most ↔ m.size<=most∧m.depth<=d)∧(cntP most d m<=most->cntP most d m=m.size)∧cntP most d m<=most+1:=by
 intro d
 induction d with
 | zero =>
   intro m;cases m;simp only[cntP,Mk.depth];exact⟨⟨fun h=>absurd h (by omega),fun h=>absurd h.2 (by omega)⟩,fun h=>absurd h (by omega),Nat.le_refl _⟩
 | succ d ih =>
   intro m;cases m with
   | node op a b ks =>
     obtain⟨h1,h2,h3⟩:=cntL_is (cntP most d) most d ks (fun k _=>⟨(ih k).1,(ih k).2.1⟩) 1 hm;simp only[cntP,Mk.kids,Mk.size,Mk.depth];refine⟨⟨fun h=>?_,fun h=>h1.2 ⟨by omega,by omega⟩⟩,fun h=>?_,h3⟩
     ·have:=h1.1 h;omega
     ·have:=h2 h;omega
theorem cntP_over {most d:Nat} {m:Mk} (hm:1<=most):most<cntP most d m ↔ most<m.size∨d<m.depth:=by
 have:=(cntP_is most hm d m).1;constructor
 ·intro h;by_cases h1:most<m.size
  ·exact .inl h1
  ·exact .inr (by
    by_cases h2:d<m.depth
    ·exact h2
    ·exact absurd (this.2 ⟨by omega,by omega⟩) (by omega))
 ·intro h;by_cases h1:cntP most d m<=most
  ·have:=this.1 h1;omega
  ·omega
end Go.Proofs.YtocodlpgaamblaaGreatDoor
