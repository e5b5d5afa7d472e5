/- The reference's tests of a catalog are those of package catalog: plain law. The reference's itemError on any item. The reference's ruleErrors on any rule. The reference's Valid on any catalog: what lies in memory, and the steps of its tests. -/
import Derived.Test.YthjfdfdgbpbanaaGreatDoorX8
import Derived.Test.YthjfdfdgbpbanaaGreatDoorX9
set_option linter.unusedVariables false
set_option linter.unusedSimpArgs false
set_option maxRecDepth 100000
set_option maxHeartbeats 2000000
open Go.RowKit
namespace Go.Proofs.YthjfdfdgbpbanaaGreatDoor
theorem all_and2 {α:Type} (l:List α) (f g:α->Bool):l.all (fun x=>f x && g x)=(l.all f && l.all g):=by
 induction l with
 | nil=>rfl
 | cons x l ih=>simp only[List.all_cons,ih];cases f x <;> cases g x <;> cases l.all f <;> simp
def refForm (m:CatM):Bool:=m.items.all itFormedB && m.rules.all (fun r=>ruFormed r && contB r.take r.back) && m.tables.all (fun t=>decide (0<t.rows.length)) && m.taxes.all wfX && (listsOf m).all (fun p=>sortB m.items.length p.2)
def refNum (m:CatM):Bool:=m.items.all itRangeB && m.rules.all ruRange && m.tables.all (fun t=>t.rows.all wtP) && m.taxes.all (fun t=>rangeB t.brs t.brs.length) && (listsOf m).all (fun p=>p.2.all unitP)
theorem lists_all (m:CatM) (P:List P2->Bool):(listsOf m).all (fun p=>P p.2)=(m.rules.all (fun r=>P r.take && P r.give && P r.back) && m.tables.all (fun t=>t.rows.all fun r=>P r.give)):=by
 simp only[listsOf,List.all_append,rlists,tlists,List.all_flatMap,wlists,List.all_map,List.all_cons,List.all_nil,Bool.and_true,Bool.and_assoc];rfl
theorem form_eq (m:CatM):refForm m=wfC m:=by
 unfold refForm wfC;rw[lists_all m (sortB m.items.length)];have e1:m.rules.all (wfR m.items.length)=(m.rules.all (fun r=>sortB m.items.length r.take && sortB m.items.length r.give && sortB m.items.length r.back) && m.rules.all (fun r=>ruFormed r && contB r.take r.back)):=by
  rw[<- all_and2];congr 1;funext r;simp only[wfR,Bool.and_assoc]
 have e2:m.tables.all (wfT m.items.length)=(m.tables.all (fun t=>decide (0<t.rows.length)) && m.tables.all (fun t=>t.rows.all fun r=>sortB m.items.length r.give)):=by
  rw[<- all_and2];rfl
 rw[e1,e2];generalize m.items.all itFormedB=a;generalize m.rules.all (fun r=>ruFormed r && contB r.take r.back)=b;generalize m.rules.all (fun r=>sortB m.items.length r.take && sortB m.items.length r.give && sortB m.items.length r.back)=c;generalize m.tables.all (fun t=>decide (0<t.rows.length))=d;generalize(m.tables.all fun t=>t.rows.all fun r=>sortB m.items.length r.give)=e;generalize m.taxes.all wfX=f;cases a <;> cases b <;> cases c <;> cases d <;> cases e <;> cases f <;> rfl
theorem rangeB_all (l:List P2):rangeB l l.length=l.all txP:=by
 have:∀k,k<=l.length->rangeB l k=(l.take k).all txP:=by
  intro k
  induction k with
  | zero=>intro _;rfl
  | succ k ih =>
    intro hk;rw[rangeB_succ,ih (by omega),List.take_succ_eq_append_getElem (by omega),List.all_append];congr 1;simp[brB,fromAt,perAt,txP,show k<l.length by omega]
 rw[this _ (Nat.le_refl _),List.take_length]
theorem num_eq (m:CatM):refNum m=rgC m:=by
 unfold refNum rgC;rw[lists_all m (fun l=>l.all unitP)];have e1:m.rules.all rgR=(m.rules.all (fun r=>r.take.all unitP && r.give.all unitP && r.back.all unitP) && m.rules.all ruRange):=by
  rw[<- all_and2];rfl
 have e2:m.tables.all rgT=(m.tables.all (fun t=>t.rows.all wtP) && m.tables.all (fun t=>t.rows.all fun r=>r.give.all unitP)):=by
  rw[<- all_and2];rfl
 have e3:m.taxes.all (fun t=>rangeB t.brs t.brs.length)=m.taxes.all rgX:=by
  congr 1;funext t;exact rangeB_all t.brs
 rw[e1,e2,e3];generalize m.items.all itRangeB=a;generalize m.rules.all ruRange=b;generalize m.rules.all (fun r=>r.take.all unitP && r.give.all unitP && r.back.all unitP)=c;generalize(m.tables.all fun t=>t.rows.all wtP)=d;generalize(m.tables.all fun t=>t.rows.all fun r=>r.give.all unitP)=e;generalize m.taxes.all rgX=f;cases a <;> cases b <;> cases c <;> cases d <;> cases e <;> cases f <;> rfl
def nameL (m:CatM):List (List ByteArray):=[m.items.map It.name,m.rules.map RuM.name,m.tables.map TbM.name,m.taxes.map TxM.name]
theorem word_eq (m:CatM):((nameL m).all fun l=>l.all fitG)=fitB m:=by
 simp only[nameL,fitB,List.all_cons,List.all_nil,List.all_map,Bool.and_true,Bool.and_assoc];rfl
theorem twice_eq (m:CatM):(nameL m).all diffB=diffC m:=by
 simp only[nameL,diffC,List.all_cons,List.all_nil,Bool.and_true,Bool.and_assoc]
def refLim (m:CatM):Bool:=m.rules.all ruLim && m.tables.all tbLim && m.taxes.all txLim
theorem lim_eq (m:CatM):((!(decide ((64:Int)<(m.items.length:Int)) || decide ((64:Int)<(m.rules.length:Int)) || decide ((32:Int)<(m.tables.length:Int)) || decide ((32:Int)<(m.taxes.length:Int)))) && refLim m)=limC m:=by
 have e:∀(n:Nat) (k:Nat),decide ((k:Int)<(n:Int)) = !decide (n<=k):=fun n k=>by
  by_cases h:n<=k
  ·rw[decide_eq_true h,decide_eq_false (by omega)];rfl
  ·rw[decide_eq_false h,decide_eq_true (by omega)];rfl
 have e1:=e m.items.length 64;have e2:=e m.rules.length 64;have e3:=e m.tables.length 32;have e4:=e m.taxes.length 32;have f1:((64:Nat):Int)=64:=rfl;have f2:((32:Nat):Int)=32:=rfl;rw[f1]at e1 e2;rw[f2]at e3 e4;rw[e1,e2,e3,e4];unfold limC refLim;generalize decide (m.items.length<=64)=a;generalize decide (m.rules.length<=64)=b;generalize decide (m.tables.length<=32)=c;generalize decide (m.taxes.length<=32)=d;generalize m.rules.all ruLim=f;generalize m.tables.all tbLim=g;generalize m.taxes.all txLim=h;cases a <;> cases b <;> cases c <;> cases d <;> cases f <;> cases g <;> cases h <;> rfl
section
def itErr (t:It):Int:=if itFormedB t=false then 1 else if itRangeB t=false then 5 else 0
section
variable {nm : ByteArray} {mi co : Bool} {we bi le : Int}
theorem itErr_f1 (h:¬ (we=0∧bi=0∧le=0)):(1:Int)=itErr ⟨nm,false,mi,co,we,bi,le⟩:=by
 have:itFormedB ⟨nm,false,mi,co,we,bi,le⟩=false:=by
  simp only[itFormedB,Bool.false_eq_true,if_false,Bool.and_eq_false_iff,beq_eq_false_iff_ne];omega
 rw[itErr,if_pos this]
theorem itErr_f0:(0:Int)=itErr ⟨nm,false,mi,co,0,0,0⟩:=by rfl
theorem itErr_t1 (h:mi=true∨co=true∨bi<0∨2<bi):(1:Int)=itErr ⟨nm,true,mi,co,we,bi,le⟩:=by
 have:itFormedB ⟨nm,true,mi,co,we,bi,le⟩=false:=by
  simp only[itFormedB,if_true,Bool.and_eq_false_iff,Bool.not_eq_false',decide_eq_false_iff_not];rcases h with h|h|h|h
  ·simp[h]
  ·simp[h]
  ·left;right;omega
  ·right;omega
 rw[itErr,if_pos this]
theorem formed_t (h0:0<=bi) (h1:bi<=2):¬ itFormedB ⟨nm,true,false,false,we,bi,le⟩=false:=by simp[itFormedB,h0,h1]
theorem itErr_t5 (h0:0<=bi) (h1:bi<=2) (h:le<0∨100<le∨we<1∨1048576<we):(5:Int)=itErr ⟨nm,true,false,false,we,bi,le⟩:=by
 have h2:itRangeB ⟨nm,true,false,false,we,bi,le⟩=false:=by
  simp only[itRangeB,Bool.not_true,Bool.false_or,Bool.and_eq_false_iff,decide_eq_false_iff_not];omega
 rw[itErr,if_neg (formed_t h0 h1),if_pos h2]
theorem itErr_t0 (h0:0<=bi) (h1:bi<=2) (h:0<=le∧le<=100∧1<=we∧we<=1048576):(0:Int)=itErr ⟨nm,true,false,false,we,bi,le⟩:=by
 have h2:¬ itRangeB ⟨nm,true,false,false,we,bi,le⟩=false:=by simp[itRangeB,h.1,h.2.1,h.2.2.1,h.2.2.2]
 rw[itErr,if_neg (formed_t h0 h1),if_neg h2]
end
theorem ret_int {k:IntKind} {a b:Int} (h:a=b):Ending.returned (.int k a)=.returned (.int k b):=by rw[h]
theorem item_error (t:It) (w:World):Calls Tryz.prog 90 #[t.val] w fun e w'=>e=.returned (.int .i64 (itErr t))∧Below w.heap.size w w':=by
 obtain⟨nm,ob,mi,co,we,bi,le⟩:=t;cases ob
 ·by_cases h:we=0∧bi=0∧le=0
  ·obtain⟨rfl,rfl,rfl⟩:=h;have HV:Hid ((0:Int)=itErr ⟨nm,false,mi,co,0,0,0⟩):=itErr_f0;go_enter Tryz.func90,Tryz.ntmps90;go_wp2
   all_goals (go_ret;refine⟨?_,(Below.refl _ _).alloc (Nat.le_refl _) _⟩)
   all_goals exact ret_int HV.out
  ·have HV:Hid ((1:Int)=itErr ⟨nm,false,mi,co,we,bi,le⟩):=itErr_f1 h;by_cases h1:we=0
   ·by_cases h2:bi=0
    ·have h3:(le == 0)=false:=by simp;omega
     subst h1 h2;clear h;go_enter Tryz.func90,Tryz.ntmps90;go_wp2
     all_goals (go_ret;refine⟨?_,(Below.refl _ _).alloc (Nat.le_refl _) _⟩)
     all_goals exact ret_int HV.out
    ·have h3:(bi == 0)=false:=by simpa using h2
     subst h1;clear h h2;go_enter Tryz.func90,Tryz.ntmps90;go_wp2
     all_goals (go_ret;refine⟨?_,(Below.refl _ _).alloc (Nat.le_refl _) _⟩)
     all_goals exact ret_int HV.out
   ·have h3:(we == 0)=false:=by simpa using h1
    clear h h1;go_enter Tryz.func90,Tryz.ntmps90;go_wp2
    all_goals (go_ret;refine⟨?_,(Below.refl _ _).alloc (Nat.le_refl _) _⟩)
    all_goals exact ret_int HV.out
 ·cases mi
  ·cases co
   ·go_enter Tryz.func90,Tryz.ntmps90;go_wp2
    all_goals (go_ret;refine⟨?_,(Below.refl _ _).alloc (Nat.le_refl _) _⟩)
    all_goals first
     | exact ret_int (itErr_t0 (by omega) (by omega) (by omega))
     | exact ret_int (itErr_t5 (by omega) (by omega) (by omega))
     | exact ret_int (itErr_t1 (.inr (.inr (by omega))))
     | skip
   ·go_enter Tryz.func90,Tryz.ntmps90;go_wp2
    all_goals (go_ret;refine⟨?_,(Below.refl _ _).alloc (Nat.le_refl _) _⟩)
    all_goals exact ret_int (itErr_t1 (by simp))
  ·go_enter Tryz.func90,Tryz.ntmps90;go_wp2
   all_goals (go_ret;refine⟨?_,(Below.refl _ _).alloc (Nat.le_refl _) _⟩)
   all_goals exact ret_int (itErr_t1 (by simp))
end
def rfTo (r:RuM) (k:Nat):Bool:=!(ruFormed r && contTo r.take r.back k)
theorem rfTo_succ (r:RuM) (k:Nat):rfTo r (k+1)=(rfTo r k || decide (unitsW r.take (itemK r.back k) r.take.length<unitsW r.back (itemK r.back k) r.back.length)):=by
 simp only[rfTo,contTo];rw[<- not_le_dec];cases ruFormed r <;> cases contTo r.take r.back k <;> simp
def form0 (nt nb:Nat) (sp:Bool) (le ti ch of_:Int):Bool :=
 if sp then decide ((0:Int)<nt) || decide ((0:Int)<nb) || (le != 0) || (ti != 0) || (ch != of_) else((nt:Int) == 0) && (ti == 0)
theorem natbeq (n:Nat):(n == 0)=((n:Int) == 0):=by
 rcases Nat.eq_zero_or_pos n with rfl|h
 ·rfl
 ·have a:(n == 0)=false:=by simp;omega
  have b:((n:Int) == 0)=false:=by simp;omega
  rw[a,b]
theorem natlt (n:Nat):decide (0<n)=decide ((0:Int)<(n:Int)):=by
 by_cases h:0<n
 ·rw[decide_eq_true h,decide_eq_true (by omega)]
 ·rw[decide_eq_false h,decide_eq_false (by omega)]
theorem natpos (n:Nat):decide ((0:Int)<(n:Int)) = !((n:Int) == 0):=by
 rcases Nat.eq_zero_or_pos n with rfl|h
 ·rfl
 ·have b:((n:Int) == 0)=false:=by simp;omega
  rw[b,decide_eq_true (by omega)];rfl
theorem form0_eq (nt nb:Nat) (sp:Bool) (le ti ch of_:Int):(form0 nt nb sp le ti ch of_ || decide ((0:Int)<(nb:Int)) && (ch == of_)) = !formR nt nb sp le ti ch of_:=by
 unfold form0 formR;rw[natbeq,natbeq,natlt,natlt,natpos,natpos];have e1:(le != 0) = !(le == 0):=rfl;have e2:(ti != 0) = !(ti == 0):=rfl;have e3:(ch != of_) = !(ch == of_):=rfl;rw[e1,e2,e3];cases sp <;> cases((nt:Int) == 0) <;> cases((nb:Int) == 0) <;> cases(le == 0) <;> cases(ti == 0) <;> cases(ch == of_) <;> rfl
theorem rule_errors (t : RuM) (w : World) (h : t.Ok w) :
 Calls Tryz.prog 91 #[t.val] w fun e w'=>e=.returned (.tuple #[.bool (!ruLim t),.bool (!(ruFormed t && contB t.take t.back)),.bool (!ruRange t)])∧Below w.heap.size w w':=by
 have h1:=h.take.len;have h2:=h.give.len;have h3:=h.back.len;have s1:=h.take.small;have s2:=h.give.small;have s3:=h.back.small;have HZ:Hid (rfTo t 0 = !ruFormed t):=by show _=_;simp[rfTo,contTo]
 have HE:Hid (rfTo t t.back.length = !(ruFormed t && contB t.take t.back)):=rfl;have HS:Hid (∀k,rfTo t (k+1)=(rfTo t k || decide (unitsW t.take (itemK t.back k) t.take.length<unitsW t.back (itemK t.back k) t.back.length))):=fun k=>rfTo_succ t k
 obtain⟨f,hf⟩:∃f,rfTo t=f:=⟨_,rfl⟩;rw[hf]at HZ HE HS;rw[<- HE.out];clear hf HE;obtain⟨nm,sp,le,ti,ch,of_,tk,gv,bk,⟨At,nt,ct⟩,⟨Ag,ng,cg⟩,⟨Ab,nb,cb⟩⟩:=t;dsimp only at h1 h2 h3 s1 s2 s3 HZ HS;have HL:Hid ((!ruLim ⟨nm,sp,le,ti,ch,of_,tk,gv,bk,⟨At,nt,ct⟩,⟨Ag,ng,cg⟩,⟨Ab,nb,cb⟩⟩)=(decide ((64:Int)<(nt:Int)+(ng:Int)) || decide ((64:Int)<(nt:Int)+(nb:Int)))):=by
  show(!(decide (tk.length+gv.length<=64) && decide (tk.length+bk.length<=64)))=_;rw[<- h1,<- h2,<- h3,Bool.not_and,not_le_nat,not_le_nat];have e1:decide (64<nt+ng)=decide ((64:Int)<(nt:Int)+(ng:Int)):=by
   by_cases e:64<nt+ng
   ·rw[decide_eq_true e,decide_eq_true (by omega)]
   ·rw[decide_eq_false e,decide_eq_false (by omega)]
  have e2:decide (64<nt+nb)=decide ((64:Int)<(nt:Int)+(nb:Int)):=by
   by_cases e:64<nt+nb
   ·rw[decide_eq_true e,decide_eq_true (by omega)]
   ·rw[decide_eq_false e,decide_eq_false (by omega)]
  rw[e1,e2]
 have HF:Hid (f 0=(form0 nt nb sp le ti ch of_ || decide ((0:Int)<(nb:Int)) && (ch == of_))):=by
  show f 0=_;rw[HZ.out,form0_eq,h1,h3];rfl
 have HR:Hid ((!ruRange ⟨nm,sp,le,ti,ch,of_,tk,gv,bk,⟨At,nt,ct⟩,⟨Ag,ng,cg⟩,⟨Ab,nb,cb⟩⟩)=(decide (le<0) || decide (100<le) || decide (ti<0) || decide (1000000<ti) || decide (of_<1) || decide (1000000<of_) || decide (ch<1) || decide (of_<ch))):=by
  show(!(decide (0<=le) && decide (le<=100) && decide (0<=ti) && decide (ti<=1000000) && decide (1<=of_) && decide (of_<=1000000) && decide (1<=ch) && decide (ch<=of_)))=_;simp only[Bool.not_and,not_le_dec]
 generalize(!ruLim ⟨nm,sp,le,ti,ch,of_,tk,gv,bk,⟨At,nt,ct⟩,⟨Ag,ng,cg⟩,⟨Ab,nb,cb⟩⟩)=LM at *;generalize(!ruRange ⟨nm,sp,le,ti,ch,of_,tk,gv,bk,⟨At,nt,ct⟩,⟨Ag,ng,cg⟩,⟨Ab,nb,cb⟩⟩)=RG at *;have X0:Below w.heap.size w (w.alloc (.cells #[.string nm,.bool sp,.int .i64 le,.int .i64 ti,.int .i64 ch,.int .i64 of_,.slice At nt ct,.slice Ag ng cg,.slice Ab nb cb] 103)):=(Below.refl _ _).alloc (Nat.le_refl _) _;have kb:Bk (w.alloc (.cells #[.string nm,.bool sp,.int .i64 le,.int .i64 ti,.int .i64 ch,.int .i64 of_,.slice At nt ct,.slice Ag ng cg,.slice Ab nb cb] 103)) w.heap.size 103 [.string nm,.bool sp,.int .i64 le,.int .i64 ti,.int .i64 ch,.int .i64 of_,.slice At nt ct,.slice Ag ng cg,.slice Ab nb cb]:=Bk.new w 103 _;have HT:=iH (h.take.below X0);have HB:=iH (h.back.below X0);have HX:=iH X0;have Hn1:=iH h1;have Hn3:=iH h3;dsimp only at HT HB;clear h h1 h2 h3 HZ X0;generalize hW0:w.alloc (.cells #[.string nm,.bool sp,.int .i64 le,.int .i64 ti,.int .i64 ch,.int .i64 of_,.slice At nt ct,.slice Ag ng cg,.slice Ab nb cb] 103)=W0 at HT HB HX kb;have b1:=kb.k1;have b2:=kb.k2;have b3:=kb.k3;have b4:=kb.k4;have b5:=kb.k5;have b6:=kb.k6;have b7:=kb.k7;have b8:=kb.k8;have hl:=kb.lt;clear kb;go_enter Tryz.func91,Tryz.ntmps91;go_upto_region 1 with fail;clear hW0;go_cut [5] (fun b wx=>b=.bool LM∧W0=wx)
 case first =>
  go_wp2
  all_goals go_meet
  all_goals exact⟨by rw[HL.out];(first | done | rfl | (simp;omega)),rfl⟩
 case rest =>
  obtain⟨rfl,rfl⟩:=hcut;clear HL;go_upto_region 2 with fail;go_cut [6] (fun b wx=>b=.bool (((nt:Int) == 0) && (ti == 0))∧W0=wx)
  case first =>
   cases hq:((nt:Int) == 0)
   ·go_wp2;go_meet;exact⟨by rw[hq];rfl,rfl⟩
   ·go_wp2;go_meet;exact⟨by rw[hq];rfl,rfl⟩
  case rest =>
   obtain⟨rfl,rfl⟩:=hcut;go_upto_if 37 with fail;go_cut [6] (fun b wx=>b=.bool (form0 nt nb sp le ti ch of_)∧W0=wx)
   case first =>
    have HV:Hid (form0 nt nb sp le ti ch of_=if sp then decide ((0:Int)<nt) || decide ((0:Int)<nb) || (le != 0) || (ti != 0) || (ch != of_) else((nt:Int) == 0) && (ti == 0)):=rfl;cases sp
    ·go_wp2;go_meet;exact⟨by rw[HV.out];rfl,rfl⟩
    ·cases qa:decide ((0:Int)<(nt:Int))
     ·have qa2:decide (0<nt)=false:=by rw[natlt];exact qa
      cases qb:decide ((0:Int)<(nb:Int))
      ·have qb2:decide (0<nb)=false:=by rw[natlt];exact qb
       cases qc:(le != 0)
       ·cases qd:(ti != 0)
        ·go_wp2;go_meet;exact⟨by rw[HV.out,qa,qb,qc,qd];rfl,rfl⟩
        ·go_wp2;go_meet;exact⟨by rw[HV.out,qa,qb,qc,qd];rfl,rfl⟩
       ·go_wp2;go_meet;exact⟨by rw[HV.out,qa,qb,qc];rfl,rfl⟩
      ·have qb2:decide (0<nb)=true:=by rw[natlt];exact qb
       go_wp2;go_meet;exact⟨by rw[HV.out,qa,qb];rfl,rfl⟩
     ·have qa2:decide (0<nt)=true:=by rw[natlt];exact qa
      go_wp2;go_meet;exact⟨by rw[HV.out,qa];rfl,rfl⟩
   case rest =>
    obtain⟨rfl,rfl⟩:=hcut;generalize form0 nt nb sp le ti ch of_=F0 at *;go_upto_region 5 with fail;go_cut [6] (fun b wx=>b=.bool (f 0)∧W0=wx)
    case first =>
     cases F0
     ·cases hq:decide ((0:Int)<(nb:Int))
      ·have hq2:decide (0<nb)=false:=by rw[natlt];exact hq
       go_wp2
       all_goals go_meet
       all_goals exact⟨by rw[HF.out,hq];rfl,rfl⟩
      ·have hq2:decide (0<nb)=true:=by rw[natlt];exact hq
       go_wp2
       all_goals go_meet
       all_goals exact⟨by rw[HF.out,hq];rfl,rfl⟩
     ·go_wp2
      all_goals go_meet
      all_goals exact⟨by rw[HF.out];rfl,rfl⟩
    case rest =>
     obtain⟨rfl,rfl⟩:=hcut;clear HF;go_wp2_with fail;go_loopw [6,7] (fun b i wr=>∃k:Nat,k<=nb∧i=.int .i64 k∧b=.bool (f k)∧Below W0.heap.size W0 wr) (fun _ i _=>nb-(intOf i).toNat)
     case atStart=>exact⟨0,Nat.zero_le _,rfl,rfl,Below.refl _ _⟩
     case round =>
      obtain⟨k,hk,rfl,rfl,hb⟩:=hrel;have d2:wr.cell? ⟨w.heap.size,2,none⟩=some (.int .i64 le):=(hb.cell (p:=⟨w.heap.size,2,none⟩) hl).trans b2;have d3:wr.cell? ⟨w.heap.size,3,none⟩=some (.int .i64 ti):=(hb.cell (p:=⟨w.heap.size,3,none⟩) hl).trans b3;have d4:wr.cell? ⟨w.heap.size,4,none⟩=some (.int .i64 ch):=(hb.cell (p:=⟨w.heap.size,4,none⟩) hl).trans b4;have d5:wr.cell? ⟨w.heap.size,5,none⟩=some (.int .i64 of_):=(hb.cell (p:=⟨w.heap.size,5,none⟩) hl).trans b5;have d6:wr.cell? ⟨w.heap.size,6,none⟩=some (.slice At nt ct):=(hb.cell (p:=⟨w.heap.size,6,none⟩) hl).trans b6;have d8:wr.cell? ⟨w.heap.size,8,none⟩=some (.slice Ab nb cb):=(hb.cell (p:=⟨w.heap.size,8,none⟩) hl).trans b8;have hl2:w.heap.size<wr.heap.size:=Nat.lt_of_lt_of_le hl hb.size;have HBL:=iH hb;clear b1 b2 b3 b4 b5 b6 b7 b8;by_cases hlt:k<nb
      ·have hkl:k<bk.length:=by have:=Hn3.out;omega
       have hs:=HS.out k;have e1:itemK bk k=bk[k].1:=by simp[itemK,hkl]
       rw[e1]at hs;have HS1:=iH hs;clear e1 hs;cases hf:f k
       ·rw[hf]at HS1;have K1:Hid (∀n,Calls Tryz.prog 114 #[.slice At nt ct,.int .i64 bk[k].1] (wr.drewN n) fun e w'=>e=.returned (.int .i64 (unitsW tk bk[k].1 tk.length))∧w'=wr.drewN n):=fun n =>
         (runits_any (s:=⟨At,nt,ct⟩) (HT.out.below (bel_drewN HBL.out n)) bk[k].1).mono fun _ _ ⟨a,b⟩=>⟨a,b.symm⟩
        have K2:Hid (∀n,Calls Tryz.prog 114 #[.slice Ab nb cb,.int .i64 bk[k].1] (wr.drewN n) fun e w'=>e=.returned (.int .i64 (unitsW bk bk[k].1 bk.length))∧w'=wr.drewN n):=fun n =>
         (runits_any (s:=⟨Ab,nb,cb⟩) (HB.out.below (bel_drewN HBL.out n)) bk[k].1).mono fun _ _ ⟨a,b⟩=>⟨a,b.symm⟩
        have hAt:=(HB.out.below hb).at_ k hkl;dsimp only at hAt;obtain⟨b,off,rfl,hbb,c0,c1⟩:=hAt;generalize bk[k]=p at *;obtain⟨x,y⟩:=p;dsimp only at *;clear hkl c1 hb;generalize unitsW tk x tk.length=U at *;generalize unitsW bk x bk.length=V at *;go_wp2_with fail;go_quiet ((go_at_call 114;first | (with_reducible exact Calls.quiet_of_same (K1.out _)) | (with_reducible exact Calls.quiet_of_same (K2.out _))));go_wp2;go_roundw
        case rel=>exact⟨k+1,by omega,by go_num,by rw[HS1.out];rfl,bel_drewN HBL.out _⟩
        case measure=>simp[intOf];omega
       ·have Hq:Hid (f (k+1)=true):=by show _=_;rw[HS1.out,hf];rfl
        clear HS1 hkl hb;go_wp2_with fail;go_quiet (fail);go_wp2;go_roundw
        case rel=>exact⟨k+1,by omega,by go_num,by rw[Hq.out],bel_drewN HBL.out _⟩
        case measure=>simp[intOf];omega
      ·obtain rfl:nb=k:=by omega
       have HFE:Hid (f bk.length=f nb):=by show _=_;rw[<- Hn3.out]
       clear hb d6 HT HB HS;go_upto_region 10 with fail;go_cut [8] (fun b wx=>b=.bool RG∧wr=wx)
       case first =>
        cases q0:decide (le<0);rotate_left
        ·go_wp2;go_meet;exact⟨by rw[HR.out,q0];rfl,rfl⟩
        cases q1:decide (100<le);rotate_left
        ·go_wp2;go_meet;exact⟨by rw[HR.out,q0,q1];rfl,rfl⟩
        cases q2:decide (ti<0);rotate_left
        ·go_wp2;go_meet;exact⟨by rw[HR.out,q0,q1,q2];rfl,rfl⟩
        cases q3:decide (1000000<ti);rotate_left
        ·go_wp2;go_meet;exact⟨by rw[HR.out,q0,q1,q2,q3];rfl,rfl⟩
        cases q4:decide (of_<1);rotate_left
        ·go_wp2;go_meet;exact⟨by rw[HR.out,q0,q1,q2,q3,q4];rfl,rfl⟩
        cases q5:decide (1000000<of_);rotate_left
        ·go_wp2;go_meet;exact⟨by rw[HR.out,q0,q1,q2,q3,q4,q5];rfl,rfl⟩
        cases q6:decide (ch<1);rotate_left
        ·go_wp2;go_meet;exact⟨by rw[HR.out,q0,q1,q2,q3,q4,q5,q6];rfl,rfl⟩
        ·go_wp2;go_meet;exact⟨by rw[HR.out,q0,q1,q2,q3,q4,q5,q6];rfl,rfl⟩
       case rest =>
        obtain⟨rfl,rfl⟩:=hcut;go_wp2;rw[HFE.out];exact bodyPost_ret (v:=.tuple #[.bool LM,.bool (f nb),.bool RG]) (by simp[results,Tryz.results91,go_sem]) rfl ⟨rfl,HX.out.trans (HBL.out.mono HX.out.size)⟩
structure RvAt (w V : World) (m : CatM) : Prop where
 bx:Bk V w.heap.size 28 (catSL m.si m.sr m.st m.sx)
 ok:m.Ok V
 bel:Below w.heap.size w V
theorem RvAt.below {w V V':World} {m:CatM} (h:RvAt w V m) (hb:Below V.heap.size V V'):RvAt w V' m:=⟨h.bx.below hb h.bx.lt,h.ok.below hb,h.bel.trans (hb.mono h.bel.size)⟩
abbrev NmL:=Option Addr×Nat×List ByteArray
structure NmAt (V : World) (g : Nat) (L : List NmL) (m : CatM) : Prop where
 bk:Bk V g 123 (L.map fun p=>Value.slice p.1 p.2.2.length p.2.1)
 rows:∀p∈L,Row V V.heap.size p.1 (strs p.2.2)∧p.2.2.length<=p.2.1∧p.2.2.length<=100000∧∀s∈p.2.2,s.size<=8192
 nms:L.map (fun p=>p.2.2)=nameL m
theorem NmAt.below {V V':World} {g:Nat} {L:List NmL} {m:CatM} (h:NmAt V g L m) (hb:Below V.heap.size V V'):NmAt V' g L m :=
 ⟨h.bk.below hb h.bk.lt,fun p hp=>⟨((h.rows p hp).1.below hb).more hb.size,(h.rows p hp).2⟩,h.nms⟩
theorem NmAt.len {V:World} {g:Nat} {L:List NmL} {m:CatM} (h:NmAt V g L m):L.length=4:=by
 have:=congrArg List.length h.nms;simpa[nameL]using this
theorem nmAt_of {w V:World} {m:CatM} {e:Ending} (hm:m.Ok w) (h:NamesR w m e V):∃g L,e=.returned (.slice (some ⟨g,0,none⟩) 4 4)∧NmAt V g L m∧Below w.heap.size w V:=by
 obtain⟨g,A0,c0,A1,c1,A2,c2,A3,c3,he,hk,r0,r1,r2,r3,k0,k1,k2,k3,hb⟩:=h;have i1:=hm.items.len;have i2:=hm.items.small;have j1:=hm.rules.len;have j2:=hm.rules.small;have t1:=hm.tables.len;have t2:=hm.tables.small;have x1:=hm.taxes.len;have x2:=hm.taxes.small;refine⟨g,[(A0,c0,m.items.map It.name),(A1,c1,m.rules.map RuM.name),(A2,c2,m.tables.map TbM.name),(A3,c3,m.taxes.map TxM.name)],he,⟨by simpa using hk,?_,rfl⟩,hb⟩;intro p hp;simp only[List.mem_cons,List.not_mem_nil,or_false]at hp;rcases hp with rfl|rfl|rfl|rfl
 ·refine⟨r0,by simpa using k0,by simp;omega,fun s hs=>?_⟩;obtain⟨t,ht,rfl⟩:=List.mem_map.1 hs;exact hm.items.each t ht
 ·refine⟨r1,by simpa using k1,by simp;omega,fun s hs=>?_⟩;obtain⟨t,ht,rfl⟩:=List.mem_map.1 hs;exact(hm.rules.each t ht).name
 ·refine⟨r2,by simpa using k2,by simp;omega,fun s hs=>?_⟩;obtain⟨t,ht,rfl⟩:=List.mem_map.1 hs;exact(hm.tables.each t ht).name
 ·refine⟨r3,by simpa using k3,by simp;omega,fun s hs=>?_⟩;obtain⟨t,ht,rfl⟩:=List.mem_map.1 hs;exact(hm.taxes.each t ht).name
theorem all_take_succ {α:Type} (f:α->Bool) (l:List α) (k:Nat) (h:k<l.length):(l.take (k+1)).all f=((l.take k).all f && f l[k]):=by
 rw[List.take_succ_eq_append_getElem h,List.all_append];simp only[List.all_cons,List.all_nil,Bool.and_true]
theorem diffTo_succ (l:List ByteArray) (k:Nat) (h:k<l.length):diffTo l (k+1)=(diffTo l k && !hasS (l.take k) l[k]):=by
 simp[diffTo,h]
theorem lists_ok {V:World} {m:CatM} (h:m.Ok V):∀p∈listsOf m,PrV V 136 p.1 p.2:=by
 intro p hp;simp only[listsOf,rlists,tlists,wlists,List.mem_append,List.mem_flatMap,List.mem_map,List.mem_cons,List.not_mem_nil,or_false]at hp;rcases hp with ⟨r,hr,hp⟩|⟨t,ht,r,hr,rfl⟩
 ·rcases hp with rfl | rfl | rfl
  ·exact(h.rules.each r hr).take
  ·exact(h.rules.each r hr).give
  ·exact(h.rules.each r hr).back
 ·exact(h.tables.each t ht).rows.each r hr
theorem lists_small {V:World} {m:CatM} (h:m.Ok V):(listsOf m).length<=10000300000:=by
 have h1:=rlists_len m.rules;have h2:=tlists_len m.tables (fun t ht=>by have h1:=(h.tables.each t ht).rows;have:=h1.len;have:=h1.small;omega);have h3:=h.rules.len;have h4:=h.rules.small;have h5:=h.tables.len;have h6:=h.tables.small;simp only[listsOf,List.length_append];omega
theorem not_lt_dec (a b:Int):(!decide (a<b))=decide (b<=a):=by by_cases h:a<b <;> simp[h] <;> omega
theorem sort_last {n:Nat} {l:List P2} {j:Nat} (h:sortTo n l j=true) : -1<=lastAt l j:=by
 induction j with
 | zero=>simp[lastAt]
 | succ j ih =>
   simp only[sortTo,Bool.and_eq_true,decide_eq_true_eq]at h;have h1:=ih h.1;have h2:lastAt l (j+1)=itemK l j:=by simp[lastAt,itemK]
   rw[h2];omega
theorem tax_errors3 (t:TxM) (w:World) (h:t.Ok w):Calls Tryz.prog 93 #[t.val] w fun e w'=>e=.returned (.tuple #[.bool (!txLim t),.bool (!wfX t),.bool (!rangeB t.brs t.brs.length)])∧Below w.heap.size w w':=by
 have hl:=h.brs.len;have hs:=h.brs.small;have e:(!txLim t)=decide (16<(t.sb.n:Int)):=by
  show(!decide (t.brs.length<=16))=_;rw[<- hl,not_le_nat];by_cases e:16<t.sb.n
  ·rw[decide_eq_true e,decide_eq_true (by omega)]
  ·rw[decide_eq_false e,decide_eq_false (by omega)]
 rw[e];exact tax_errors t.name t.sb.A t.sb.n t.sb.c t.brs w h.brs.row.row hl (by omega)
end Go.Proofs.YthjfdfdgbpbanaaGreatDoor
