/- The reference's tests of a catalog are those of package catalog: plain law. The reference's Valid on any catalog: what lies in memory, and the steps of its tests. -/
import Derived.Test.YthjfdfdgbpbanaaGreatDoorM1x7
import Derived.Test.YthjfdfdgbpbanaaGreatDoorM1x8
set_option linter.unusedVariables false
set_option linter.unusedSimpArgs false
open Go.RowKit
namespace Go.Proofs.YthjfdfdgbpbanaaGreatDoor
theorem all_and2 {α:Type} (l:List α) (f g:α→Bool):l.all (fun x=>f x && g x)=(l.all f && l.all g):=by
 induction l with
 | nil=>rfl
 | cons x l ih=>simp only[List.all_cons,ih];cases f x <;> cases g x <;> cases l.all f <;> simp
def refForm (m:CatM):Bool:=m.items.all itFormedB && m.rules.all (fun r=>ruFormed r && contB r.take r.back) && m.tables.all (fun t=>decide (0<t.rows.length)) && m.taxes.all wfX && (listsOf m).all (fun p=>sortB m.items.length p.2)
def refNum (m:CatM):Bool:=m.items.all itRangeB && m.rules.all ruRange && m.tables.all (fun t=>t.rows.all wtP) && m.taxes.all (fun t=>rangeB t.brs t.brs.length) && (listsOf m).all (fun p=>p.2.all unitP)
theorem lists_all (m:CatM) (P:List P2→Bool):(listsOf m).all (fun p=>P p.2)=(m.rules.all (fun r=>P r.take && P r.give && P r.back) && m.tables.all (fun t=>t.rows.all fun r=>P r.give)):=by
 simp only[listsOf,List.all_append,rlists,tlists,List.all_flatMap,wlists,List.all_map,List.all_cons,List.all_nil,Bool.and_true,Bool.and_assoc];rfl
theorem form_eq (m:CatM):refForm m=wfC m:=by
 unfold refForm wfC;rw[lists_all m (sortB m.items.length)];have e1:m.rules.all (wfR m.items.length)=(m.rules.all (fun r=>sortB m.items.length r.take && sortB m.items.length r.give && sortB m.items.length r.back) && m.rules.all (fun r=>ruFormed r && contB r.take r.back)):=by
  rw[← all_and2];congr 1;funext r;simp only[wfR,Bool.and_assoc]
 have e2:m.tables.all (wfT m.items.length)=(m.tables.all (fun t=>decide (0<t.rows.length)) && m.tables.all (fun t=>t.rows.all fun r=>sortB m.items.length r.give)):=by
  rw[← all_and2];rfl
 rw[e1,e2];generalize m.items.all itFormedB=a;generalize m.rules.all (fun r=>ruFormed r && contB r.take r.back)=b;generalize m.rules.all (fun r=>sortB m.items.length r.take && sortB m.items.length r.give && sortB m.items.length r.back)=c;generalize m.tables.all (fun t=>decide (0<t.rows.length))=d;generalize(m.tables.all fun t=>t.rows.all fun r=>sortB m.items.length r.give)=e;generalize m.taxes.all wfX=f;cases a <;> cases b <;> cases c <;> cases d <;> cases e <;> cases f <;> rfl
theorem rangeB_all (l:List P2):rangeB l l.length=l.all txP:=by
 have:∀k,k≤l.length→rangeB l k=(l.take k).all txP:=by
  intro k
  induction k with
  | zero=>intro _;rfl
  | succ k ih =>
    intro hk;rw[rangeB_succ,ih (by omega),List.take_succ_eq_append_getElem (by omega),List.all_append];congr 1;simp[brB,fromAt,perAt,txP,show k<l.length by omega]
 rw[this _ (Nat.le_refl _),List.take_length]
theorem num_eq (m:CatM):refNum m=rgC m:=by
 unfold refNum rgC;rw[lists_all m (fun l=>l.all unitP)];have e1:m.rules.all rgR=(m.rules.all (fun r=>r.take.all unitP && r.give.all unitP && r.back.all unitP) && m.rules.all ruRange):=by
  rw[← all_and2];rfl
 have e2:m.tables.all rgT=(m.tables.all (fun t=>t.rows.all wtP) && m.tables.all (fun t=>t.rows.all fun r=>r.give.all unitP)):=by
  rw[← all_and2];rfl
 have e3:m.taxes.all (fun t=>rangeB t.brs t.brs.length)=m.taxes.all rgX:=by
  congr 1;funext t;exact rangeB_all t.brs
 rw[e1,e2,e3];generalize m.items.all itRangeB=a;generalize m.rules.all ruRange=b;generalize m.rules.all (fun r=>r.take.all unitP && r.give.all unitP && r.back.all unitP)=c;generalize(m.tables.all fun t=>t.rows.all wtP)=d;generalize(m.tables.all fun t=>t.rows.all fun r=>r.give.all unitP)=e;generalize m.taxes.all rgX=f;cases a <;> cases b <;> cases c <;> cases d <;> cases e <;> cases f <;> rfl
/-- The names of the groups. -/
def nameL (m:CatM):List (List ByteArray):=[m.items.map It.name,m.rules.map RuM.name,m.tables.map TbM.name,m.taxes.map TxM.name]
theorem word_eq (m:CatM):((nameL m).all fun l=>l.all fitG)=fitB m:=by
 simp only[nameL,fitB,List.all_cons,List.all_nil,List.all_map,Bool.and_true,Bool.and_assoc];rfl
theorem twice_eq (m:CatM):(nameL m).all diffB=diffC m:=by
 simp only[nameL,diffC,List.all_cons,List.all_nil,Bool.and_true,Bool.and_assoc]
/-- The limits as the reference tests them. -/
def refLim (m:CatM):Bool:=m.rules.all ruLim && m.tables.all tbLim && m.taxes.all txLim
theorem lim_eq (m:CatM):((!(decide ((64:Int)<(m.items.length:Int)) || decide ((64:Int)<(m.rules.length:Int)) || decide ((32:Int)<(m.tables.length:Int)) || decide ((32:Int)<(m.taxes.length:Int)))) && refLim m)=limC m:=by
 have e:∀(n:Nat) (k:Nat),decide ((k:Int)<(n:Int)) = !decide (n≤k):=fun n k=>by
  by_cases h:n≤k
  ·rw[decide_eq_true h,decide_eq_false (by omega)];rfl
  ·rw[decide_eq_false h,decide_eq_true (by omega)];rfl
 have e1:=e m.items.length 64;have e2:=e m.rules.length 64;have e3:=e m.tables.length 32;have e4:=e m.taxes.length 32;have f1:((64:Nat):Int)=64:=rfl;have f2:((32:Nat):Int)=32:=rfl;rw[f1]at e1 e2;rw[f2]at e3 e4;rw[e1,e2,e3,e4];unfold limC refLim;generalize decide (m.items.length≤64)=a;generalize decide (m.rules.length≤64)=b;generalize decide (m.tables.length≤32)=c;generalize decide (m.taxes.length≤32)=d;generalize m.rules.all ruLim=f;generalize m.tables.all tbLim=g;generalize m.taxes.all txLim=h;cases a <;> cases b <;> cases c <;> cases d <;> cases f <;> cases g <;> cases h <;> rfl
/-- The memory of the reference's Valid: w is the world at its call. -/
structure RvAt (w V : World) (m : CatM) : Prop where
 bx:Bk V w.heap.size 28 (catSL m.si m.sr m.st m.sx)
 ok:m.Ok V
 bel:Below w.heap.size w V
theorem RvAt.below {w V V':World} {m:CatM} (h:RvAt w V m) (hb:Below V.heap.size V V'):RvAt w V' m:=⟨h.bx.below hb h.bx.lt,h.ok.below hb,h.bel.trans (hb.mono h.bel.size)⟩
abbrev NmL:=Option Addr×Nat×List ByteArray
/-- The names in memory. -/
structure NmAt (V : World) (g : Nat) (L : List NmL) (m : CatM) : Prop where
 bk:Bk V g 123 (L.map fun p=>Value.slice p.1 p.2.2.length p.2.1)
 rows:∀p∈L,Row V V.heap.size p.1 (strs p.2.2)∧p.2.2.length≤p.2.1∧p.2.2.length≤100000∧∀s∈p.2.2,s.size≤8192
 nms:L.map (fun p=>p.2.2)=nameL m
theorem NmAt.below {V V':World} {g:Nat} {L:List NmL} {m:CatM} (h:NmAt V g L m) (hb:Below V.heap.size V V'):NmAt V' g L m :=
 ⟨h.bk.below hb h.bk.lt,fun p hp=>⟨((h.rows p hp).1.below hb).more hb.size,(h.rows p hp).2⟩,h.nms⟩
theorem NmAt.len {V:World} {g:Nat} {L:List NmL} {m:CatM} (h:NmAt V g L m):L.length=4:=by
 have:=congrArg List.length h.nms;simpa[nameL]using this
theorem nmAt_of {w V:World} {m:CatM} {e:Ending} (hm:m.Ok w) (h:NamesR w m e V):∃g L,e=.returned (.slice (some ⟨g,0,none⟩) 4 4)∧NmAt V g L m∧Below w.heap.size w V:=by
 obtain⟨g,A0,c0,A1,c1,A2,c2,A3,c3,he,hk,r0,r1,r2,r3,k0,k1,k2,k3,hb⟩:=h;have i1:=hm.items.len;have i2:=hm.items.small;have j1:=hm.rules.len;have j2:=hm.rules.small;have t1:=hm.tables.len;have t2:=hm.tables.small;have x1:=hm.taxes.len;have x2:=hm.taxes.small;refine⟨g,[(A0,c0,m.items.map It.name),(A1,c1,m.rules.map RuM.name),(A2,c2,m.tables.map TbM.name),(A3,c3,m.taxes.map TxM.name)],he,⟨by simpa using hk,?_,rfl⟩,hb⟩;intro p hp;simp only[List.mem_cons,List.not_mem_nil,or_false]at hp;rcases hp with rfl|rfl|rfl|rfl
 ·refine⟨r0,by simpa using k0,by simp;omega,fun s hs=>?_⟩;obtain⟨t,ht,rfl⟩:=List.mem_map.1 hs;exact hm.items.each t ht
 ·refine⟨r1,by simpa using k1,by simp;omega,fun s hs=>?_⟩;obtain⟨t,ht,rfl⟩:=List.mem_map.1 hs;exact(hm.rules.each t ht).name
 ·refine⟨r2,by simpa using k2,by simp;omega,fun s hs=>?_⟩;obtain⟨t,ht,rfl⟩:=List.mem_map.1 hs;exact(hm.tables.each t ht).name
 ·refine⟨r3,by simpa using k3,by simp;omega,fun s hs=>?_⟩;obtain⟨t,ht,rfl⟩:=List.mem_map.1 hs;exact(hm.taxes.each t ht).name
theorem all_take_succ {α:Type} (f:α→Bool) (l:List α) (k:Nat) (h:k<l.length):(l.take (k+1)).all f=((l.take k).all f && f l[k]):=by
 rw[List.take_succ_eq_append_getElem h,List.all_append];simp only[List.all_cons,List.all_nil,Bool.and_true]
theorem diffTo_succ (l:List ByteArray) (k:Nat) (h:k<l.length):diffTo l (k+1)=(diffTo l k && !hasS (l.take k) l[k]):=by
 simp[diffTo,h]
theorem lists_ok {V:World} {m:CatM} (h:m.Ok V):∀p∈listsOf m,PrV V 136 p.1 p.2:=by
 intro p hp;simp only[listsOf,rlists,tlists,wlists,List.mem_append,List.mem_flatMap,List.mem_map,List.mem_cons,List.not_mem_nil,or_false]at hp;rcases hp with ⟨r,hr,hp⟩|⟨t,ht,r,hr,rfl⟩
 ·rcases hp with rfl | rfl | rfl
  ·exact(h.rules.each r hr).take
  ·exact(h.rules.each r hr).give
  ·exact(h.rules.each r hr).back
 ·exact(h.tables.each t ht).rows.each r hr
theorem lists_small {V:World} {m:CatM} (h:m.Ok V):(listsOf m).length≤10000300000:=by
 have h1:=rlists_len m.rules;have h2:=tlists_len m.tables (fun t ht=>by have h1:=(h.tables.each t ht).rows;have:=h1.len;have:=h1.small;omega);have h3:=h.rules.len;have h4:=h.rules.small;have h5:=h.tables.len;have h6:=h.tables.small;simp only[listsOf,List.length_append];omega
theorem not_lt_dec (a b:Int):(!decide (a<b))=decide (b≤a):=by by_cases h:a<b <;> simp[h] <;> omega
theorem sort_last {n:Nat} {l:List P2} {j:Nat} (h:sortTo n l j=true) : -1≤lastAt l j:=by
 induction j with
 | zero=>simp[lastAt]
 | succ j ih =>
   simp only[sortTo,Bool.and_eq_true,decide_eq_true_eq]at h;have h1:=ih h.1;have h2:lastAt l (j+1)=itemK l j:=by simp[lastAt,itemK]
   rw[h2];omega
theorem tax_errors3 (t:TxM) (w:World) (h:t.Ok w):Calls Tryz.prog 93 #[t.val] w fun e w'=>e=.returned (.tuple #[.bool (!txLim t),.bool (!wfX t),.bool (!rangeB t.brs t.brs.length)])∧Below w.heap.size w w':=by
 have hl:=h.brs.len;have hs:=h.brs.small;have e:(!txLim t)=decide (16<(t.sb.n:Int)):=by
  show(!decide (t.brs.length≤16))=_;rw[← hl,not_le_nat];by_cases e:16<t.sb.n
  ·rw[decide_eq_true e,decide_eq_true (by omega)]
  ·rw[decide_eq_false e,decide_eq_false (by omega)]
 rw[e];exact tax_errors t.name t.sb.A t.sb.n t.sb.c t.brs w h.brs.row.row hl (by omega)
end Go.Proofs.YthjfdfdgbpbanaaGreatDoor
