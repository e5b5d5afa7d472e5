/- Plain law of sorted amounts: a sort by buckets is an insertion sort. catalog's withinLimits on any catalog. catalog's tests on lists of amounts: sorted, and units in range. catalog.contains on any two lists of amounts. catalog.contains on any two lists of amounts: the walk. catalog's ruleFormed on any rule. Tests of numbers: ruleInRange, and the closures of weightsInRange and taxInRange. every with the tests of items, brackets and rows; taxInRange and weightsInRange. Brackets: the plain law of their form; taxFormed and the reference's TaxErrors (turned from the tax seat). The reference's names on any catalog. -/
import Derived.Test.YtiecjoijnkghbaaGreatDoorY4
import Derived.BigQuiet
import Derived.Maps.AppendAt
set_option linter.unusedVariables false
set_option linter.unusedSimpArgs false
set_option maxRecDepth 100000
set_option maxHeartbeats 2000000
open Go.RowKit
namespace Go.Proofs.YtiecjoijnkghbaaGreatDoor
set_option linter.unusedVariables false
set_option linter.unusedSimpArgs false
def bkt (l:List P2):Nat->List P2
 | 0=>[]
 | K+1=>bkt l K ++ l.filter fun p=>decide (p.1=(K:Int))
def insR (x:P2) (s:List P2):List P2:=s.filter (fun p=>decide (p.1<=x.1)) ++ x :: s.filter (fun p=>decide (x.1<p.1))
theorem bkt_lt (l:List P2) (K:Nat):∀p∈bkt l K,0<=p.1∧p.1<(K:Int):=by
 induction K with
 | zero=>intro p hp;simp[bkt]at hp
 | succ K ih =>
   intro p hp;simp only[bkt,List.mem_append,List.mem_filter,decide_eq_true_eq]at hp;rcases hp with hp|⟨_,hp⟩
   ·have:=ih p hp;omega
   ·omega
theorem bkt_mem (l:List P2) (K:Nat):∀p∈bkt l K,p∈l:=by
 induction K with
 | zero=>intro p hp;simp[bkt]at hp
 | succ K ih =>
   intro p hp;simp only[bkt,List.mem_append,List.mem_filter]at hp;exact hp.elim (ih p) (·.1)
theorem bkt_sorted (l:List P2) (K:Nat):(bkt l K).Pairwise fun a b=>a.1<=b.1:=by
 induction K with
 | zero=>simp[bkt]
 | succ K ih =>
   rw[bkt,List.pairwise_append];refine⟨ih,?_,?_⟩
   ·rw[List.pairwise_iff_forall_sublist];intro a b h;have ha:=h.subset (List.mem_cons_self ..);have hb:=h.subset (List.mem_cons_of_mem _ (List.mem_cons_self ..));simp only[List.mem_filter,decide_eq_true_eq]at ha hb;omega
   ·intro a ha b hb;have:=bkt_lt l K a ha;simp only[List.mem_filter,decide_eq_true_eq]at hb;omega
theorem bkt_snoc_far (l:List P2) (x:P2) (K:Nat) (h:(K:Int)<=x.1):bkt (l ++ [x]) K=bkt l K:=by
 induction K with
 | zero=>rfl
 | succ K ih =>
   rw[bkt,bkt,ih (by omega),List.filter_append];have:decide (x.1=(K:Int))=false:=by simp;omega
   simp[List.filter_cons,this]
theorem filt_all {p:P2->Bool} (l:List P2) (h:∀a∈l,p a=true):l.filter p=l:=List.filter_eq_self.2 h
theorem filt_none {p:P2->Bool} (l:List P2) (h:∀a∈l,p a=false):l.filter p=[]:=List.filter_eq_nil_iff.2 fun a ha=>by simp[h a ha]
theorem bkt_snoc (l:List P2) (x:P2) (K:Nat) (h0:0<=x.1) (h:x.1<(K:Int)):bkt (l ++ [x]) K=insR x (bkt l K):=by
 induction K with
 | zero=>omega
 | succ K ih =>
   have hK:∀a∈l.filter (fun p=>decide (p.1=(K:Int))),a.1=(K:Int):=fun a ha=>by simpa using(List.mem_filter.1 ha).2
   by_cases e:x.1<(K:Int)
   ·rw[bkt,ih e,bkt,List.filter_append,insR,insR,List.filter_append,List.filter_append];rw[filt_none (p:=fun p=>decide (p.1<=x.1)) (l.filter _) fun a ha=>by have:=hK a ha;simp;omega,filt_all (p:=fun p=>decide (x.1<p.1)) (l.filter _) fun a ha=>by have:=hK a ha;simp;omega];have:decide (x.1=(K:Int))=false:=by simp;omega
    simp[List.filter_cons,this]
   ·have e1:x.1=(K:Int):=by omega
    rw[bkt,bkt_snoc_far l x K (by omega),bkt,List.filter_append,insR,List.filter_append,List.filter_append];rw[filt_all (p:=fun p=>decide (p.1<=x.1)) (l.filter _) fun a ha=>by have:=hK a ha;simp;omega,filt_none (p:=fun p=>decide (x.1<p.1)) (l.filter _) fun a ha=>by have:=hK a ha;simp;omega];rw[filt_all (p:=fun p=>decide (p.1<=x.1)) (bkt l K) fun a ha=>by have:=bkt_lt l K a ha;simp;omega,filt_none (p:=fun p=>decide (x.1<p.1)) (bkt l K) fun a ha=>by have:=bkt_lt l K a ha;simp;omega];simp[List.filter_cons,e1]
theorem insR_len (x:P2) (s:List P2):(insR x s).length=s.length+1:=by
 induction s with
 | nil=>rfl
 | cons a s ih =>
   by_cases e:a.1<=x.1
   ·have e2:¬ x.1<a.1:=by omega
    simp only[insR,List.filter_cons,e,e2,decide_true,decide_false,if_true,List.length_append,List.length_cons]at ih⊢;simp only[Bool.false_eq_true,if_false];omega
   ·have e2:x.1<a.1:=by omega
    simp only[insR,List.filter_cons,e,e2,decide_true,decide_false,if_true,List.length_append,List.length_cons]at ih⊢;simp only[Bool.false_eq_true,if_false];omega
theorem insR_at (x:P2) (s:List P2) (j:Nat) (hj:j<=s.length) (hs:s.Pairwise fun a b=>a.1<=b.1) (hd:∀p∈s.drop j,x.1<p.1) (ht:∀p,s[j-1]? = some p->j=0∨p.1<=x.1):s.take j ++ x :: s.drop j=insR x s:=by
 have h1:∀p∈s.take j,p.1<=x.1:=by
  intro p hp;obtain⟨i,hi,rfl⟩:=List.getElem_of_mem hp;have hij:i<j:=by simp at hi;omega
  have h2:=ht (s[j-1]'(by omega)) (List.getElem?_eq_getElem _);rw[List.getElem_take];rcases h2 with h2|h2
  ·omega
  ·by_cases e:i=j-1
   ·subst e;exact h2
   ·have:=List.pairwise_iff_getElem.1 hs i (j-1) (by omega) (by omega) (by omega);omega
 conv=>rhs;rw[insR,<- List.take_append_drop j s]
 rw[List.filter_append,List.filter_append,filt_all (p:=fun p=>decide (p.1<=x.1)) (s.take j) fun a ha=>by simpa using h1 a ha,filt_none (p:=fun p=>decide (p.1<=x.1)) (s.drop j) fun a ha=>by have:=hd a ha;simp;omega,
  filt_none (p:=fun p=>decide (x.1<p.1)) (s.take j) fun a ha=>by have:=h1 a ha;simp;omega,filt_all (p:=fun p=>decide (x.1<p.1)) (s.drop j) fun a ha=>by simpa using hd a ha]
 simp
theorem bkt_len (l:List P2) (K:Nat) (h:∀p∈l,0<=p.1∧p.1<(K:Int)) (i:Nat) (hi:i<=l.length):(bkt (l.take i) K).length=i:=by
 induction i with
 | zero =>
   have:∀K,bkt ([]:List P2) K=[]:=fun K=>by induction K with | zero=>rfl | succ K ih=>simp[bkt,ih]
   simp[this]
 | succ i ih =>
   have e:l.take (i+1)=l.take i ++ [l[i]]:=by rw[List.take_add_one,List.getElem?_eq_getElem (by omega)];rfl
   have:=h l[i] (List.getElem_mem _);rw[e,bkt_snoc _ _ _ this.1 this.2,insR_len,ih (by omega)]
def ruLim (r:RuM):Bool:=decide (r.take.length+r.give.length<=64) && decide (r.take.length+r.back.length<=64)
def tbLim (t:TbM):Bool:=decide (t.rows.length<=64)
def txLim (t:TxM):Bool:=decide (t.brs.length<=16)
def limC (m:CatM):Bool:=decide (m.items.length<=64) && decide (m.rules.length<=64) && decide (m.tables.length<=32) && decide (m.taxes.length<=32) && m.rules.all ruLim && m.tables.all tbLim && m.taxes.all txLim
theorem lim_ru (t:RuM) (w:World) (h:t.Ok w):Calls Tryz.prog 253 #[t.val] w fun e w'=>e=.returned (.bool (ruLim t))∧Below w.heap.size w w':=by
 have h1:=h.take.len;have h2:=h.give.len;have h3:=h.back.len;have s1:=h.take.small;have s2:=h.give.small;have s3:=h.back.small;obtain⟨nm,sp,le,ti,ch,of_,tk,gv,bk,⟨At,nt,ct⟩,⟨Ag,ng,cg⟩,⟨Ab,nb,cb⟩⟩:=t;dsimp only at h1 h2 h3 s1 s2 s3;have HV:Hid (ruLim ⟨nm,sp,le,ti,ch,of_,tk,gv,bk,⟨At,nt,ct⟩,⟨Ag,ng,cg⟩,⟨Ab,nb,cb⟩⟩=(decide (nt+ng<=64) && decide (nt+nb<=64))):=by show ruLim _=_;rw[h1,h2,h3];rfl
 generalize ruLim ⟨nm,sp,le,ti,ch,of_,tk,gv,bk,⟨At,nt,ct⟩,⟨Ag,ng,cg⟩,⟨Ab,nb,cb⟩⟩=R at *;clear h h1 h2 h3;have X0:Below w.heap.size w (w.alloc (.cells #[.string nm,.bool sp,.int .i64 le,.int .i64 ti,.int .i64 ch,.int .i64 of_,.slice At nt ct,.slice Ag ng cg,.slice Ab nb cb] 149)):=(Below.refl _ _).alloc (Nat.le_refl _) _;by_cases a:nt+ng<=64
 ·by_cases b:nt+nb<=64
  ·have d1:decide (nt+ng<=64)=true:=decide_eq_true a;have d2:decide (nt+nb<=64)=true:=decide_eq_true b;have d3:decide ((nt:Int)+(ng:Int)<=64)=true:=decide_eq_true (by omega);have d4:decide ((nt:Int)+(nb:Int)<=64)=true:=decide_eq_true (by omega);rw[d1,d2]at HV;go_enter Tryz.func253,Tryz.ntmps253;go_wp2;go_ret;exact⟨by rw[HV.out];rfl,X0⟩
  ·have d1:decide (nt+ng<=64)=true:=decide_eq_true a;have d2:decide (nt+nb<=64)=false:=decide_eq_false b;have d3:decide ((nt:Int)+(ng:Int)<=64)=true:=decide_eq_true (by omega);have d4:decide ((nt:Int)+(nb:Int)<=64)=false:=decide_eq_false (by omega);rw[d1,d2]at HV;go_enter Tryz.func253,Tryz.ntmps253;go_wp2;go_ret;exact⟨by rw[HV.out];rfl,X0⟩
 ·have d1:decide (nt+ng<=64)=false:=decide_eq_false a;have d3:decide ((nt:Int)+(ng:Int)<=64)=false:=decide_eq_false (by omega);rw[d1]at HV;go_enter Tryz.func253,Tryz.ntmps253;go_wp2;go_ret;exact⟨by rw[HV.out];rfl,X0⟩
theorem lim_tb (t:TbM) (w:World) (h:t.Ok w):Calls Tryz.prog 255 #[t.val] w fun e w'=>e=.returned (.bool (tbLim t))∧Below w.heap.size w w':=by
 have h1:=h.rows.len;have s1:=h.rows.small;obtain⟨nm,rs,⟨A,n,c⟩⟩:=t;dsimp only at h1 s1;have HV:Hid (tbLim ⟨nm,rs,⟨A,n,c⟩⟩=decide (n<=64)):=by show tbLim _=_;rw[h1];rfl
 generalize tbLim ⟨nm,rs,⟨A,n,c⟩⟩=R at *;clear h h1;have X0:Below w.heap.size w (w.alloc (.cells #[.string nm,.slice A n c] 173)):=(Below.refl _ _).alloc (Nat.le_refl _) _;by_cases a:n<=64
 ·have d1:decide (n<=64)=true:=decide_eq_true a;have d2:decide ((n:Int)<=64)=true:=decide_eq_true (by omega);rw[d1]at HV;go_enter Tryz.func255,Tryz.ntmps255;go_wp2;go_ret;exact⟨by rw[HV.out];rfl,X0⟩
 ·have d1:decide (n<=64)=false:=decide_eq_false a;have d2:decide ((n:Int)<=64)=false:=decide_eq_false (by omega);rw[d1]at HV;go_enter Tryz.func255,Tryz.ntmps255;go_wp2;go_ret;exact⟨by rw[HV.out];rfl,X0⟩
theorem lim_tx (t:TxM) (w:World) (h:t.Ok w):Calls Tryz.prog 257 #[t.val] w fun e w'=>e=.returned (.bool (txLim t))∧Below w.heap.size w w':=by
 have h1:=h.brs.len;have s1:=h.brs.small;obtain⟨nm,rs,⟨A,n,c⟩⟩:=t;dsimp only at h1 s1;have HV:Hid (txLim ⟨nm,rs,⟨A,n,c⟩⟩=decide (n<=16)):=by show txLim _=_;rw[h1];rfl
 generalize txLim ⟨nm,rs,⟨A,n,c⟩⟩=R at *;clear h h1;have X0:Below w.heap.size w (w.alloc (.cells #[.string nm,.slice A n c] 93)):=(Below.refl _ _).alloc (Nat.le_refl _) _;by_cases a:n<=16
 ·have d1:decide (n<=16)=true:=decide_eq_true a;have d2:decide ((n:Int)<=16)=true:=decide_eq_true (by omega);rw[d1]at HV;go_enter Tryz.func257,Tryz.ntmps257;go_wp2;go_ret;exact⟨by rw[HV.out];rfl,X0⟩
 ·have d1:decide (n<=16)=false:=decide_eq_false a;have d2:decide ((n:Int)<=16)=false:=decide_eq_false (by omega);rw[d1]at HV;go_enter Tryz.func257,Tryz.ntmps257;go_wp2;go_ret;exact⟨by rw[HV.out];rfl,X0⟩
theorem ent253:∀(args:Array Value) (W:World),(callFunc 253 args).run Tryz.prog W=.ok (.enter 253 args) W:=enter_of Tryz.func253 (by kernel_rfl) rfl
theorem ev119 {w:World} {s:Sl} {l:List RuM} (h:RulesV w s l):Calls Tryz.prog 252 #[.slice s.A s.n s.c,.func (.func 253) #[] #[]] w fun e w'=>e=.returned (.bool (l.all ruLim))∧Below w.heap.size w w':=by
 refine every_ru 253 #[] ent253 ruLim h ?_;intro t U ht hU;rw[app_nil];exact lim_ru t U ((h.each t ht).keep (.below hU))
theorem ent255:∀(args:Array Value) (W:World),(callFunc 255 args).run Tryz.prog W=.ok (.enter 255 args) W:=enter_of Tryz.func255 (by kernel_rfl) rfl
theorem ev121 {w:World} {s:Sl} {l:List TbM} (h:TablesV w s l):Calls Tryz.prog 254 #[.slice s.A s.n s.c,.func (.func 255) #[] #[]] w fun e w'=>e=.returned (.bool (l.all tbLim))∧Below w.heap.size w w':=by
 refine every_tb 255 #[] ent255 tbLim h ?_;intro t U ht hU;rw[app_nil];exact lim_tb t U (⟨(h.each t ht).rows.below hU,(h.each t ht).name⟩)
theorem ent257:∀(args:Array Value) (W:World),(callFunc 257 args).run Tryz.prog W=.ok (.enter 257 args) W:=enter_of Tryz.func257 (by kernel_rfl) rfl
theorem ev123 {w:World} {s:Sl} {l:List TxM} (h:TaxesV w s l):Calls Tryz.prog 256 #[.slice s.A s.n s.c,.func (.func 257) #[] #[]] w fun e w'=>e=.returned (.bool (l.all txLim))∧Below w.heap.size w w':=by
 refine every_tx 257 #[] ent257 txLim h ?_;intro t U ht hU;rw[app_nil];exact lim_tx t U (⟨(h.each t ht).brs.below hU,(h.each t ht).name⟩)
theorem limC_any {w:World} {m:CatM} (h:m.Ok w):Calls Tryz.prog 172 #[m.val] w fun e w'=>e=.returned (.bool (limC m))∧Below w.heap.size w w':=by
 obtain⟨items,rules,tables,taxes,⟨Ai,ni,ci⟩,⟨Ar,nr,cr⟩,⟨At,nt,ct⟩,⟨Ax,nx,cx⟩⟩:=m;have X0:Below w.heap.size w (w.alloc (.cells #[.slice Ai ni ci,.slice Ar nr cr,.slice At nt ct,.slice Ax nx cx] 28)):=(Below.refl _ _).alloc (Nat.le_refl _) _;have k0:Bk (w.alloc (.cells #[.slice Ai ni ci,.slice Ar nr cr,.slice At nt ct,.slice Ax nx cx] 28)) w.heap.size 28 [.slice Ai ni ci,.slice Ar nr cr,.slice At nt ct,.slice Ax nx cx]:=Bk.new w 28 _;have G0:=Below.refl (w.alloc (.cells #[.slice Ai ni ci,.slice Ar nr cr,.slice At nt ct,.slice Ax nx cx] 28)).heap.size (w.alloc (.cells #[.slice Ai ni ci,.slice Ar nr cr,.slice At nt ct,.slice Ax nx cx] 28));have K0:Hid (∀W,Below (w.alloc (.cells #[.slice Ai ni ci,.slice Ar nr cr,.slice At nt ct,.slice Ax nx cx] 28)).heap.size (w.alloc (.cells #[.slice Ai ni ci,.slice Ar nr cr,.slice At nt ct,.slice Ax nx cx] 28)) W->Calls Tryz.prog 252 #[.slice Ar nr cr,.func (.func 253) #[] #[]] W fun e w'=>e=.returned (.bool (rules.all ruLim))∧Below W.heap.size W w'):=fun W hW =>
  ev119 (s:=⟨Ar,nr,cr⟩) ((h.rules.below X0).below hW)
 have K1:Hid (∀W,Below (w.alloc (.cells #[.slice Ai ni ci,.slice Ar nr cr,.slice At nt ct,.slice Ax nx cx] 28)).heap.size (w.alloc (.cells #[.slice Ai ni ci,.slice Ar nr cr,.slice At nt ct,.slice Ax nx cx] 28)) W->Calls Tryz.prog 254 #[.slice At nt ct,.func (.func 255) #[] #[]] W fun e w'=>e=.returned (.bool (tables.all tbLim))∧Below W.heap.size W w'):=fun W hW =>
  ev121 (s:=⟨At,nt,ct⟩) ((h.tables.below X0).below hW)
 have K2:Hid (∀W,Below (w.alloc (.cells #[.slice Ai ni ci,.slice Ar nr cr,.slice At nt ct,.slice Ax nx cx] 28)).heap.size (w.alloc (.cells #[.slice Ai ni ci,.slice Ar nr cr,.slice At nt ct,.slice Ax nx cx] 28)) W->Calls Tryz.prog 256 #[.slice Ax nx cx,.func (.func 257) #[] #[]] W fun e w'=>e=.returned (.bool (taxes.all txLim))∧Below W.heap.size W w'):=fun W hW =>
  ev123 (s:=⟨Ax,nx,cx⟩) ((h.taxes.below X0).below hW)
 have lni:=h.items.len;have zni:=h.items.small;have lnr:=h.rules.len;have znr:=h.rules.small;have lnt:=h.tables.len;have znt:=h.tables.small;have lnx:=h.taxes.len;have znx:=h.taxes.small;dsimp only at lni zni lnr znr lnt znt lnx znx;have HV:Hid (limC ⟨items,rules,tables,taxes,⟨Ai,ni,ci⟩,⟨Ar,nr,cr⟩,⟨At,nt,ct⟩,⟨Ax,nx,cx⟩⟩=(decide (ni<=64) && decide (nr<=64) && decide (nt<=32) && decide (nx<=32) && rules.all ruLim && tables.all tbLim && taxes.all txLim)):=by
  show limC _=_;rw[lni,lnr,lnt,lnx];rfl
 generalize limC ⟨items,rules,tables,taxes,⟨Ai,ni,ci⟩,⟨Ar,nr,cr⟩,⟨At,nt,ct⟩,⟨Ax,nx,cx⟩⟩=R at *;generalize rules.all ruLim=q0 at *;generalize tables.all tbLim=q1 at *;generalize taxes.all txLim=q2 at *;clear h lni lnr lnt lnx;by_cases ani:ni<=64;rotate_left
 ·have d1:decide (ni<=64)=false:=decide_eq_false ani;have d2:decide ((ni:Int)<=64)=false:=decide_eq_false (by omega);rw[d1]at HV;simp only[Bool.and_false,Bool.false_and]at HV;go_enter Tryz.func172,Tryz.ntmps172;go_wp2;go_ret;exact⟨by rw[HV.out];rfl,X0⟩
 have dni:decide (ni<=64)=true:=decide_eq_true ani;have eni:decide ((ni:Int)<=64)=true:=decide_eq_true (by omega);by_cases anr:nr<=64;rotate_left
 ·have d1:decide (nr<=64)=false:=decide_eq_false anr;have d2:decide ((nr:Int)<=64)=false:=decide_eq_false (by omega);rw[d1]at HV;simp only[Bool.and_false,Bool.false_and]at HV;go_enter Tryz.func172,Tryz.ntmps172;go_wp2;go_ret;exact⟨by rw[HV.out];rfl,X0⟩
 have dnr:decide (nr<=64)=true:=decide_eq_true anr;have enr:decide ((nr:Int)<=64)=true:=decide_eq_true (by omega);by_cases ant:nt<=32;rotate_left
 ·have d1:decide (nt<=32)=false:=decide_eq_false ant;have d2:decide ((nt:Int)<=32)=false:=decide_eq_false (by omega);rw[d1]at HV;simp only[Bool.and_false,Bool.false_and]at HV;go_enter Tryz.func172,Tryz.ntmps172;go_wp2;go_ret;exact⟨by rw[HV.out];rfl,X0⟩
 have dnt:decide (nt<=32)=true:=decide_eq_true ant;have ent:decide ((nt:Int)<=32)=true:=decide_eq_true (by omega);by_cases anx:nx<=32;rotate_left
 ·have d1:decide (nx<=32)=false:=decide_eq_false anx;have d2:decide ((nx:Int)<=32)=false:=decide_eq_false (by omega);rw[d1]at HV;simp only[Bool.and_false,Bool.false_and]at HV;go_enter Tryz.func172,Tryz.ntmps172;go_wp2;go_ret;exact⟨by rw[HV.out];rfl,X0⟩
 have dnx:decide (nx<=32)=true:=decide_eq_true anx;have enx:decide ((nx:Int)<=32)=true:=decide_eq_true (by omega);rw[dni,dnr,dnt,dnx]at HV;simp only[Bool.true_and]at HV;go_enter Tryz.func172,Tryz.ntmps172;go_wp2_with fail;refine(K0.out _ G0).mono ?_;rintro e w1 ⟨rfl,hb1⟩;have k1:=k0.below hb1 k0.lt;have G1:=G0.trans (hb1.mono G0.size);have X1:=X0.trans (hb1.mono X0.size);have s1_0:=k1.k0;have s1_1:=k1.k1;have s1_2:=k1.k2;have s1_3:=k1.k3;clear hb1;cases q0
 ·go_wp2;go_ret;exact⟨by rw[HV.out];rfl,X1⟩
 ·skip
  go_wp2_with fail;refine(K1.out _ G1).mono ?_;rintro e w2 ⟨rfl,hb2⟩;have k2:=k1.below hb2 k1.lt;have G2:=G1.trans (hb2.mono G1.size);have X2:=X1.trans (hb2.mono X1.size);clear s1_0 s1_1 s1_2 s1_3;have s2_0:=k2.k0;have s2_1:=k2.k1;have s2_2:=k2.k2;have s2_3:=k2.k3;clear hb2;cases q1
  ·go_wp2;go_ret;exact⟨by rw[HV.out];rfl,X2⟩
  ·skip
   go_wp2_with fail;refine(K2.out _ G2).mono ?_;rintro e w3 ⟨rfl,hb3⟩;have k3:=k2.below hb3 k2.lt;have G3:=G2.trans (hb3.mono G2.size);have X3:=X2.trans (hb3.mono X2.size);clear s2_0 s2_1 s2_2 s2_3;have s3_0:=k3.k0;have s3_1:=k3.k1;have s3_2:=k3.k2;have s3_3:=k3.k3;clear hb3;cases q2
   ·go_wp2;go_ret;exact⟨by rw[HV.out];rfl,X3⟩
   ·go_wp2;go_ret;exact⟨by rw[HV.out];rfl,X3⟩
def lastAt (l:List P2) (k:Nat):Int:=if k=0 then -1 else(l[k-1]?.getD (0,0)).1
def itemK (l:List P2) (k:Nat):Int:=(l[k]?.getD (0,0)).1
def sortTo (n:Nat) (l:List P2):Nat->Bool
 | 0=>true
 | k+1=>sortTo n l k && (decide (lastAt l k<itemK l k) && decide (itemK l k<n))
def sortB (n:Nat) (l:List P2):Bool:=sortTo n l l.length
theorem sortTo_no {n:Nat} {l:List P2} {k:Nat} (h:(decide (lastAt l k<itemK l k) && decide (itemK l k<n))=false):∀m,k<m->sortTo n l m=false:=by
 intro m hm
 induction m with
 | zero=>omega
 | succ m ih =>
   by_cases e:k=m
   ·subst e;simp only[sortTo,h,Bool.and_false]
   ·simp only[sortTo,ih (by omega),Bool.false_and]
theorem sorted_any {w:World} {s:Sl} {l:List P2} (h:PrV w 151 s l) {g:Nat} {Ai:Option Addr} {ni ci:Nat} (hg:g<w.heap.size) (hc:w.cell? ⟨g,0,none⟩=some (.slice Ai ni ci)) :
 Calls Tryz.prog 268 #[.slice s.A s.n s.c,.pointer (some ⟨g,0,none⟩)] w fun e w'=>e=.returned (.bool (sortB ni l))∧Below w.heap.size w w':=by
 have Hn:=iH h.len;have H:=iH h;have hs:=h.small;have HC:Hid (∀U,Below w.heap.size w U->U.cell? ⟨g,0,none⟩=some (.slice Ai ni ci)):=fun U hU=>(hU.cell (p:=⟨g,0,none⟩) hg).trans hc
 clear h hc;obtain⟨A,n,c⟩:=s;dsimp only at Hn hs⊢;go_enter Tryz.func268,Tryz.ntmps268;go_wp2_with fail;go_loopw [4,9] (fun la i wr=>∃k:Nat,k<=n∧i=.int .i64 k∧la=.int .i64 (lastAt l k)∧sortTo ni l k=true∧Below w.heap.size w wr) (fun _ i _=>n-(intOf i).toNat)
 case atStart=>exact⟨0,Nat.zero_le _,rfl,rfl,rfl,Below.refl _ _⟩
 case round =>
  obtain⟨k,hk,rfl,rfl,hR,hb⟩:=hrel;have HR:=iH hR;have hsz:=hb.size;clear hR;by_cases hlt:k<n
  ·have hkl:k<l.length:=by have:=Hn.out;omega
   obtain⟨b,off,rfl,hbb,c0,c1⟩:=(H.out.below hb).at_ k hkl;have hik:itemK l k=l[k].1:=by simp[itemK,hkl]
   have Hs:Hid ((decide (lastAt l k<itemK l k) && decide (itemK l k<ni))=true->sortTo ni l (k+1)=true):=fun h=>by simp only[sortTo,HR.out,h];rfl
   have Hno:Hid ((decide (lastAt l k<itemK l k) && decide (itemK l k<ni))=false->sortB ni l=false):=fun h=>sortTo_no h _ hkl
   have HL:Hid (lastAt l (k+1)=l[k].1):=by show lastAt l (k+1)=_;simp[lastAt,hkl]
   have hb2:Below w.heap.size w (wr.alloc (.cells #[.int .i64 l[k].1,.int .i64 l[k].2] 151)):=hb.alloc hsz _;have cg:wr.cell? ⟨g,0,none⟩=some (.slice Ai ni ci):=HC.out wr hb;have hgr:g<wr.heap.size:=by omega
   rw[hik]at Hs Hno;clear hik;generalize l[k]=t at *;obtain⟨x,y⟩:=t;generalize lastAt l k=la at *;dsimp only at *;clear hkl;by_cases a:la<x
   ·by_cases a2:x<ni
    ·have Hq:=iH (Hs.out (by simp[a,a2]));clear Hs Hno;have d1:¬ x<=la:=by omega
     have d2:¬ (ni:Int)<=x:=by omega
     go_wp2;go_roundw
     case rel=>exact⟨k+1,by omega,by go_num,by rw[HL.out],Hq.out,hb2⟩
     case measure=>simp[intOf];omega
    ·have Hq:=iH (Hno.out (by simp[a2]));clear Hs Hno;have d1:¬ x<=la:=by omega
     have d2:(ni:Int)<=x:=by omega
     go_wp2;go_ret;exact⟨by rw[Hq.out];rfl,hb2⟩
   ·have Hq:=iH (Hno.out (by simp[a]));clear Hs Hno;have d1:x<=la:=by omega
    go_wp2;go_ret;exact⟨by rw[Hq.out];rfl,hb2⟩
  ·have hkn:k=l.length:=by have:=Hn.out;omega
   have HT:Hid (sortB ni l=true):=by show sortB ni l=true;unfold sortB;rw[<- hkn];exact HR.out
   clear hkn;go_wp2;go_ret;exact⟨by rw[HT.out];rfl,hb⟩
def unitP (p:P2):Bool:=decide (1<=p.2) && decide (p.2<=1099511627776)
theorem unit_am (p:P2) (w:World):Calls Tryz.prog 279 #[.agg #[.int .i64 p.1,.int .i64 p.2]] w fun e w'=>e=.returned (.bool (unitP p))∧Below w.heap.size w w':=by
 obtain⟨x,y⟩:=p;have X0:Below w.heap.size w (w.alloc (.cells #[.int .i64 x,.int .i64 y] 151)):=(Below.refl _ _).alloc (Nat.le_refl _) _;have HV:Hid (unitP (x,y)=(decide (1<=y) && decide (y<=1099511627776))):=rfl;by_cases a:1<=y
 ·by_cases b:y<=1099511627776
  ·rw[decide_eq_true a,decide_eq_true b]at HV;go_enter Tryz.func279,Tryz.ntmps279;go_wp2;go_ret;exact⟨by rw[HV.out];rfl,X0⟩
  ·have d2:decide (y<=1099511627776)=false:=decide_eq_false b;rw[decide_eq_true a,d2]at HV;go_enter Tryz.func279,Tryz.ntmps279;go_wp2;go_ret;exact⟨by rw[HV.out];rfl,X0⟩
 ·have d1:decide (1<=y)=false:=decide_eq_false a;rw[d1]at HV;go_enter Tryz.func279,Tryz.ntmps279;go_wp2;go_ret;exact⟨by rw[HV.out];rfl,X0⟩
theorem ent279:∀(args:Array Value) (W:World),(callFunc 279 args).run Tryz.prog W=.ok (.enter 279 args) W:=enter_of Tryz.func279 (by kernel_rfl) rfl
theorem ev149 {w:World} {s:Sl} {l:List P2} (h:PrV w 151 s l):Calls Tryz.prog 278 #[.slice s.A s.n s.c,.func (.func 279) #[] #[]] w fun e w'=>e=.returned (.bool (l.all unitP))∧Below w.heap.size w w':=by
 refine every_am 279 #[] ent279 unitP h ?_;intro t U ht hU;rw[app_nil];exact unit_am t U
theorem units_am {w:World} {s:Sl} {l:List P2} (h:PrV w 151 s l):Calls Tryz.prog 277 #[.slice s.A s.n s.c] w fun e w'=>e=.returned (.bool (l.all unitP))∧Below w.heap.size w w':=by
 have K:=iH (ev149 h);generalize l.all unitP=q at *;clear h;go_enter Tryz.func277,Tryz.ntmps277;go_wp2_with fail;refine K.out.mono ?_;rintro e w1 ⟨rfl,hb1⟩;go_wp2;go_ret;exact⟨rfl,hb1⟩
def In64 (a:Int):Prop:=-9223372036854775808<=a∧a<=9223372036854775807
theorem key_num {a:Int} (h:In64 a):keyOf Tryz.prog 3 (.int .i64 a)=some (.int .i64 a):=Maps.keyOf_int_mk Tryz.underlying3 (WalkArith.wf_i64 h)
theorem keyLitN (a:Int):WideAt.IsKeyLit (.int .i64 a):=by simp[WideAt.IsKeyLit]
def MapN (w:World) (b n:Nat) (M:Int->Int):Prop :=
 ∃D:DataW Unit,w.ownsMap Tryz.prog 3 (plainElem Tryz.prog 3) b n D∧∀a:Int,D.atKey (.int .i64 a) (.lit (.int .i64 0))=.lit (.int .i64 (M a))
theorem MapN.made (w:World):MapN (w.alloc (.map #[] 0)) w.heap.size 0 fun _=>0:=⟨_,World.ownsMap_made w Tryz.prog 3 (plainElem Tryz.prog 3),fun _=>rfl⟩
theorem MapN.kept {w w':World} {b n:Nat} {M:Int->Int} {row:Option Nat} (h:MapN w b n M) (hg:w.grownBy w' row) (hne:some b≠row):MapN w' b n M:=by
 obtain⟨D,ho,hD⟩:=h;exact⟨D,ho.kept hg hne,hD⟩
theorem MapN.below {w w':World} {b n:Nat} {M:Int->Int} (h:MapN w b n M) (hb:Below w.heap.size w w'):MapN w' b n M:=h.kept (grown_of_below hb none) (by simp)
theorem MapN.lt {w:World} {b n:Nat} {M:Int->Int} (h:MapN w b n M):b<w.heap.size:=by
 obtain⟨D,ho,hD⟩:=h;exact ho.lt
theorem MapN.look {w:World} {b n:Nat} {M:Int->Int} (h:MapN w b n M) {a:Int} (ha:In64 a) :
 (Instr.lookup 410 (.map (some b)) (.int .i64 a) false).run Tryz.prog w=.ok (.int .i64 (M a)) w:=by
 obtain⟨D,ho,hD⟩:=h;obtain⟨v,ps,hrun,hv⟩:=ho.lookup (Maps.int_keyed Tryz.underlying3) Tryz.underlying410 (zero3 w) (plainElem_int Tryz.underlying3 (by decide)) (key_num ha);obtain⟨x,rfl,hx,_⟩:=plainElem_int_inv Tryz.underlying3 hv;rw[hD a]at hx;have:x=M a:=by have:=hx.symm;simp at this;exact this.1
 rw[this]at hrun;exact hrun
theorem MapN.put {w:World} {b n:Nat} {M:Int->Int} (h:MapN w b n M) {a z:Int} (ha:In64 a) (hz:In64 z) (hn:n<1000000000) :
 ∃w',(Instr.mapUpdate 410 (.map (some b)) (.int .i64 a) (.int .i64 z)).run Tryz.prog w=.ok () w'∧MapN w' b (n+1) (fun x=>if x=a then z else M x)∧w.grownBy w' (some b):=by
 obtain⟨D,ho,hD⟩:=h;obtain⟨w',hrun,ho',hg⟩:=ho.update (Maps.int_keyed Tryz.underlying3) Tryz.underlying410 (by unfold maxLen;omega) (key_num ha) (plainElem_int Tryz.underlying3 (a:=z) (WalkArith.wf_i64 hz));refine⟨w',hrun,⟨_,ho',fun t=>?_⟩,hg⟩;by_cases hx:t=a
 ·subst hx;rw[Maps.atKey_put_same ho.isMap (keyLitN _)];simp
 ·have hne:(Lit.int .i64 t)≠.int .i64 a:=fun e=>hx (by simpa using e)
  rw[Maps.atKey_put_other hne,hD t];simp[hx]
theorem MapN.row {w w':World} {b n B:Nat} {M:Int->Int} {A:Option Addr} {xs:List Value} (hm:MapN w b n M) (h:Row w B A xs) (hg:w.grownBy w' (some b)) (hB:B<=w.heap.size):Row w' B A xs:=by
 rcases h with h|⟨b',off,hA,hb',hc⟩
 ·exact .inl h
 ·refine .inr ⟨b',off,hA,hb',fun j u hu=>?_⟩;have hne:b'≠b:=by
   rintro rfl;have:=hc j u hu;obtain⟨D,⟨es,clock,hh,_⟩,_⟩:=hm;simp[World.cell?,hh]at this
  exact(World.cell?_of_block (w:=w) (hg.block b' (by omega) (fun e=>hne (Option.some.inj e)))).trans (hc j u hu)
def nK (l:List P2) (k:Nat):Int:=(l[k]?.getD (0,0)).2
def unitsW (l:List P2) (x:Int):Nat->Int
 | 0=>0
 | k+1=>if itemK l k=x then IntKind.i64.wrap (unitsW l x k+nK l k) else unitsW l x k
theorem unitsW_in (l:List P2) (x:Int) (k:Nat):In64 (unitsW l x k):=by
 induction k with
 | zero=>simp[unitsW,In64]
 | succ k ih =>
   simp only[unitsW];split
   ·rw[IntKind.wrap_i64];unfold In64;omega
   ·exact ih
theorem unitsW_next (l:List P2) (k:Nat):(fun x=>unitsW l x (k+1))=fun x=>if x=itemK l k then IntKind.i64.wrap (unitsW l (itemK l k) k+nK l k) else unitsW l x k:=by
 funext x;simp only[unitsW];by_cases h:x=itemK l k
 ·subst h;simp
 ·rw[if_neg (fun e=>h e.symm),if_neg h]
def contTo (t b:List P2):Nat->Bool
 | 0=>true
 | k+1=>contTo t b k && decide (unitsW b (itemK b k) b.length<=unitsW t (itemK b k) t.length)
def contB (t b:List P2):Bool:=contTo t b b.length
theorem contTo_no {t b:List P2} {k:Nat} (h:decide (unitsW b (itemK b k) b.length<=unitsW t (itemK b k) t.length)=false):∀m,k<m->contTo t b m=false:=by
 intro m hm
 induction m with
 | zero=>omega
 | succ m ih =>
   by_cases e:k=m
   ·subst e;simp only[contTo,h,Bool.and_false]
   ·simp only[contTo,ih (by omega),Bool.false_and]
theorem below_map {w W W':World} {b n:Nat} {M:Int->Int} (hm:MapN W b n M) (hb:Below w.heap.size w W) (hg:W.grownBy W' (some b)) (h:w.heap.size<=b):Below w.heap.size w W' :=
 hb.grown hg hb.size (fun g e=>by cases e;exact h)
theorem contains_any {w : World} {st sb : Sl} {t b : List P2} (ht : PrV w 151 st t) (hb' : PrV w 151 sb b) :
 Calls Tryz.prog 272 #[.slice st.A st.n st.c,.slice sb.A sb.n sb.c] w fun e w'=>e=.returned (.bool (contB t b))∧Below w.heap.size w w':=by
 have Hnt:=iH ht.len;have Hnb:=iH hb'.len;have HT:=iH ht;have HB:=iH hb';have hst:=ht.small;have hsb:=hb'.small;clear ht hb';obtain⟨At,nt,ct⟩:=st;obtain⟨Ab,nb,cb⟩:=sb;dsimp only at Hnt Hnb hst hsb⊢;have hmm:∀W:World,(Instr.makeMap 410 none).run Tryz.prog W=.ok (.map (some W.heap.size)) (W.alloc (.map #[] 0)):=fun W=>by kernel_rfl
 have B0:Below w.heap.size w ((w.alloc (.map #[] 0)).alloc (.map #[] 0)):=((Below.refl _ _).alloc (Nat.le_refl _) _).alloc (by simp) _;have M1:=(MapN.made w).below ((Below.refl _ (w.alloc (.map #[] 0))).alloc (Nat.le_refl _) (.map #[] 0));have M2:=MapN.made (w.alloc (.map #[] 0));rw[World.size_alloc]at M2;have HM1:=iH M1;have HM2:=iH M2;clear M1 M2;go_enter Tryz.func272,Tryz.ntmps272;go_wp2_with fail;go_loopw [17] (fun i wr=>∃k:Nat,k<=nt∧i=.int .i64 k∧MapN wr w.heap.size k (fun x=>unitsW t x k)∧MapN wr (w.heap.size+1) 0 (fun _=>0)∧Below w.heap.size w wr) (fun i _=>nt-(intOf i).toNat)
 case atStart=>exact⟨0,Nat.zero_le _,rfl,HM1.out,HM2.out,B0⟩
 case round =>
  obtain⟨k,hk,rfl,m1,m2,hb⟩:=hrel;clear HM1 HM2 B0;have HM1:=iH m1;have HM2:=iH m2;have hsz:=hb.size;clear m1 m2 hmm;by_cases hlt:k<nt
  ·have hkl:k<t.length:=by have:=Hnt.out;omega
   obtain⟨bb,off,rfl,hbb,c0,c1⟩:=(HT.out.below hb).at_ k hkl;obtain⟨⟨w0,w1⟩,w2,w3⟩:=HT.out.wf _ (List.getElem_mem hkl);have hN:=unitsW_next t k;have e1:itemK t k=t[k].1:=by simp[itemK,hkl]
   have e2:nK t k=t[k].2:=by simp[nK,hkl]
   rw[e1,e2]at hN;have HN:=iH hN;have hu:=unitsW_in t t[k].1 k;clear hN e1 e2;generalize t[k]=p at *;obtain⟨x,y⟩:=p;dsimp only at *;have HA:=iH ((Below.refl wr.heap.size wr).alloc (Nat.le_refl _) (.cells #[.int .i64 x,.int .i64 y] 151));have M1a:=HM1.out.below HA.out;have hlk:=M1a.look (a:=x) ⟨w0,w1⟩;obtain⟨S,hS⟩:∃S,S=IntKind.i64.wrap (unitsW t x k+y):=⟨_,rfl⟩;have hS2:In64 S:=by rw[hS,IntKind.wrap_i64];unfold In64;omega
   rw[<- hS]at HN;obtain⟨wn,hrun,m3,hg⟩:=M1a.put (a:=x) (z:=S) ⟨w0,w1⟩ hS2 (by omega);have B1:=below_map M1a (hb.trans (HA.out.mono hsz)) hg (Nat.le_refl _);have m4:=(HM2.out.below HA.out).kept hg (by simp);have HM3:=iH m3;have HM4:=iH m4;have hS3:IntKind.i64.wrap (unitsW t x k+y)=S:=hS.symm;clear M1a m3 m4 hg hS hS2 hkl hu;generalize unitsW t x k=u at *;go_wp2_with fail;go_roundw
   case rel=>exact⟨k+1,by omega,by go_num,by rw[HN.out];exact HM3.out,HM4.out,B1⟩
   case measure=>simp[intOf];omega
  ·have hkt : k = t.length := by have := Hnt.out; omega
   subst hkt;clear HT;go_wp2_with fail;go_loopw [31] (fun i wx=>∃j:Nat,j<=nb∧i=.int .i64 j∧MapN wx w.heap.size t.length (fun x=>unitsW t x t.length)∧MapN wx (w.heap.size+1) j (fun x=>unitsW b x j)∧Below w.heap.size w wx) (fun i _=>nb-(intOf i).toNat)
   case atStart=>exact⟨0,Nat.zero_le _,rfl,HM1.out,HM2.out,hb⟩
   case round =>
    obtain⟨j,hj,rfl,m1,m2,hb⟩:=hrel;clear HM1 HM2;have HM1:=iH m1;have HM2:=iH m2;have hsz:=hb.size;clear m1 m2;by_cases hltj:j<nb
    ·have hjl:j<b.length:=by have:=Hnb.out;omega
     obtain⟨bb,off,rfl,hbb,c0,c1⟩:=(HB.out.below hb).at_ j hjl;obtain⟨⟨w0,w1⟩,w2,w3⟩:=HB.out.wf _ (List.getElem_mem hjl);have hN:=unitsW_next b j;have e1:itemK b j=b[j].1:=by simp[itemK,hjl]
     have e2:nK b j=b[j].2:=by simp[nK,hjl]
     rw[e1,e2]at hN;have HN:=iH hN;clear hN e1 e2;generalize b[j]=p at *;obtain⟨x,y⟩:=p;dsimp only at *;have HA:=iH ((Below.refl wr.heap.size wr).alloc (Nat.le_refl _) (.cells #[.int .i64 x,.int .i64 y] 151));have M2a:=HM2.out.below HA.out;have hlk:=M2a.look (a:=x) ⟨w0,w1⟩;obtain⟨S,hS⟩:∃S,S=IntKind.i64.wrap (unitsW b x j+y):=⟨_,rfl⟩;have hS2:In64 S:=by rw[hS,IntKind.wrap_i64];unfold In64;omega
     rw[<- hS]at HN;obtain⟨wn,hrun,m3,hg⟩:=M2a.put (a:=x) (z:=S) ⟨w0,w1⟩ hS2 (by omega);have B1:=below_map M2a (hb.trans (HA.out.mono hsz)) hg (by omega);have m4:=(HM1.out.below HA.out).kept hg (by simp);have HM3:=iH m3;have HM4:=iH m4;have hS3:IntKind.i64.wrap (unitsW b x j+y)=S:=hS.symm;clear M2a m3 m4 hg hS hS2 hjl;generalize unitsW b x j=u at *;go_wp2_with fail;go_roundw
     case rel=>exact⟨j+1,by omega,by go_num,HM4.out,by rw[HN.out];exact HM3.out,B1⟩
     case measure=>simp[intOf];omega
    ·have hjt:j=b.length:=by have:=Hnb.out;omega
     subst hjt;go_wp2_with fail;go_loopw [45] (fun i wx=>∃j:Nat,j<=nb∧i=.int .i64 j∧MapN wx w.heap.size t.length (fun x=>unitsW t x t.length)∧MapN wx (w.heap.size+1) b.length (fun x=>unitsW b x b.length)∧Below w.heap.size w wx∧contTo t b j=true) (fun i _=>nb-(intOf i).toNat)
     case atStart=>exact⟨0,Nat.zero_le _,rfl,HM1.out,HM2.out,hb,rfl⟩
     case round =>
      obtain⟨i,hi,rfl,m1,m2,hb,hR⟩:=hrel;clear HM1 HM2;have HM1:=iH m1;have HM2:=iH m2;have HR:=iH hR;have hsz:=hb.size;clear m1 m2 hR;by_cases hlti:i<nb
      ·have hil:i<b.length:=by have:=Hnb.out;omega
       obtain⟨bb,off,rfl,hbb,c0,c1⟩:=(HB.out.below hb).at_ i hil;obtain⟨⟨w0,w1⟩,w2,w3⟩:=HB.out.wf _ (List.getElem_mem hil);have e1:itemK b i=b[i].1:=by simp[itemK,hil]
       have Hs:Hid (unitsW b b[i].1 b.length<=unitsW t b[i].1 t.length->contTo t b (i+1)=true):=fun h=>by
        simp only[contTo,HR.out,e1,decide_eq_true h];rfl
       have Hno:Hid (¬ unitsW b b[i].1 b.length<=unitsW t b[i].1 t.length->contB t b=false):=fun h=>contTo_no (k:=i) (by rw[e1];exact decide_eq_false h) _ hil
       clear e1;generalize b[i]=p at *;obtain⟨x,y⟩:=p;dsimp only at *;have HA:=iH ((Below.refl wr.heap.size wr).alloc (Nat.le_refl _) (.cells #[.int .i64 x,.int .i64 y] 151));have l1:=(HM1.out.below HA.out).look (a:=x) ⟨w0,w1⟩;have l2:=(HM2.out.below HA.out).look (a:=x) ⟨w0,w1⟩;have B1:=hb.trans (HA.out.mono hsz);have HM3:=iH (HM1.out.below HA.out);have HM4:=iH (HM2.out.below HA.out);clear hil;generalize hU:unitsW t x t.length=U at *;generalize hV:unitsW b x b.length=V at *;clear hU hV;by_cases hle:V<=U
       ·have Hq:=iH (Hs.out hle);have d:¬ U<V:=by omega
        clear Hs Hno;go_wp2_with fail;go_roundw
        case rel=>exact⟨i+1,by omega,by go_num,HM3.out,HM4.out,B1,Hq.out⟩
        case measure=>simp[intOf];omega
       ·have Hq:=iH (Hno.out hle);have d:U<V:=by omega
        clear Hs Hno;go_wp2_with fail;go_ret;exact⟨by rw[Hq.out];rfl,B1⟩
      ·have hit:i=b.length:=by have:=Hnb.out;omega
       have HF:Hid (contB t b=true):=by show contB t b=true;unfold contB;rw[<- hit];exact HR.out
       clear hit;go_wp2_with fail;go_ret;exact⟨by rw[HF.out];rfl,hb⟩
def formR (nt nb:Nat) (sp:Bool) (le ti ch of_:Int):Bool :=
 if decide (0<nb) && (ch == of_) then false else if sp then(nt == 0) && (nb == 0) && (le == 0) && (ti == 0) && (ch == of_) else decide (0<nt) || (ti != 0)
def ruFormed (r:RuM):Bool:=formR r.take.length r.back.length r.spawn r.level r.time r.chance r.of_
theorem formed_ru (t:RuM) (w:World) (h:t.Ok w):Calls Tryz.prog 271 #[t.val] w fun e w'=>e=.returned (.bool (ruFormed t))∧Below w.heap.size w w':=by
 have h1:=h.take.len;have h3:=h.back.len;have s1:=h.take.small;have s3:=h.back.small;obtain⟨nm,sp,le,ti,ch,of_,tk,gv,bk,⟨At,nt,ct⟩,⟨Ag,ng,cg⟩,⟨Ab,nb,cb⟩⟩:=t;dsimp only at h1 h3 s1 s3;have HV:Hid (ruFormed ⟨nm,sp,le,ti,ch,of_,tk,gv,bk,⟨At,nt,ct⟩,⟨Ag,ng,cg⟩,⟨Ab,nb,cb⟩⟩=formR nt nb sp le ti ch of_):=by show ruFormed _=_;rw[h1,h3];rfl
 generalize ruFormed ⟨nm,sp,le,ti,ch,of_,tk,gv,bk,⟨At,nt,ct⟩,⟨Ag,ng,cg⟩,⟨Ab,nb,cb⟩⟩=R at *;clear h h1 h3;have X0:Below w.heap.size w (w.alloc (.cells #[.string nm,.bool sp,.int .i64 le,.int .i64 ti,.int .i64 ch,.int .i64 of_,.slice At nt ct,.slice Ag ng cg,.slice Ab nb cb] 149)):=(Below.refl _ _).alloc (Nat.le_refl _) _;have Hc:Hid (formR nt nb sp le ti ch of_=if decide (0<nb) && (ch == of_) then false else if sp then(nt == 0) && (nb == 0) && (le == 0) && (ti == 0) && (ch == of_) else decide (0<nt) || (ti != 0)):=rfl;rw[Hc.out]at HV;clear Hc;by_cases a:0<nb
 ·have a1:decide (0<nb)=true:=decide_eq_true a;have a2:decide ((0:Int)<(nb:Int))=true:=decide_eq_true (by omega);have a3:(nb == 0)=false:=by simp;omega
  have a4:((nb:Int) == 0)=false:=by simp;omega
  cases hq:(ch == of_)
  ·rw[a1,a3,hq]at HV;simp only[Bool.and_false,Bool.false_and,Bool.false_eq_true,if_false]at HV;cases sp
   ·simp only[Bool.false_eq_true,if_false]at HV;by_cases b:0<nt
    ·have b1:decide (0<nt)=true:=decide_eq_true b;have b2:decide ((0:Int)<(nt:Int))=true:=decide_eq_true (by omega);rw[b1]at HV;go_enter Tryz.func271,Tryz.ntmps271;go_wp2;go_ret;exact⟨by rw[HV.out];rfl,X0⟩
    ·have b1:decide (0<nt)=false:=decide_eq_false b;have b2:decide ((0:Int)<(nt:Int))=false:=decide_eq_false (by omega);rw[b1]at HV;simp only[Bool.false_or]at HV;go_enter Tryz.func271,Tryz.ntmps271;go_wp2;go_ret;exact⟨by rw[HV.out];rfl,X0⟩
   ·simp only[if_true]at HV;cases b:(nt == 0)
    ·have b2:((nt:Int) == 0)=false:=by simp at b⊢;omega
     go_enter Tryz.func271,Tryz.ntmps271;go_wp2;go_ret;exact⟨by rw[HV.out];rfl,X0⟩
    ·have b2:((nt:Int) == 0)=true:=by simp at b⊢;omega
     go_enter Tryz.func271,Tryz.ntmps271;go_wp2;go_ret;exact⟨by rw[HV.out];rfl,X0⟩
  ·rw[a1,hq]at HV;go_enter Tryz.func271,Tryz.ntmps271;go_wp2;go_ret;exact⟨by rw[HV.out];rfl,X0⟩
 ·have a1:decide (0<nb)=false:=decide_eq_false a;have a2:decide ((0:Int)<(nb:Int))=false:=decide_eq_false (by omega);have a3:(nb == 0)=true:=by simp;omega
  have a4:((nb:Int) == 0)=true:=by simp;omega
  rw[a1,a3]at HV;simp only[Bool.and_true,Bool.false_and,Bool.false_eq_true,if_false]at HV;cases sp
  ·simp only[Bool.false_eq_true,if_false]at HV;by_cases b:0<nt
   ·have b1:decide (0<nt)=true:=decide_eq_true b;have b2:decide ((0:Int)<(nt:Int))=true:=decide_eq_true (by omega);rw[b1]at HV;go_enter Tryz.func271,Tryz.ntmps271;go_wp2;go_ret;exact⟨by rw[HV.out];rfl,X0⟩
   ·have b1:decide (0<nt)=false:=decide_eq_false b;have b2:decide ((0:Int)<(nt:Int))=false:=decide_eq_false (by omega);rw[b1]at HV;simp only[Bool.false_or]at HV;go_enter Tryz.func271,Tryz.ntmps271;go_wp2;go_ret;exact⟨by rw[HV.out];rfl,X0⟩
  ·simp only[if_true]at HV;cases b:(nt == 0)
   ·have b2:((nt:Int) == 0)=false:=by simp at b⊢;omega
    rw[b]at HV;go_enter Tryz.func271,Tryz.ntmps271;go_wp2;go_ret;exact⟨by rw[HV.out];rfl,X0⟩
   ·have b2:((nt:Int) == 0)=true:=by simp at b⊢;omega
    rw[b]at HV;cases c1:(le == 0)
    ·rw[c1]at HV;go_enter Tryz.func271,Tryz.ntmps271;go_wp2;go_ret;exact⟨by rw[HV.out];rfl,X0⟩
    ·cases c2:(ti == 0)
     ·rw[c1,c2]at HV;go_enter Tryz.func271,Tryz.ntmps271;go_wp2;go_ret;exact⟨by rw[HV.out];rfl,X0⟩
     ·rw[c1,c2]at HV;simp only[Bool.true_and]at HV;go_enter Tryz.func271,Tryz.ntmps271;go_wp2;go_ret;exact⟨by rw[HV.out];rfl,X0⟩
def ruRange (r:RuM):Bool:=decide (0<=r.level) && decide (r.level<=100) && decide (0<=r.time) && decide (r.time<=1000000) && decide (1<=r.of_) && decide (r.of_<=1000000) && decide (1<=r.chance) && decide (r.chance<=r.of_)
def txP (p:P2):Bool:=decide (0<=p.1) && decide (p.1<=1099511627776) && decide (0<=p.2) && decide (p.2<=10000)
def wtP (r:RwM):Bool:=decide (1<=r.weight) && decide (r.weight<=1099511627776)
theorem range_ru (t:RuM) (w:World):Calls Tryz.prog 282 #[t.val] w fun e w'=>e=.returned (.bool (ruRange t))∧Below w.heap.size w w':=by
 obtain⟨nm,sp,L,T,C,O,tk,gv,bk,⟨At,nt,ct⟩,⟨Ag,ng,cg⟩,⟨Ab,nb,cb⟩⟩:=t;have X0:Below w.heap.size w (w.alloc (.cells #[.string nm,.bool sp,.int .i64 L,.int .i64 T,.int .i64 C,.int .i64 O,.slice At nt ct,.slice Ag ng cg,.slice Ab nb cb] 149)):=(Below.refl _ _).alloc (Nat.le_refl _) _;have HV:Hid (ruRange ⟨nm,sp,L,T,C,O,tk,gv,bk,⟨At,nt,ct⟩,⟨Ag,ng,cg⟩,⟨Ab,nb,cb⟩⟩=(decide (0<=L) && decide (L<=100) && decide (0<=T) && decide (T<=1000000) && decide (1<=O) && decide (O<=1000000) && decide (1<=C) && decide (C<=O))):=rfl;by_cases a0:0<=L;rotate_left
 ·have d:decide (0<=L)=false:=decide_eq_false a0;rw[d]at HV;go_enter Tryz.func282,Tryz.ntmps282;go_wp2;go_ret;exact⟨by rw[HV.out];rfl,X0⟩
 have e0:decide (0<=L)=true:=decide_eq_true a0;by_cases a1:L<=100;rotate_left
 ·have d:decide (L<=100)=false:=decide_eq_false a1;rw[e0,d]at HV;go_enter Tryz.func282,Tryz.ntmps282;go_wp2;go_ret;exact⟨by rw[HV.out];rfl,X0⟩
 have e1:decide (L<=100)=true:=decide_eq_true a1;by_cases a2:0<=T;rotate_left
 ·have d:decide (0<=T)=false:=decide_eq_false a2;rw[e0,e1,d]at HV;go_enter Tryz.func282,Tryz.ntmps282;go_wp2;go_ret;exact⟨by rw[HV.out];rfl,X0⟩
 have e2:decide (0<=T)=true:=decide_eq_true a2;by_cases a3:T<=1000000;rotate_left
 ·have d:decide (T<=1000000)=false:=decide_eq_false a3;rw[e0,e1,e2,d]at HV;go_enter Tryz.func282,Tryz.ntmps282;go_wp2;go_ret;exact⟨by rw[HV.out];rfl,X0⟩
 have e3:decide (T<=1000000)=true:=decide_eq_true a3;by_cases a4:1<=O;rotate_left
 ·have d:decide (1<=O)=false:=decide_eq_false a4;rw[e0,e1,e2,e3,d]at HV;go_enter Tryz.func282,Tryz.ntmps282;go_wp2;go_ret;exact⟨by rw[HV.out];rfl,X0⟩
 have e4:decide (1<=O)=true:=decide_eq_true a4;by_cases a5:O<=1000000;rotate_left
 ·have d:decide (O<=1000000)=false:=decide_eq_false a5;rw[e0,e1,e2,e3,e4,d]at HV;go_enter Tryz.func282,Tryz.ntmps282;go_wp2;go_ret;exact⟨by rw[HV.out];rfl,X0⟩
 have e5:decide (O<=1000000)=true:=decide_eq_true a5;by_cases a6:1<=C;rotate_left
 ·have d:decide (1<=C)=false:=decide_eq_false a6;rw[e0,e1,e2,e3,e4,e5,d]at HV;go_enter Tryz.func282,Tryz.ntmps282;go_wp2;go_ret;exact⟨by rw[HV.out];rfl,X0⟩
 have e6:decide (1<=C)=true:=decide_eq_true a6;by_cases a7:C<=O;rotate_left
 ·have d:decide (C<=O)=false:=decide_eq_false a7;rw[e0,e1,e2,e3,e4,e5,e6,d]at HV;go_enter Tryz.func282,Tryz.ntmps282;go_wp2;go_ret;exact⟨by rw[HV.out];rfl,X0⟩
 have e7:decide (C<=O)=true:=decide_eq_true a7;rw[e0,e1,e2,e3,e4,e5,e6,e7]at HV;go_enter Tryz.func282,Tryz.ntmps282;go_wp2;go_ret;exact⟨by rw[HV.out];rfl,X0⟩
theorem range_br (p:P2) (w:World):Calls Tryz.prog 349 #[.agg #[.int .i64 p.1,.int .i64 p.2]] w fun e w'=>e=.returned (.bool (txP p))∧Below w.heap.size w w':=by
 obtain⟨x,y⟩:=p;have X0:Below w.heap.size w (w.alloc (.cells #[.int .i64 x,.int .i64 y] 186)):=(Below.refl _ _).alloc (Nat.le_refl _) _;have HV:Hid (txP (x,y)=(decide (0<=x) && decide (x<=1099511627776) && decide (0<=y) && decide (y<=10000))):=rfl;by_cases a0:0<=x;rotate_left
 ·have d:decide (0<=x)=false:=decide_eq_false a0;rw[d]at HV;go_enter Tryz.func349,Tryz.ntmps349;go_wp2;go_ret;exact⟨by rw[HV.out];rfl,X0⟩
 have e0:decide (0<=x)=true:=decide_eq_true a0;by_cases a1:x<=1099511627776;rotate_left
 ·have d:decide (x<=1099511627776)=false:=decide_eq_false a1;rw[e0,d]at HV;go_enter Tryz.func349,Tryz.ntmps349;go_wp2;go_ret;exact⟨by rw[HV.out];rfl,X0⟩
 have e1:decide (x<=1099511627776)=true:=decide_eq_true a1;by_cases a2:0<=y;rotate_left
 ·have d:decide (0<=y)=false:=decide_eq_false a2;rw[e0,e1,d]at HV;go_enter Tryz.func349,Tryz.ntmps349;go_wp2;go_ret;exact⟨by rw[HV.out];rfl,X0⟩
 have e2:decide (0<=y)=true:=decide_eq_true a2;by_cases a3:y<=10000;rotate_left
 ·have d:decide (y<=10000)=false:=decide_eq_false a3;rw[e0,e1,e2,d]at HV;go_enter Tryz.func349,Tryz.ntmps349;go_wp2;go_ret;exact⟨by rw[HV.out];rfl,X0⟩
 have e3:decide (y<=10000)=true:=decide_eq_true a3;rw[e0,e1,e2,e3]at HV;go_enter Tryz.func349,Tryz.ntmps349;go_wp2;go_ret;exact⟨by rw[HV.out];rfl,X0⟩
theorem range_rw (r:RwM) (w:World):Calls Tryz.prog 347 #[r.val] w fun e w'=>e=.returned (.bool (wtP r))∧Below w.heap.size w w':=by
 obtain⟨x,gv,⟨A,n,c⟩⟩:=r;have X0:Below w.heap.size w (w.alloc (.cells #[.int .i64 x,.slice A n c] 175)):=(Below.refl _ _).alloc (Nat.le_refl _) _;have HV:Hid (wtP ⟨x,gv,⟨A,n,c⟩⟩=(decide (1<=x) && decide (x<=1099511627776))):=rfl;by_cases a0:1<=x;rotate_left
 ·have d:decide (1<=x)=false:=decide_eq_false a0;rw[d]at HV;go_enter Tryz.func347,Tryz.ntmps347;go_wp2;go_ret;exact⟨by rw[HV.out];rfl,X0⟩
 have e0:decide (1<=x)=true:=decide_eq_true a0;by_cases a1:x<=1099511627776;rotate_left
 ·have d:decide (x<=1099511627776)=false:=decide_eq_false a1;rw[e0,d]at HV;go_enter Tryz.func347,Tryz.ntmps347;go_wp2;go_ret;exact⟨by rw[HV.out];rfl,X0⟩
 have e1:decide (x<=1099511627776)=true:=decide_eq_true a1;rw[e0,e1]at HV;go_enter Tryz.func347,Tryz.ntmps347;go_wp2;go_ret;exact⟨by rw[HV.out];rfl,X0⟩
theorem ent269:∀(args:Array Value) (W:World),(callFunc 269 args).run Tryz.prog W=.ok (.enter 269 args) W:=enter_of Tryz.func269 (by kernel_rfl) rfl
theorem ent280:∀(args:Array Value) (W:World),(callFunc 280 args).run Tryz.prog W=.ok (.enter 280 args) W:=enter_of Tryz.func280 (by kernel_rfl) rfl
theorem ent349:∀(args:Array Value) (W:World),(callFunc 349 args).run Tryz.prog W=.ok (.enter 349 args) W:=enter_of Tryz.func349 (by kernel_rfl) rfl
theorem ent347:∀(args:Array Value) (W:World),(callFunc 347 args).run Tryz.prog W=.ok (.enter 347 args) W:=enter_of Tryz.func347 (by kernel_rfl) rfl
theorem ev139 {w:World} {s:Sl} {l:List It} (h:ItsV w s l):Calls Tryz.prog 258 #[.slice s.A s.n s.c,.func (.func 269) #[] #[]] w fun e w'=>e=.returned (.bool (l.all itFormedB))∧Below w.heap.size w w':=by
 refine every_it 269 #[] ent269 itFormedB h ?_;intro t U _ _;rw[app_nil];exact itformed_any t U
theorem ev150 {w:World} {s:Sl} {l:List It} (h:ItsV w s l):Calls Tryz.prog 258 #[.slice s.A s.n s.c,.func (.func 280) #[] #[]] w fun e w'=>e=.returned (.bool (l.all itRangeB))∧Below w.heap.size w w':=by
 refine every_it 280 #[] ent280 itRangeB h ?_;intro t U _ _;rw[app_nil];exact itrange_any t U
theorem ev178 {w:World} {s:Sl} {l:List P2} (h:PrV w 186 s l):Calls Tryz.prog 348 #[.slice s.A s.n s.c,.func (.func 349) #[] #[]] w fun e w'=>e=.returned (.bool (l.all txP))∧Below w.heap.size w w':=by
 refine every_br 349 #[] ent349 txP h ?_;intro t U _ _;rw[app_nil];exact range_br t U
theorem ev176 {w:World} {s:Sl} {l:List RwM} (h:RowsV w s l):Calls Tryz.prog 274 #[.slice s.A s.n s.c,.func (.func 347) #[] #[]] w fun e w'=>e=.returned (.bool (l.all wtP))∧Below w.heap.size w w':=by
 refine every_rw 347 #[] ent347 wtP h ?_;intro t U _ _;rw[app_nil];exact range_rw t U
theorem range_tx (t:TxM) (w:World) (h:t.Ok w):Calls Tryz.prog 286 #[t.val] w fun e w'=>e=.returned (.bool (t.brs.all txP))∧Below w.heap.size w w':=by
 have X0:Below w.heap.size w (w.alloc (.cells #[.string t.name,.slice t.sb.A t.sb.n t.sb.c] 93)):=(Below.refl _ _).alloc (Nat.le_refl _) _;have K:=iH (ev178 (h.brs.below X0));generalize t.brs.all txP=q at *;clear h;go_enter Tryz.func286,Tryz.ntmps286;go_wp2_with fail;refine K.out.mono ?_;rintro e w1 ⟨rfl,hb1⟩;go_wp2;go_ret;exact⟨rfl,X0.trans (hb1.mono (by simp))⟩
theorem weights_tb (t:TbM) (w:World) (h:t.Ok w):Calls Tryz.prog 284 #[t.val] w fun e w'=>e=.returned (.bool (t.rows.all wtP))∧Below w.heap.size w w':=by
 have X0:Below w.heap.size w (w.alloc (.cells #[.string t.name,.slice t.sr.A t.sr.n t.sr.c] 173)):=(Below.refl _ _).alloc (Nat.le_refl _) _;have K:=iH (ev176 (h.rows.below X0));generalize t.rows.all wtP=q at *;clear h;go_enter Tryz.func284,Tryz.ntmps284;go_wp2_with fail;refine K.out.mono ?_;rintro e w1 ⟨rfl,hb1⟩;go_wp2;go_ret;exact⟨rfl,X0.trans (hb1.mono (by simp))⟩
def fromAt (brs:List (Int×Int)) (i:Nat):Int:=(brs[i]?.getD (0,0)).1
theorem pcells_length (l:List P2):(pcells l).length=l.length*2:=flat_len pc_len l
theorem pcells_from (brs:List P2) (k:Nat) (hk:k<brs.length):(pcells brs)[k*2]? = some (.int .i64 (fromAt brs k)):=by
 have:=flat_get pc_len brs k 0 hk (by omega);rw[Nat.add_zero]at this;rw[pcells,this];simp[fromAt,hk]
def incB (brs:List (Int×Int)) (k:Nat):Bool:=(List.range k).all fun i=>i == 0 || decide (fromAt brs (i-1)<fromAt brs i)
theorem incB_at {brs:List (Int×Int)} {n:Nat} (h:incB brs n=true) (i:Nat) (hi:i<n) (h0:1<=i):fromAt brs (i-1)<fromAt brs i:=by
 simp only[incB,List.all_eq_true,List.mem_range]at h;have:=h i hi;simp at this;omega
theorem incB_succ {brs:List (Int×Int)} {k:Nat} (h:incB brs k=true) (h1:fromAt brs (k-1)<fromAt brs k):incB brs (k+1)=true:=by
 simp only[incB,List.range_succ,List.all_append,Bool.and_eq_true]at h⊢;exact⟨h,by simp[h1]⟩
theorem incB_no {brs:List (Int×Int)} {n k:Nat} (hk:k<n) (h0:1<=k) (h:fromAt brs k<=fromAt brs (k-1)):incB brs n=false:=by
 cases hr:incB brs n
 ·rfl
 ·have:=incB_at hr k hk h0;omega
theorem incB_one (brs:List (Int×Int)):incB brs 1=true:=by simp[incB]
def formedB (brs:List (Int×Int)):Bool:=!brs.isEmpty && (fromAt brs 0 == 0) && incB brs brs.length
theorem tax_formed (nm:ByteArray) (A:Option Addr) (n c:Nat) (brs:List (Int×Int)) (w:World) (hr:Row w w.heap.size A (pcells brs)) (hn:n=brs.length) (hl:n<=140737488351232) :
 Calls Tryz.prog 276 #[.agg #[.string nm,.slice A n c]] w fun e w'=>e=.returned (.bool (formedB brs))∧Below w.heap.size w w':=by
 have hb0:Below w.heap.size w (w.alloc (.cells #[.string nm,.slice A n c] 93)):=(Below.refl _ _).alloc (Nat.le_refl _) _;by_cases hz:n=0
 ·have hf:formedB brs=false:=by
   have:brs=[]:=List.eq_nil_of_length_eq_zero (by omega);simp[formedB,this]
  have Hf:=iH hf;subst hz;clear hn hf;go_enter Tryz.func276,Tryz.ntmps276;go_wp2;go_ret;exact⟨by rw[Hf.out];rfl,hb0⟩
 ·obtain⟨b,off,rfl,hbb,hc⟩:=hr.at_ 0 (by rw[pcells_length];omega);have hcf:=hc _ _ (pcells_from brs 0 (by omega));have hnz:((n:Int) == 0)=false:=by simp;omega
  have hn1:0<n:=by omega
  simp only[Nat.zero_mul,Nat.add_zero]at hcf;have Hn:=iH hn;have hne:brs.isEmpty=false:=by cases brs <;> simp_all
  clear hz hn;by_cases hf0:fromAt brs 0=0
  ·have Hf:Hid (formedB brs=incB brs n):=by
    show formedB brs=incB brs n;rw[Hn.out];simp[formedB,hf0,hne]
   rw[hf0]at hcf;clear hf0 hne;have Hc:=iH hc;clear hc;go_enter Tryz.func276,Tryz.ntmps276;go_wp2;go_loopw [3] (fun i wr=>∃k:Nat,1<=k∧k<=n∧i=.int .i64 k∧incB brs k=true∧Below (w.heap.size+1) (w.alloc (.cells #[.string nm,.slice (some ⟨b,off,none⟩) n c] 93)) wr) (fun i _=>n-(intOf i).toNat)
   case atStart=>exact⟨1,Nat.le_refl _,by omega,rfl,incB_one brs,Below.refl _ _⟩
   case round =>
    obtain⟨k,hk1,hk,rfl,hR,hb⟩:=hrel;have HR:=iH hR;clear hR;have hcv:wr.cell? ⟨w.heap.size,1,none⟩=some (.slice (some ⟨b,off,none⟩) n c):=(hb.cell (p:=⟨w.heap.size,1,none⟩) (by simp)).trans (by simp);have hsz:w.heap.size<wr.heap.size:=by have:=hb.size;simp at this;omega
    have hbel:Below w.heap.size w wr:=hb0.trans (hb.mono (by omega));by_cases hlt:k<n
    ·have hcw:∀j u,(pcells brs)[j]? = some u->wr.cell? ⟨b,off+j,none⟩=some u:=fun j u hu=>(hbel.cell (p:=⟨b,off+j,none⟩) hbb).trans (Hc.out j u hu)
     have hc1:=hcw _ _ (pcells_from brs k (by have:=Hn.out;omega));have hc2:=hcw _ _ (pcells_from brs (k-1) (by have:=Hn.out;omega));have Hs:Hid (fromAt brs (k-1)<fromAt brs k->incB brs (k+1)=true):=fun h=>incB_succ HR.out h
     have Hno:Hid (fromAt brs k<=fromAt brs (k-1)->incB brs n=false):=fun h=>incB_no hlt hk1 h
     have e1:IntKind.i64.wrap ((k:Int)-1)=(k:Int)-1:=IntWalk.i64_in _ (by omega);have e2:((k:Int)-1).toNat=k-1:=by omega
     have e3:(0:Int)<=(k:Int)-1:=by omega
     have e4:(1:Int)<=(k:Int):=by omega
     have e5:(k:Int)-1<(n:Int):=by omega
     have e6:k-1<n:=by omega
     clear hcw;generalize fromAt brs k=f at *;generalize fromAt brs (k-1)=g at *;by_cases hgf:g<f
     ·go_wp2;go_quiet (fail);go_wp2;go_roundw
      case rel=>exact⟨k+1,by omega,by omega,by go_num,Hs.out hgf,bel_drewN hb _⟩
      case measure=>simp[intOf];omega
     ·have hgf2:f<=g:=by omega
      go_wp2;go_quiet (fail);go_wp2;go_ret;exact⟨by rw[Hf.out,Hno.out hgf2];rfl,bel_drewN hbel _⟩
    ·have hkn:k=n:=by omega
     rw[hkn]at HR;clear hkn;go_wp2;go_ret;exact⟨by rw[Hf.out,HR.out];rfl,hbel⟩
  ·have Hf:Hid (formedB brs=false):=by
    show formedB brs=false;simp[formedB,hf0]
   have hf1:(fromAt brs 0 != 0)=true:=by simpa using hf0
   clear hne hf0 hc;generalize fromAt brs 0=f at *;go_enter Tryz.func276,Tryz.ntmps276;go_wp2;go_ret;exact⟨by rw[Hf.out];rfl,hb0⟩
def strs (l:List ByteArray):List Value:=l.map Value.string
theorem strs_snoc (l:List ByteArray) (s:ByteArray):strs (l ++ [s])=strs l ++ [.string s]:=by simp[strs]
theorem one1s (s:ByteArray):∀u∈([.string s]:List Value),u.oneCell'=true:=by
 intro u hu;simp only[List.mem_cons,List.not_mem_nil,or_false]at hu;rcases hu with rfl;rfl
theorem info9:(Tryz.prog.info? 9).map (fun i=>(i.zero,i.size,i.bytes))=some (some (.string ⟨#[]⟩),1,16):=by kernel_rfl
theorem own_cap {W:World} {base:Nat} {e:TypeId} {size n c:Nat} {A:Option Addr} {xs:List Value} (h:W.ownsRow base e size (.slice A n c) n xs):n<=c:=by
 rcases h.2 with ⟨hv,hn⟩|⟨g,cap,cur,hv,_,_,hc,_⟩
 ·omega
 ·cases hv;exact hc
end Go.Proofs.YtiecjoijnkghbaaGreatDoor
