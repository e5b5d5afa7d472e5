/- Plain law of effects. An iterator that hands its body a row of its own, which it writes between two rounds: its contract, and the loop over it. The results of the players' rules: what the iterator keeps and owns. The results of the players' rules: the iterator. -/
import Derived.Test.YtiecjoijnkghbaaGreatDoorY20
import Derived.RangeFuncNested
import Derived.RangeFuncBound
import Derived.RangeFuncCalls
import Derived.RangeFuncLeaves
import Derived.Lib.SliceRun
set_option linter.unusedVariables false
set_option linter.unusedSimpArgs false
set_option maxRecDepth 100000
set_option maxHeartbeats 8000000
open Go.RowKit
namespace Go.Proofs.YtiecjoijnkghbaaGreatDoor
section
def sumF {α:Type} (f:α->Int):List α->Int
 | []=>0
 | x :: l=>f x+sumF f l
section
variable {α : Type}
theorem sumF_append (f:α->Int) (a b:List α):sumF f (a ++ b)=sumF f a+sumF f b:=by
 induction a with
 | nil=>simp[sumF]
 | cons x a ih=>simp only[List.cons_append,sumF,ih];omega
theorem sumF_congr {f g:α->Int} {l:List α} (h:∀x∈l,f x=g x):sumF f l=sumF g l:=by
 induction l with
 | nil=>rfl
 | cons x l ih=>simp only[sumF,h x (List.mem_cons_self ..),ih fun y hy=>h y (List.mem_cons_of_mem _ hy)]
theorem sumF_map {β:Type} (f:β->Int) (g:α->β) (l:List α):sumF f (l.map g)=sumF (fun x=>f (g x)) l:=by
 induction l with
 | nil=>rfl
 | cons x l ih=>simp only[List.map_cons,sumF,ih]
theorem sumF_bound {f:α->Int} {l:List α} {B:Int} (h:∀x∈l,-B<=f x∧f x<=B) : -(l.length*B)<=sumF f l∧sumF f l<=l.length*B:=by
 induction l with
 | nil=>simp[sumF]
 | cons x l ih =>
   have h1:=h x (List.mem_cons_self ..);have h2:=ih fun y hy=>h y (List.mem_cons_of_mem _ hy)
   simp only[sumF,List.length_cons,Int.natCast_add,Int.add_mul,Int.natCast_one,Int.one_mul];omega
end
theorem sumF_filt (f:P2->Int) (l:List P2) (K:Nat):sumF f (l.filter fun p=>decide (0<=p.1∧p.1<((K+1:Nat):Int)))=sumF f (l.filter fun p=>decide (0<=p.1∧p.1<(K:Int)))+sumF f (l.filter fun p=>decide (p.1=(K:Int))):=by
 induction l with
 | nil=>rfl
 | cons p l ih =>
   by_cases h1:p.1=(K:Int)
   ·have d1:decide (0<=p.1∧p.1<((K+1:Nat):Int))=true:=by simp;omega
    have d2:decide (0<=p.1∧p.1<(K:Int))=false:=by simp;omega
    have d3:decide (p.1=(K:Int))=true:=by simpa using h1
    rw[List.filter_cons_of_pos (by simpa using d1),List.filter_cons_of_neg (by simpa using d2),List.filter_cons_of_pos (by simpa using d3)];simp only[sumF,ih];omega
   ·have d3:decide (p.1=(K:Int))=false:=by simpa using h1
    by_cases h2:0<=p.1∧p.1<(K:Int)
    ·have d1:decide (0<=p.1∧p.1<((K+1:Nat):Int))=true:=by simp;omega
     rw[List.filter_cons_of_pos (by simpa using d1),List.filter_cons_of_pos (by simpa using h2),List.filter_cons_of_neg (by simpa using d3)];simp only[sumF,ih];omega
    ·have d1:decide (0<=p.1∧p.1<((K+1:Nat):Int))=false:=by simp;omega
     rw[List.filter_cons_of_neg (by simpa using d1),List.filter_cons_of_neg (by simpa using h2),List.filter_cons_of_neg (by simpa using d3)];exact ih
theorem sumF_bkt0 (f:P2->Int) (l:List P2) (K:Nat):sumF f (bkt l K)=sumF f (l.filter fun p=>decide (0<=p.1∧p.1<(K:Int))):=by
 induction K with
 | zero =>
   have:l.filter (fun p=>decide (0<=p.1∧p.1<((0:Nat):Int)))=[]:=filt_none _ fun a _=>by simp <;> omega
   rw[this];rfl
 | succ K ih=>rw[bkt,sumF_append,ih,sumF_filt]
theorem sumF_bkt (f:P2->Int) {l:List P2} {K:Nat} (h:∀p∈l,0<=p.1∧p.1<(K:Int)):sumF f (bkt l K)=sumF f l:=by
 rw[sumF_bkt0,filt_all l fun a ha=>by simpa using h a ha]
def effAt (l:List P2) (k:Int):Int:=sumF (fun p=>if p.1=k then p.2 else 0) l
def rowOf (n:Nat) (out take:List P2):List Int:=(List.range n).map fun k:Nat=>effAt out k-effAt take k
def outsOf (r:RuM):List (List P2):=r.give :: if r.chance<r.of_ then[r.back] else[]
def resR (n i:Nat) (r:RuM):List (Nat×List Int):=if r.spawn then[] else(outsOf r).map fun o=>(i,rowOf n o r.take)
def resTo (n:Nat):Nat->List RuM->List (Nat×List Int)
 | _,[]=>[]
 | i,r :: rs=>resR n i r ++ resTo n (i+1) rs
def resL (m:CatM):List (Nat×List Int):=resTo m.items.length 0 m.rules
theorem resTo_append (n i:Nat) (a b:List RuM):resTo n i (a ++ b)=resTo n i a ++ resTo n (i+a.length) b:=by
 induction a generalizing i with
 | nil=>simp[resTo]
 | cons r a ih=>simp only[List.cons_append,resTo,ih,List.append_assoc,List.length_cons];rw[show i+1+a.length=i+(a.length+1) by omega]
theorem resTo_take (n:Nat) (l:List RuM) (k:Nat) (hk:k<l.length):resTo n 0 (l.take (k+1))=resTo n 0 (l.take k) ++ resR n k l[k]:=by
 rw[List.take_succ_eq_append_getElem hk,resTo_append,List.length_take,Nat.min_eq_left (by omega)];simp[resTo]
@[simp] theorem rowOf_length (n : Nat) (a b : List P2) : (rowOf n a b).length = n := by simp [rowOf]
theorem rowOf_at {n:Nat} (a b:List P2) {k:Nat} (hk:k<n):wAt (rowOf n a b) k=effAt a k-effAt b k:=by simp[wAt,rowOf,hk]
def dotTo (ws es:List Int):Nat->Int
 | 0=>0
 | k+1=>dotTo ws es k+wAt ws k*wAt es k
def vsum (ws:List Int) (l:List P2):Int:=sumF (fun p=>wAt ws p.1.toNat*p.2) l
theorem dot_eff (ws : List Int) {l : List P2} (es : List Int) (n : Nat) (h : ∀ p ∈ l, 0 <= p.1 ∧ p.1 < (n : Int)) (he : ∀ k, k < n -> wAt es k = effAt l k) : dotTo ws es n = vsum ws l := by
 have key:∀n:Nat,(∀k,k<n->wAt es k=effAt l k)->dotTo ws es n=sumF (fun p=>wAt ws p.1.toNat*p.2) (l.filter fun p=>decide (0<=p.1∧p.1<(n:Int))):=by
  intro n
  induction n with
  | zero =>
    intro _;have:l.filter (fun p=>decide (0<=p.1∧p.1<((0:Nat):Int)))=[]:=filt_none _ fun a _=>by simp <;> omega
    rw[this];rfl
  | succ k ih =>
    intro he;rw[sumF_filt,<- ih fun j hj=>he j (by omega)];show dotTo ws es k+wAt ws k*wAt es k=_;rw[he k (by omega)];congr 1;have:∀l:List P2,wAt ws k*effAt l k=sumF (fun p=>wAt ws p.1.toNat*p.2) (l.filter fun p=>decide (p.1=(k:Int))):=by
     intro l
     induction l with
     | nil=>simp[effAt,sumF]
     | cons p l ih2 =>
       by_cases e:p.1=(k:Int)
       ·rw[List.filter_cons_of_pos (by simpa using e)];simp only[effAt,sumF,if_pos e,Int.mul_add]at ih2⊢;rw[ih2,e];simp
       ·rw[List.filter_cons_of_neg (by simpa using e)];simp only[effAt,sumF,if_neg e]at ih2⊢;rw[<- ih2];simp
    exact this l
 rw[key n he,filt_all l fun a ha=>by simpa using h a ha];rfl
theorem dotTo_sub (ws es fs gs:List Int) (n:Nat) (h:∀k,k<n->wAt es k=wAt fs k-wAt gs k):dotTo ws es n=dotTo ws fs n-dotTo ws gs n:=by
 induction n with
 | zero=>rfl
 | succ k ih =>
   simp only[dotTo,ih fun j hj=>h j (by omega),h k (by omega),Int.mul_sub];omega
theorem dot_row (ws:List Int) {n:Nat} {a b:List P2} (ha:∀p∈a,0<=p.1∧p.1<(n:Int)) (hb:∀p∈b,0<=p.1∧p.1<(n:Int)):dotTo ws (rowOf n a b) n=vsum ws a-vsum ws b:=by
 have e:∀(l:List P2) (k:Nat),k<n->wAt ((List.range n).map fun k:Nat=>effAt l k) k=effAt l k:=fun l k hk=>by simp[wAt,hk]
 rw[dotTo_sub ws _ ((List.range n).map fun k:Nat=>effAt a k) ((List.range n).map fun k:Nat=>effAt b k) n fun k hk=>by rw[rowOf_at a b hk,e a k hk,e b k hk],
  dot_eff ws _ n ha (fun k hk=>e a k hk),dot_eff ws _ n hb (fun k hk=>e b k hk)]
/-! ### The merged catalog -/
section
variable {pl : List Int} {K n : Nat}
theorem amL_sum (f:P2->Int) {l:List P2} (hp:∀x∈pl,0<=x∧x<(K:Int)) (hl:∀p∈l,0<=p.1∧p.1<(pl.length:Int)):sumF f (amL pl K l)=sumF (fun p=>f (mvA pl p)) l:=by
 unfold amL;rw[sumF_bkt f fun p hp'=>?_,sumF_map];obtain⟨q,hq,rfl⟩:=List.mem_map.1 hp';have h1:=hl q hq;obtain⟨i,hi⟩:∃i:Nat,q.1=(i:Int):=⟨q.1.toNat,by omega⟩;have hi':i<pl.length:=by omega
 have:plAt pl q.1=pl[i]:=by simp[plAt,hi,hi']
 show 0<=plAt pl q.1∧plAt pl q.1<(K:Int);rw[this];exact hp _ (List.getElem_mem hi')
theorem amL_eff {l:List P2} (hp:∀x∈pl,0<=x∧x<(K:Int)) (hl:∀p∈l,0<=p.1∧p.1<(pl.length:Int)) (hinj:∀i j:Nat,i<pl.length->j<pl.length->plAt pl i=plAt pl j->i=j) {i q:Nat} (hi:i<pl.length) (hq:plAt pl (i:Int)=(q:Int)) :
 effAt (amL pl K l) q=effAt l i:=by
 unfold effAt;rw[amL_sum _ hp hl];refine sumF_congr fun p hp'=>?_
 have h1:=hl p hp';obtain⟨j,hj⟩:∃j:Nat,p.1=(j:Int):=⟨p.1.toNat,by omega⟩;show(if plAt pl p.1=(q:Int) then p.2 else 0)=_;rw[hj];by_cases e:j=i
 ·subst e;rw[if_pos hq,if_pos rfl]
 ·rw[if_neg fun h=>e (hinj j i (by omega) hi (h.trans hq.symm)),if_neg (by omega)]
theorem amL_vsum {l:List P2} (hp:∀x∈pl,0<=x∧x<(K:Int)) (hl:∀p∈l,0<=p.1∧p.1<(pl.length:Int)) {ws vs:List Int} (hv:∀i:Nat,i<pl.length->wAt vs i=wAt ws (plAt pl (i:Int)).toNat):vsum ws (amL pl K l)=vsum vs l:=by
 unfold vsum;rw[amL_sum _ hp hl];refine sumF_congr fun p hp'=>?_
 have h1:=hl p hp';obtain⟨j,hj⟩:∃j:Nat,p.1=(j:Int):=⟨p.1.toNat,by omega⟩;show wAt ws (plAt pl p.1).toNat*p.2=wAt vs p.1.toNat*p.2;rw[hj,<- hv j (by omega)];simp
theorem amL_range {l:List P2} (hl:∀x∈pl,0<=x∧x<(K:Int)):∀p∈amL pl K l,0<=p.1∧p.1<(K:Int):=fun p hp=>bkt_lt _ K p hp
theorem outs_mv (r:RuM):outsOf (mvR pl K r)=(outsOf r).map (amL pl K):=by
 unfold outsOf mvR;dsimp only;split <;> rfl
end
def outsL:Nat->List RuM->List (Nat×List P2×List P2)
 | _,[]=>[]
 | i,r :: rs=>(if r.spawn then[] else(outsOf r).map fun o=>(i,o,r.take)) ++ outsL (i+1) rs
theorem resTo_outs (n:Nat) (l:List RuM):∀i,resTo n i l=(outsL i l).map fun x=>(x.1,rowOf n x.2.1 x.2.2):=by
 induction l with
 | nil=>intro i;rfl
 | cons r rs ih =>
   intro i;simp only[resTo,outsL,List.map_append,ih,resR];congr 1;split
   ·rfl
   ·rw[List.map_map];rfl
theorem outsL_mv (pl:List Int) (K:Nat) (l:List RuM):∀i,outsL i (l.map (mvR pl K))=(outsL i l).map fun x=>(x.1,amL pl K x.2.1,amL pl K x.2.2):=by
 induction l with
 | nil=>intro i;rfl
 | cons r rs ih =>
   intro i;simp only[List.map_cons,outsL,List.map_append,ih,outs_mv];congr 1;show(if r.spawn then[] else _)=_;split
   ·rfl
   ·rw[List.map_map,List.map_map];rfl
theorem outsL_core (l:List RuM):∀i,outsL i (l.map RuM.core)=outsL i l:=by
 induction l with
 | nil=>intro i;rfl
 | cons r rs ih =>
   intro i;simp only[List.map_cons,outsL,ih];rfl
theorem outsL_mem {l:List RuM}:∀ {i:Nat},∀x∈outsL i l,∃r∈l,(x.2.1=r.give∨x.2.1=r.back)∧x.2.2=r.take:=by
 induction l with
 | nil=>intro i x h;simp[outsL]at h
 | cons r rs ih =>
   intro i x h;simp only[outsL,List.mem_append]at h;rcases h with h|h
   ·split at h
    ·simp at h
    ·obtain⟨o,ho,rfl⟩:=List.mem_map.1 h;refine⟨r,List.mem_cons_self ..,?_,rfl⟩;unfold outsOf at ho;rcases List.mem_cons.1 ho with h|h
     ·exact .inl h
     ·split at h
      ·exact .inr (by simpa using h)
      ·simp at h
   ·obtain⟨r',hr,h1⟩:=ih x h;exact⟨r',List.mem_cons_of_mem _ hr,h1⟩
theorem outs_range {m:CatM} (h:codeC m=0):∀x∈outsL 0 m.rules,(∀p∈x.2.1,0<=p.1∧p.1<(m.items.length:Int))∧∀p∈x.2.2,0<=p.1∧p.1<(m.items.length:Int):=by
 intro x hx;obtain⟨r,hr,h1,h2⟩:=outsL_mem x hx;have key:∀s l,(s,l)∈ruL r->∀p∈l,0<=p.1∧p.1<(m.items.length:Int):=fun s l hl=>code_range h (s,l) (List.mem_append_left _ (List.mem_flatMap.2 ⟨r,hr,hl⟩))
 refine⟨?_,by rw[h2];exact key r.st _ (by simp[ruL])⟩;rcases h1 with h1|h1
 ·rw[h1];exact key r.sg _ (by simp[ruL])
 ·rw[h1];exact key r.sb _ (by simp[ruL])
theorem res_merged {a b c:CatM} (hc:c.core=(mgC a b).core) (h0:mgE a b=0) (hb:codeC b=0) :
 resL c=(outsL 0 b.rules).map (fun x=>(x.1,rowOf c.items.length (amL (placeL a.items b.items) c.items.length x.2.1) (amL (placeL a.items b.items) c.items.length x.2.2)))∧c.items=mergeL a.items b.items b.items.length:=by
 have e:mgC a b=mvC (placeL a.items b.items) (mergeL a.items b.items b.items.length).length { b with items:=mergeL a.items b.items b.items.length }:=by
  unfold mgC;rw[if_neg (by rw[h0];simp)]
 have hi:c.items=mergeL a.items b.items b.items.length:=by
  have:=congrArg CatM.items hc;rw[e]at this;exact this
 refine⟨?_,hi⟩;have hr:c.rules.map RuM.core=(b.rules.map (mvR (placeL a.items b.items) c.items.length)).map RuM.core:=by
  have:=congrArg CatM.rules hc;rw[e]at this;rw[hi];exact this
 unfold resL;rw[resTo_outs,<- outsL_core c.rules,hr,outsL_core,outsL_mv,List.map_map];rfl
def colOf (m:CatM) (i:Nat):List Int:=(resL m).map fun r=>wAt r.2 i
def dotsOf (ws:List Int) (m:CatM):List Int:=(resL m).map fun r=>dotTo ws r.2 m.items.length
theorem placeL_plAt {lo ln:List It} {x:Nat} (hx:x<ln.length):0<=plAt (placeL lo ln) (x:Int)∧plAt (placeL lo ln) (x:Int)<((mergeL lo ln ln.length).length:Int):=by
 rw[placeL_at hx];exact placeOf_range lo ln x hx
theorem place_inj {lo ln:List It} (hlo:Dist lo) (hln:Dist ln):∀i j:Nat,i<(placeL lo ln).length->j<(placeL lo ln).length->plAt (placeL lo ln) i=plAt (placeL lo ln) j->i=j:=by
 intro i j hi hj he;rw[placeL_len]at hi hj;obtain⟨h1,h2⟩:=placeL_plAt (lo:=lo) hi;obtain⟨q,hq⟩:∃q:Nat,plAt (placeL lo ln) (i:Int)=(q:Int):=⟨(plAt (placeL lo ln) (i:Int)).toNat,by omega⟩;have hqk:q<(mergeL lo ln ln.length).length:=by omega
 have e1:=(place_iff hlo hln hi hqk).2 hq;have e2:=(place_iff hlo hln hj hqk).2 (he.symm.trans hq);exact hln i j hi hj (e1.trans e2.symm)
theorem col_merged {a b c:CatM} (hc:c.core=(mgC a b).core) (h0:mgE a b=0) (ha:Dist a.items) (hbd:Dist b.items) (hb:codeC b=0) {i q:Nat} (hi:i<b.items.length) (hq:q<c.items.length) (hn:(itAt b.items i).name=(itAt c.items q).name) :
 colOf c q=colOf b i:=by
 obtain⟨h1,h2⟩:=res_merged hc h0 hb;have hpl:plAt (placeL a.items b.items) (i:Int)=(q:Int):=by
  rw[h2]at hq hn;exact(place_iff ha hbd hi hq).1 hn
 unfold colOf;rw[h1];unfold resL;rw[resTo_outs,List.map_map,List.map_map];refine List.map_congr_left fun x hx=>?_
 obtain⟨r1,r2⟩:=outs_range hb x hx;have hp:∀y∈placeL a.items b.items,0<=y∧y<(c.items.length:Int):=by rw[h2];exact placeL_pos _ _
 have inj:=place_inj ha hbd;have hil:i<(placeL a.items b.items).length:=by rw[placeL_len];exact hi
 show wAt (rowOf c.items.length _ _) q=wAt (rowOf b.items.length _ _) i;rw[rowOf_at _ _ hq,rowOf_at _ _ hi,amL_eff hp (by rw[placeL_len];exact r1) inj hil hpl,amL_eff hp (by rw[placeL_len];exact r2) inj hil hpl]
theorem dots_merged {a b c:CatM} (hc:c.core=(mgC a b).core) (h0:mgE a b=0) (hb:codeC b=0) {ws vs:List Int} (hv:∀i:Nat,i<b.items.length->wAt vs i=wAt ws (plAt (placeL a.items b.items) (i:Int)).toNat) :
 dotsOf ws c=dotsOf vs b:=by
 obtain⟨h1,h2⟩:=res_merged hc h0 hb;unfold dotsOf;rw[h1];unfold resL;rw[resTo_outs,List.map_map,List.map_map];refine List.map_congr_left fun x hx=>?_
 obtain⟨r1,r2⟩:=outs_range hb x hx;have hp:∀y∈placeL a.items b.items,0<=y∧y<(c.items.length:Int):=by rw[h2];exact placeL_pos _ _
 show dotTo ws (rowOf c.items.length _ _) c.items.length=dotTo vs (rowOf b.items.length _ _) b.items.length;rw[dot_row ws (amL_range hp) (amL_range hp),dot_row vs r1 r2,amL_vsum hp (by rw[placeL_len];exact r1) (by rw[placeL_len];exact hv),amL_vsum hp (by rw[placeL_len];exact r2) (by rw[placeL_len];exact hv)]
/-! ### Bounds -/
theorem res_small {m:CatM} (h:codeC m=0):∀x∈outsL 0 m.rules,(x.2.1.length<=64∧∀p∈x.2.1,1<=p.2∧p.2<=1099511627776)∧(x.2.2.length<=64∧∀p∈x.2.2,1<=p.2∧p.2<=1099511627776):=by
 intro x hx;obtain⟨r,hr,h1,h2⟩:=outsL_mem x hx;have hl:=(code_parts2 h).1;simp only[limC,Bool.and_eq_true,List.all_eq_true,decide_eq_true_eq]at hl;have hr1:=hl.1.1.2 r hr;simp only[ruLim,Bool.and_eq_true,decide_eq_true_eq]at hr1;have hg:=(code_parts2 h).2.2.2.2;simp only[rgC,Bool.and_eq_true,List.all_eq_true]at hg;have hr2:=hg.1.1.2 r hr;simp only[rgR,Bool.and_eq_true,List.all_eq_true,unitP,decide_eq_true_eq]at hr2;rw[h2];refine⟨?_,by omega,hr2.1.1.1⟩;rcases h1 with h1|h1
 ·rw[h1];exact⟨by omega,hr2.1.1.2⟩
 ·rw[h1];exact⟨by omega,hr2.1.2⟩
theorem eff_small {l:List P2} (hl:l.length<=64) (h:∀p∈l,1<=p.2∧p.2<=1099511627776) (k:Int) : -70368744177664<=effAt l k∧effAt l k<=70368744177664:=by
 have:=sumF_bound (f:=fun p:P2=>if p.1=k then p.2 else 0) (l:=l) (B:=1099511627776) fun p hp=>by
  have:=h p hp;split <;> omega
 unfold effAt;omega
end
section
section
variable {F : Fence} {n : Nat} {P : Program} {α : Type}
def SeqE (F:Fence) (n:Nat) (P:Program) (g:Nat) (lb:Array Value) (encs:Nat->α->Array Value) (Φ:Nat->List α->α->World->Prop) (Kp:Nat->World->World->Prop) (S Sp:List α->Prop) (w:World):Prop :=
 ∀ (l : Nat) (J Jx : List α -> World -> Prop) (W : World), Below w.heap.size w W ->
  (∀pre A B row,J pre A->A.grownBy B row->(∀r,row=some r->r=W.heap.size)->J pre B) ->
  (∀pre x W1,J pre W1->Φ W.heap.size pre x W1->YieldAt F (n-1) P l (encs W.heap.size x) W1 fun e W' =>
   (e=.returned (.bool true)∧J (pre ++ [x]) W'∧Kp W.heap.size W1 W')∨(e=.returned (.bool false)∧Jx (pre ++ [x]) W')) ->
  J [] W ->
  CallsIn F n P g (#[.func (.yield l) #[] #[]] ++ lb) W fun e W'=>(∃v,e=.returned v)∧((∃xs,S xs∧J xs W')∨(∃pre,Sp pre∧Jx pre W'))
def PostE (Kp:World->World->Prop) (I:List α->World->Prop) (Ix:Code->List α->World->Prop) (xs:List α) (W:World):Exit->Act->World->Prop
 | .normal,_,W'=>KeepsOthers W W'∧Kp W W'∧I xs W'
 | .ret,_,W'=>KeepsOthers W W'∧Ix .ret xs W'
 | .exit id,_,W'=>KeepsOthers W W'∧Ix (.exit id) xs W'
 | .goto t,_,W'=>KeepsOthers W W'∧Ix (.goto t) xs W'
 | .panic _,_,_=>False
 | .outgrown,_,_=>False
theorem range_e {g:Operand} {ps:Array Tmp} {assign body:Code} {Q:Exit->Act->World->Prop} {a:Act} {w:World} {D E:Nat} (hD:D=w.heap.size) (hE:E=w.heap.size+2)
 (hro:F.round=none) (h1:1<=n) {gf:Nat} {lb:Array Value} (hg:a.eval g=.func (.func gf) #[] lb) (hFg:F.fn gf) (eg:∀args w,(callFunc gf args).run P w=.ok (.enter gf args) w)
 {encs:Nat->α->Array Value} {Φ:Nat->List α->α->World->Prop} {Kp:Nat->World->World->Prop} {S Sp:List α->Prop} {w0:World} (hseq:SeqE F (n-1) P gf lb encs Φ Kp S Sp w0)
 (hb0:Below w0.heap.size w0 w) (hps:∀x,(encs E x).size=ps.size)
 (hKt:∀ {A B C:World},Kp E A B->Kp E B C->Kp E A C) (hKb:∀(W:World) (o o':Obj),W.heap[D+1]? = some o->o.isCells=false->Kp E W (W.putObj (D+1) o'))
 (hΦ:∀(pre:List α) (x:α) (W:World) (o o':Obj),W.heap[D+1]? = some o->Φ E pre x W->Φ E pre x (W.putObj (D+1) o'))
 (I:List α->World->Prop) (Ix:Code->List α->World->Prop)
 (hI:∀pre A B row,I pre A->A.grownBy B row->(∀r,row=some r->r=D∨r=D+1∨r=E)->I pre B)
 (hIx:∀c pre A B row,Ix c pre A->A.grownBy B row->(∀r,row=some r->r=D∨r=D+1∨r=E)->Ix c pre B)
 (h0:I [] w) (a₁:α->Act)
 (hassign:∀(l:Nat) (x:α) (W:World) (K:Act->World->Prop),K (a₁ x) W ->
  assign.wpIn (F.inRound l) (n-1-1) P (Exit.then K (fun _ _ _=>False)) { tmps:=(ps.zip (encs E x)).foldl (fun t (p,v)=>t.setIfInBounds p v) a.tmps,defers:=[] } W)
 (hbody:∀(l:Nat) (pre:List α) (x:α) (W:World),I pre W->Φ E pre x W->body.wpIn (F.inRound l) (n-1-1) P (PostE (Kp E) I Ix (pre ++ [x]) W) (a₁ x) W)
 (hdone:∀(xs:List α) (W:World),S xs->I xs W->W.heap[D]? = some (.deferred (some []))->Q .normal { a with defers:={ target:=.collected D,args:=#[] } :: a.defers } W)
 (hstop:∀(c:Code) (pre:List α) (W:World),Sp pre->Ix c pre W->W.heap[D]? = some (.deferred (some []))->c.wpIn F n P Q { a with defers:={ target:=.collected D,args:=#[] } :: a.defers } W) :
 (Code.rangeFunc g ps assign body).wpIn F n P Q a w:=by
 subst hD hE;refine wpIn_rangeFunc fun fn hfn=>?_
 rw[hro];let rec_:LoopState->Option Code->Loop:=fun st pe=>{ state:=st,pending:=pe,fn,tmps:=a.tmps,params:=ps,assign,body,defers:=w.heap.size }
 obtain⟨R,hR⟩:∃R,rec_=R:=⟨_,rfl⟩;obtain⟨V,hV⟩:∃V,(w.alloc (.deferred (some []))).alloc (.loop (R .ready none))=V:=⟨_,rfl⟩;have sV:V.heap.size=w.heap.size+2:=by rw[<- hV];simp
 have bV:Below w0.heap.size w0 V:=by
  rw[<- hV];exact hb0.trans ((((Below.refl _ w).alloc (Nat.le_refl _) _).alloc (by simp) _).mono hb0.size)
 have lV:V.heap[w.heap.size+1]? = some (.loop (R .ready none)):=by
  rw[<- hV];have:=World.alloc_heap_new (w.alloc (.deferred (some []))) (.loop (R .ready none));rwa [World.size_alloc]at this
 have dV:V.heap[w.heap.size]? = some (.deferred (some [])):=by
  rw[<- hV];exact(Below.heap_alloc _ _ _ (by simp)).trans (World.alloc_heap_new w _)
 have iV:I [] V:=by
  rw[<- hV];exact hI _ _ _ none (hI _ _ _ none h0 (World.grownBy_alloc w _ none) (fun r e=>by cases e)) (World.grownBy_alloc _ _ none) (fun r e=>by cases e)
 refine⟨w.heap.size+1,[{ target:=.collected w.heap.size,args:=#[] }],V,{ target:=.fn (.func gf) lb,args:=#[.func (.yield (w.heap.size+1)) #[] #[]] },V,gf,
  #[.func (.yield (w.heap.size+1)) #[] #[]] ++ lb,V,?_,?_,?_,?_,fun _=>h1,?_⟩
 ·rw[<- hV,<- hR];exact run_enterLoop_outer _ _ _ _ _
 ·simp only[resolve,hg];simp[go_sem]
 ·intro f' hf';simp[Target.leads]at hf';subst hf';exact hFg
 ·simp[invoke,go_sem,eg]
 have stay:∀ {A B:World} {row:Option Nat} {r:Nat} {o:Obj},A.grownBy B row->(∀q,row=some q->q=w.heap.size+2)->r<w.heap.size+2->A.heap[r]? = some o->B.heap[r]? = some o:=fun{A B row r o} hg hr hlt h =>
  (hg.block r (Array.getElem?_eq_some_iff.1 h).1 (fun e=>by have:=hr r e.symm;omega)).trans h
 have s:=hseq (w.heap.size+1)
  (fun pre W=>I pre W∧W.heap[w.heap.size+1]? = some (.loop (R .ready none))∧W.heap[w.heap.size]? = some (.deferred (some [])))
  (fun pre W=>∃c,Ix c pre W∧W.heap[w.heap.size+1]? = some (.loop (R .done (some c)))∧W.heap[w.heap.size]? = some (.deferred (some [])))
  V bV
  (fun pre A B row hj hg' hr=>⟨hI pre A B row hj.1 hg' (fun r e=>.inr (.inr (by rw[hr r e,sV]))),stay hg' (fun q e=>by rw[hr q e,sV]) (by omega) hj.2.1,stay hg' (fun q e=>by rw[hr q e,sV]) (by omega) hj.2.2⟩)
 rw[sV]at s;refine(s ?_ ⟨iV,lV,dV⟩).mono ?_
 ·rintro pre x W ⟨hi,hl,hk⟩ hφ;have hlt:w.heap.size+1<W.heap.size:=(Array.getElem?_eq_some_iff.1 hl).1;have hy:=run_yield (P:=P) (args:=encs (w.heap.size+2) x) hl (by rw[<- hR];exact hps x);rw[<- hR]at hy;refine⟨fn,_,assign,body,hy,roundIn_of_wpIn hfn (hassign _ x W _ ⟨_,run_beginRound hl (by rw[<- hR]),?_⟩)⟩;obtain⟨W2,hW2⟩:∃W2,W.putObj (w.heap.size+1) (.loop { R .ready none with state:=.busy })=W2:=⟨_,rfl⟩;rw[hW2];have hl2:W2.heap[w.heap.size+1]? = some (.loop { R .ready none with state:=.busy }):=by rw[<- hW2];exact World.putObj_heap_same hlt
  have hk2:W2.heap[w.heap.size]? = some (.deferred (some [])):=by rw[<- hW2];exact(World.putObj_heap_other (by omega)).trans hk
  have kp2:Kp (w.heap.size+2) W W2:=by rw[<- hW2];exact hKb _ _ _ hl rfl
  have hi2:I pre W2:=by rw[<- hW2];exact hI _ _ _ (some (w.heap.size+1)) hi (grownBy_putObj' W _ _) (fun r e=>by cases e;exact .inr (.inl rfl))
  have hφ2:Φ (w.heap.size+2) pre x W2:=by rw[<- hW2];exact hΦ _ _ _ _ _ hl hφ
  clear hW2;refine wpIn_mono (hbody _ pre x W2 hi2 hφ2) ?_;have fin:∀(jump:Option Code) (W3:World),KeepsOthers W2 W3 ->
   ∃W4,(Instr.endRound (w.heap.size+1) jump).run P W3=.ok (.bool jump.isNone) W4∧W3.grownBy W4 (some (w.heap.size+1))∧W3.heap[w.heap.size+1]? = some (.loop { R .ready none with state:=.busy }) ∧
   W4=W3.putObj (w.heap.size+1) (.loop (R (if jump.isNone then .ready else .done) jump)) ∧
   W4.heap[w.heap.size+1]? = some (.loop (R (if jump.isNone then .ready else .done) jump))∧W4.heap[w.heap.size]? = some (.deferred (some [])):=fun jump W3 hk3=>by
   have hl3:=hk3.same _ _ hl2 rfl;have:=run_endRound (P:=P) jump hl3;rw[<- hR]at this;refine⟨_,this,grownBy_putObj' _ _ _,hl3,by rw[<- hR],?_,(World.putObj_heap_other (by omega)).trans (hk3.same _ _ hk2 rfl)⟩;rw[<- hR];exact World.putObj_heap_same (Array.getElem?_eq_some_iff.1 hl3).1
  have own:∀ {r:Nat},some (w.heap.size+1)=some r->r=w.heap.size∨r=w.heap.size+1∨r=w.heap.size+2:=fun e=>by cases e;exact .inr (.inl rfl)
  rintro e a3 W3 hp;cases e with
  | normal =>
    obtain⟨hk3,hkp3,hi3⟩:=hp;obtain⟨W4,hr,hg4,hl3,h4,hl4,hk4⟩:=fin none W3 hk3;refine⟨_,_,hr,.inl ⟨rfl,⟨hI _ _ _ _ hi3 hg4 (fun r e=>own e),hl4,hk4⟩,hKt (hKt kp2 hkp3) ?_⟩⟩;rw[h4];exact hKb _ _ _ hl3 rfl
  | ret =>
    obtain⟨hk3,hi3⟩:=hp;obtain⟨W4,hr,hg4,hl3,h4,hl4,hk4⟩:=fin (some .ret) W3 hk3;exact⟨_,_,hr,.inr ⟨rfl,.ret,hIx _ _ _ _ _ hi3 hg4 (fun r e=>own e),hl4,hk4⟩⟩
  | exit id =>
    obtain⟨hk3,hi3⟩:=hp;obtain⟨W4,hr,hg4,hl3,h4,hl4,hk4⟩:=fin (some (.exit id)) W3 hk3;exact⟨_,_,hr,.inr ⟨rfl,.exit id,hIx _ _ _ _ _ hi3 hg4 (fun r e=>own e),hl4,hk4⟩⟩
  | goto t =>
    obtain⟨hk3,hi3⟩:=hp;obtain⟨W4,hr,hg4,hl3,h4,hl4,hk4⟩:=fin (some (.goto t)) W3 hk3;exact⟨_,_,hr,.inr ⟨rfl,.goto t,hIx _ _ _ _ _ hi3 hg4 (fun r e=>own e),hl4,hk4⟩⟩
  | panic ch=>exact hp.elim
  | outgrown=>exact hp.elim
 ·have own:∀ {r:Nat},some (w.heap.size+1)=some r->r=w.heap.size∨r=w.heap.size+1∨r=w.heap.size+2:=fun e=>by cases e;exact .inr (.inl rfl)
  rintro e W2 ⟨⟨v,rfl⟩,(⟨xs,hS,hi,hl,hk⟩|⟨pre,hSp,c,hi,hl,hk⟩)⟩
  ·refine⟨none,_,by have:=run_endLoop (P:=P) hl (by rw[<- hR];simp[rec_]);rw[<- hR]at this;exact this,?_⟩;exact hdone xs _ hS (hI _ _ _ _ hi (grownBy_putObj' _ _ _) (fun r e=>own e)) ((World.putObj_heap_other (by omega)).trans hk)
  ·refine⟨some c,_,by have:=run_endLoop (P:=P) hl (by rw[<- hR];simp[rec_]);rw[<- hR]at this;exact this,?_⟩;exact hstop c pre _ hSp (hIx _ _ _ _ _ hi (grownBy_putObj' _ _ _) (fun r e=>own e)) ((World.putObj_heap_other (by omega)).trans hk)
end
end
section
def KpE (E:Nat) (W W':World):Prop:=(∀t,t≠3->t≠22->Keep t W W')∧W'.heap[E]? = W.heap[E]?
theorem KpE.trans {E:Nat} {A B C:World} (h:KpE E A B) (k:KpE E B C):KpE E A C:=⟨fun t h1 h2=>(h.1 t h1 h2).trans (k.1 t h1 h2),k.2.trans h.2⟩
theorem Keep.farK {t:TypeId} {W V:World} (h:Keep t W V) {g:Nat} (hg:W.heap.size<=g) (k:Nat) (u:Value):Keep t W (V.setCell ⟨g,k,none⟩ u):=fun b cur fl hb=>by
 have hlt:b<W.heap.size:=(Array.getElem?_eq_some_iff.1 hb).1;exact(Below.heap_setCell V ⟨g,k,none⟩ u b (by show b≠g;omega)).trans (h b cur fl hb)
structure ItS (W V : World) (E n : Nat) (e : List Int) : Prop where
 kp:∀t,t≠3->t≠22->Keep t W V
 row:Bk V E 3 (ints e)
 len:e.length=n
section
variable {W V V' : World} {E n : Nat} {e : List Int}
theorem ItS.lt (h:ItS W V E n e):E<V.heap.size:=h.row.lt
theorem ItS.alloc (h:ItS W V E n e) (o:Obj):ItS W (V.alloc o) E n e:=⟨fun t h1 h2=>(h.kp t h1 h2).trans (.alloc t V o),h.row.alloc o,h.len⟩
theorem ItS.far (h:ItS W V E n e) {g:Nat} (hg:W.heap.size<=g) (hne:E≠g) (k:Nat) (u:Value):ItS W (V.setCell ⟨g,k,none⟩ u) E n e :=
 ⟨fun t h1 h2=>(h.kp t h1 h2).farK hg k u,h.row.far (p:=⟨g,k,none⟩) hne u,h.len⟩
theorem ItS.kpE (h:ItS W V E n e) (k:KpE E V V'):ItS W V' E n e:=⟨fun t h1 h2=>(h.kp t h1 h2).trans (k.1 t h1 h2),by unfold Bk;rw[k.2];exact h.row,h.len⟩
theorem ItS.put (h:ItS W V E n e) (k:Nat) (x:Int):ItS W (V.setCell ⟨E,k,none⟩ (.int .i64 x)) E n (e.set k x) :=
 ⟨fun t h1 h2=>(h.kp t h1 h2).trans (.setCell h.row (Ne.symm h1) _),by rw[<- ints_set];exact h.row.set k _,by rw[List.length_set];exact h.len⟩
end
theorem setCells_grown (g:Nat):∀(vs:List Value) (o:Nat) (w:World),w.grownBy (w.setCells g o vs) (some g):=by
 intro vs
 induction vs with
 | nil=>intro o w;exact⟨rfl,rfl,rfl,Nat.le_refl _,fun _ _ _=>rfl⟩
 | cons v vs ih=>intro o w;exact grown_trans (grown_setCell w g o v) (ih (o+1) _)
theorem setCells_bk {g:Nat} {t:TypeId}:∀(vs:List Value) (o:Nat) (w:World) (xs:List Value),Bk w g t xs->o+vs.length<=xs.length ->
 ∃ys,Bk (w.setCells g o vs) g t ys∧ys.length=xs.length∧∀j,ys[j]? = if o<=j∧j<o+vs.length then vs[j-o]? else xs[j]?:=by
 intro vs
 induction vs with
 | nil=>intro o w xs h _;exact⟨xs,h,rfl,fun j=>by rw[if_neg (by simp)]⟩
 | cons v vs ih =>
   intro o w xs h hl;obtain⟨ys,h1,h2,h3⟩:=ih (o+1) (w.setCell ⟨g,o,none⟩ v) (xs.set o v) (h.set o v) (by simp at hl⊢;omega);refine⟨ys,h1,by simpa using h2,fun j=>?_⟩;rw[h3];simp only[List.length_cons]at hl⊢;by_cases e:j=o
   ·subst e;rw[if_neg (by omega),if_pos (by omega),List.getElem?_set_self (by omega)];simp
   ·rw[List.getElem?_set_ne (fun h=>e h.symm)];by_cases e2:o+1<=j∧j<o+1+vs.length
    ·rw[if_pos e2,if_pos (by omega),show j-o=(j-(o+1))+1 by omega,List.getElem?_cons_succ]
    ·rw[if_neg e2,if_neg (by omega)]
theorem clear_row {W V:World} {E n:Nat} {e:List Int} (h:ItS W V E n e):∃V',(∀ty,(Builtin.clear_ #[22] ty #[.slice (some ⟨E,0,none⟩) n n]).run Tryz.prog V=.ok (.tuple #[]) V')∧ItS W V' E n (List.replicate n 0)∧V.grownBy V' (some E):=by
 have hl:=h.len;rcases Nat.eq_zero_or_pos n with rfl|hn
 ·have:e=[]:=List.eq_nil_of_length_eq_zero hl;subst this;refine⟨V,fun ty=>?_,⟨h.kp,by simpa[ints]using h.row,by simp⟩,⟨rfl,rfl,rfl,Nat.le_refl _,fun _ _ _=>rfl⟩⟩;obtain⟨i,hi,hz0,hz1,hz2⟩:=info_parts info3;simp[Builtin.clear_,run_underlying Tryz.underlying22]
 ·have hrun:=fun ty=>Lib.run_clear_slice (P:=Tryz.prog) V 22 3 ty (.int .i64 0) Tryz.underlying22 (fun w=>zero3 w) rfl rfl E 0 n n hn (fun j hj=>by rw[Nat.zero_add,h.row.cell j];simp[ints,hl,hj]) (fun j hj=>h.row.frozen _)
  have hg:=setCells_grown E (List.replicate n (.int .i64 0)) 0 V;obtain⟨ys,hy,hyl,hyg⟩:=setCells_bk (g:=E) (t:=3) (List.replicate n (.int .i64 0)) 0 V (ints e) h.row (by simp[ints,hl]);have e1:ys=ints (List.replicate n 0):=by
   apply List.ext_getElem?;intro j;rw[hyg];by_cases hj:j<n
   ·simp[ints,hj]
   ·rw[if_neg (by simp;omega),List.getElem?_eq_none (by simp[ints,hl];omega),List.getElem?_eq_none (by simp[ints];omega)]
  rw[e1]at hy;exact⟨_,hrun,⟨fun t h1 h2=>(h.kp t h1 h2).trans (.grown hg fun cur fl hc=>by have:=h.row;unfold Bk at this;rw[this]at hc;cases hc;exact h1 rfl),hy,by simp⟩,hg⟩
def effRow (n:Nat) (l:List P2):List Int:=(List.range n).map fun k:Nat=>effAt l k
@[simp] theorem effRow_length (n : Nat) (l : List P2) : (effRow n l).length = n := by simp [effRow]
theorem effRow_nil (n:Nat):effRow n []=List.replicate n 0:=by simp[effRow,effAt,sumF,List.map_const']
theorem effAt_snoc (l:List P2) (p:P2) (k:Int):effAt (l ++ [p]) k=effAt l k+if p.1=k then p.2 else 0:=by
 unfold effAt;rw[sumF_append];simp[sumF]
theorem range_set {n q:Nat} (hq:q<n) (f g:Nat->Int) (x:Int) (h1:g q=x) (h2:∀k,k≠q->g k=f k):((List.range n).map f).set q x=(List.range n).map g:=by
 apply List.ext_getElem?;intro i;by_cases e:q=i
 ·subst e;rw[List.getElem?_set_self (by simpa using hq)];simp[hq,h1]
 ·rw[List.getElem?_set_ne e];by_cases hi:i<n
  ·simp[hi,h2 i (fun h=>e h.symm)]
  ·rw[List.getElem?_eq_none (by simp;omega),List.getElem?_eq_none (by simp;omega)]
theorem effRow_step {n:Nat} (l:List P2) (p:P2) (q:Nat) (hq:q<n) (hp:p.1=(q:Int)):(effRow n l).set q (effAt l q+p.2)=effRow n (l ++ [p]) :=
 range_set hq _ _ _ (by rw[effAt_snoc,if_pos hp]) fun k hk=>by rw[effAt_snoc,if_neg (by omega)];simp
theorem rowOf_step {n:Nat} (o l:List P2) (p:P2) (q:Nat) (hq:q<n) (hp:p.1=(q:Int)):(rowOf n o l).set q (effAt o q-effAt l q-p.2)=rowOf n o (l ++ [p]) :=
 range_set hq _ _ _ (by rw[effAt_snoc,if_pos hp];omega) fun k hk=>by rw[effAt_snoc,if_neg (by omega)];simp
theorem rowOf_nil (n:Nat) (o:List P2):rowOf n o []=effRow n o:=by simp[rowOf,effRow,effAt,sumF]
theorem outsL_in {l:List RuM} {r:RuM} {o:List P2} (hr:r∈l) (hs:r.spawn=false) (ho:o∈outsOf r):∀i,∃j,(j,o,r.take)∈outsL i l:=by
 induction l with
 | nil=>simp at hr
 | cons x l ih =>
   intro i;rcases List.mem_cons.1 hr with rfl|hr
   ·exact⟨i,List.mem_append_left _ (by rw[hs];exact List.mem_map.2 ⟨o,ho,rfl⟩)⟩
   ·obtain⟨j,hj⟩:=ih hr (i+1);exact⟨j,List.mem_append_right _ hj⟩
def OutOk (N:Nat) (l:List P2):Prop:=l.length<=64∧∀p∈l,(0<=p.1∧p.1<(N:Int))∧1<=p.2∧p.2<=1099511627776
theorem outs_ok {m:CatM} (hc:codeC m=0) {r:RuM} (hr:r∈m.rules) (hs:r.spawn=false):OutOk m.items.length r.take∧∀o∈outsOf r,OutOk m.items.length o:=by
 have key:∀o∈outsOf r,OutOk m.items.length o∧OutOk m.items.length r.take:=fun o ho=>by
  obtain⟨j,hj⟩:=outsL_in hr hs ho 0;obtain⟨r1,r2⟩:=outs_range hc _ hj;obtain⟨⟨s1,s2⟩,s3,s4⟩:=res_small hc _ hj;exact⟨⟨s1,fun p hp=>⟨r1 p hp,s2 p hp⟩⟩,s3,fun p hp=>⟨r2 p hp,s4 p hp⟩⟩
 exact⟨(key r.give (by simp[outsOf])).2,fun o ho=>(key o ho).1⟩
theorem OutOk.eff {N:Nat} {l:List P2} (h:OutOk N l) (q:Nat) (k:Int) : -70368744177664<=effAt (l.take q) k∧effAt (l.take q) k<=70368744177664 :=
 eff_small (by rw[List.length_take];have:=h.1;omega) (fun p hp=>(h.2 p (List.mem_of_mem_take hp)).2) k
abbrev resEncs (n E:Nat) (x:Nat×List Int):Array Value:=#[.int .i64 (x.1:Int),.slice (some ⟨E,0,none⟩) n n]
structure ResPhi (n : Nat) (all : List (Nat × List Int)) (E : Nat) (pre : List (Nat × List Int)) (x : Nat × List Int) (W : World) : Prop where
 row:Bk W E 3 (ints x.2)
 len:x.2.length=n
 small:∀k,-140737488355328<=wAt x.2 k∧wAt x.2 k<=140737488355328
 pre:(pre ++ [x]) <+: all
abbrev slv (s:Sl):Value:=.slice s.A s.n s.c
def outSl (r:RuM):List Sl:=r.sg :: if r.chance<r.of_ then[r.sb] else[]
theorem outs_at {W:World} {r:RuM} (h:r.Ok W) (j:Nat) (hj:j<(outsOf r).length):∃s,((outSl r).map slv)[j]? = some (slv s)∧PrV W 151 s (outsOf r)[j]:=by
 unfold outsOf at hj
 match j,hj with
 | 0,_=>exact⟨r.sg,rfl,by simpa[outsOf]using h.give⟩
 | 1, hj =>
   by_cases hc:r.chance<r.of_
   ·exact⟨r.sb,by simp[outSl,hc],by simpa[outsOf,hc]using h.back⟩
   ·rw[if_neg hc]at hj;simp at hj
 | j + 2, hj =>
   exfalso;have h2:(if r.chance<r.of_ then[r.back] else[]).length<=1:=by split <;> simp
   simp only[List.length_cons]at hj;omega
theorem res_pre {m:CatM} {k:Nat} (hk:k<m.rules.length) (hs:m.rules[k].spawn=false) (j:Nat) :
 (resTo m.items.length 0 (m.rules.take k) ++ ((outsOf m.rules[k]).take j).map fun o=>(k,rowOf m.items.length o m.rules[k].take)) <+: resL m:=by
 have e:resL m=resTo m.items.length 0 (m.rules.take (k+1)) ++ resTo m.items.length (0+(m.rules.take (k+1)).length) (m.rules.drop (k+1)):=by
  rw[<- resTo_append,List.take_append_drop];rfl
 rw[e,resTo_take _ _ _ hk,resR,hs];refine List.IsPrefix.trans ?_ (List.prefix_append _ _);rw[List.prefix_append_right_inj];exact(List.take_prefix j _).map _
theorem resL_len {m:CatM} (hc:codeC m=0):(resL m).length<=128:=by
 have key:∀(l:List RuM) (i n:Nat),(resTo n i l).length<=2*l.length:=by
  intro l
  induction l with
  | nil=>intro i n;simp[resTo]
  | cons r rs ih =>
    intro i n;have h1:(resR n i r).length<=2:=by
     unfold resR outsOf;split
     ·simp
     ·split <;> simp
    have h2:=ih (i+1) n;simp only[resTo,List.length_append,List.length_cons];omega
 have h1:=(code_parts2 hc).1;simp only[limC,Bool.and_eq_true,decide_eq_true_eq]at h1;have:=key m.rules 0 m.items.length;unfold resL;omega
structure RnS (J : List (Nat × List Int) -> World -> Prop) (W V : World) (E n rb : Nat) (A : Option Addr) (r : RuM) (e : List Int) (pre : List (Nat × List Int)) : Prop where
 its:ItS W V E n e
 bx:Bk V rb 149 (RuM.cells r)
 row:TRow V 147 A ((outSl r).map slv)
 j:J pre V
section
variable {J : List (Nat × List Int) -> World -> Prop} {W V V' : World} {E n rb : Nat} {A : Option Addr} {r : RuM} {e e' : List Int} {pre : List (Nat × List Int)}
def Jok (J:List (Nat×List Int)->World->Prop) (E:Nat):Prop:=∀pre A B row,J pre A->A.grownBy B row->(∀r,row=some r->r=E)->J pre B
theorem RnS.grown (h:RnS J W V E n rb A r e pre) (hJ:Jok J E) (hg:V.grownBy V' (some E)) (hi:ItS W V' E n e'):RnS J W V' E n rb A r e' pre :=
 ⟨hi,h.bx.grown hg (fun q=>by cases q;have a:=h.its.row;have b:=h.bx;unfold Bk at a b;rw[a]at b;simp only[Option.some.injEq,Obj.cells.injEq]at b;exact absurd b.2.1 (by decide)),h.row.keep (.grown hg fun cur fl hc=>by have:=h.its.row;unfold Bk at this;rw[this]at hc;simp only[Option.some.injEq,Obj.cells.injEq]at hc;exact absurd hc.2.1 (by decide)),hJ _ _ _ _ h.j hg fun r q=>by cases q;rfl⟩
theorem RnS.alloc (h:RnS J W V E n rb A r e pre) (hJ:Jok J E) (o:Obj):RnS J W (V.alloc o) E n rb A r e pre :=
 ⟨h.its.alloc o,h.bx.alloc o,h.row.keep (.alloc _ _ _),hJ _ _ _ none h.j (World.grownBy_alloc V o none) fun r q=>by cases q⟩
theorem RnS.drew (h:RnS J W V E n rb A r e pre) (hJ:Jok J E):RnS J W V.drew E n rb A r e pre :=
 h.grown hJ ⟨rfl,rfl,rfl,Nat.le_refl _,fun _ _ _=>rfl⟩ ⟨h.its.kp,h.its.row,h.its.len⟩
theorem RnS.put (h:RnS J W V E n rb A r e pre) (hJ:Jok J E) (k:Nat) (x:Int):RnS J W (V.setCell ⟨E,k,none⟩ (.int .i64 x)) E n rb A r (e.set k x) pre :=
 h.grown hJ (grown_setCell V E k _) (h.its.put k x)
theorem RnS.out_cell {ob:Nat} (h:RnS J W V E n rb (some ⟨ob,0,none⟩) r e pre) {j:Nat} {u:Value} (hu:((outSl r).map slv)[j]? = some u):V.cell? ⟨ob,j,none⟩=some u∧ob<V.heap.size:=by
 rcases h.row with h0|⟨b,off,cur,fl,hA,hb,hc⟩
 ·simp[outSl]at h0
 ·cases hA;have:=hc j u hu;rw[Nat.zero_add]at this;exact⟨by simp[World.cell?,hb,this],(Array.getElem?_eq_some_iff.1 hb).1⟩
theorem RnS.told (h:RnS J W V E n rb A r e pre) (k:KpE E V V') {pre':List (Nat×List Int)} (hj:J pre' V'):RnS J W V' E n rb A r e pre' :=
 ⟨h.its.kpE k,(k.1 149 (by decide) (by decide)) _ _ _ h.bx,h.row.keep (k.1 147 (by decide) (by decide)),hj⟩
end
end
section
open Go.Shelf
attribute [local go_sem] Oper.semAt_some
theorem info147:(Tryz.prog.info? 147).map (fun i=>(i.zero,i.size,i.bytes))=some (some (.slice none 0 0),1,24):=by kernel_rfl
theorem resR_spawn {n k:Nat} {r:RuM} (h:r.spawn=true):resR n k r=[]:=by simp[resR,h]
theorem resR_outs {n k:Nat} {r:RuM} (h:r.spawn=false):resR n k r=(outsOf r).map fun o=>(k,rowOf n o r.take):=by simp[resR,h]
theorem results_in {m : CatM} {W : World} {cb n l : Nat} (hm : m.Ok W) (hcb : Bk W cb 28 (catSL m.si m.sr m.st m.sx)) (hc : codeC m = 0) (J Jx : List (Nat × List Int) -> World -> Prop) (hJ : Jok J W.heap.size)
 (hY:∀pre x W1,J pre W1->ResPhi m.items.length (resL m) W.heap.size pre x W1->YieldAt Fence.wide (n-1) Tryz.prog l (resEncs m.items.length W.heap.size x) W1 fun e W' =>
  (e=.returned (.bool true)∧J (pre ++ [x]) W'∧KpE W.heap.size W1 W')∨(e=.returned (.bool false)∧Jx (pre ++ [x]) W')) (h0:J [] W) :
 CallsIn Fence.wide n Tryz.prog 215 #[.func (.yield l) #[] #[],.pointer (some ⟨cb,0,none⟩)] W fun e W'=>(∃v,e=.returned v)∧((∃xs,xs=resL m∧J xs W')∨(∃pre,pre <+: resL m∧Jx pre W')):=by
 have hN:m.items.length<=64:=code_64 hc;have hni:m.si.n=m.items.length:=hm.items.len;have hnr:m.sr.n=m.rules.length:=hm.rules.len;have HM:=iH hm;have HY:=iH hY;have HJ:=iH hJ;have HOut:=iH (fun r (hr:r∈m.rules) hs=>outs_ok hc hr hs);have c0:=hcb.k0;have c1:=hcb.k1;have cl:=hcb.lt;have HCb:=iH hcb;have hR:m.sr.n<=100000:=hm.rules.small;have hmk:(Instr.makeSlice 22 (.int .i64 (m.si.n:Int)) (.int .i64 (m.si.n:Int))).run Tryz.prog W=.ok (.slice (some ⟨W.heap.size,0,none⟩) m.si.n m.si.n) (W.alloc (.cells (ints (List.replicate m.si.n 0)).toArray 3)):=make_ints m.si.n (by omega) W;rw[hni]at hmk c0;have HI0:Hid (ItS W (W.alloc (.cells (ints (List.replicate m.items.length 0)).toArray 3)) W.heap.size m.items.length (List.replicate m.items.length 0)) :=
  ⟨fun t _ _=>.alloc t W _,Bk.new W 3 (ints (List.replicate m.items.length 0)),by simp⟩
 have HJ0:=iH (hJ _ _ _ none h0 (World.grownBy_alloc W (.cells (ints (List.replicate m.items.length 0)).toArray 3) none) (fun r q=>by cases q));have HE0:Hid (resL m=resTo m.items.length 0 m.rules):=rfl;have Hnr:=iH hnr;have HPre0:=iH (fun k (hk:k<m.rules.length) hs j=>res_pre hk hs j);generalize m.items.length=N at *;clear hm hcb hc hY hJ h0 hnr hni;refine callsIn_of_wp Tryz.func215 rfl trivial ?_ rfl;simp only[Tryz.ntmps215,List.size_toArray,List.length_cons,List.length_nil,Nat.reduceAdd,Nat.reduceSub,Array.replicate_succ,Array.replicate_zero,List.push_toArray,List.append_toArray,List.nil_append,List.cons_append]
 gi_wp2_with fail
 clear hmk;generalize W.alloc (.cells (ints (List.replicate N 0)).toArray 3)=W0 at *
 gi_loopw [20] (fun i wr=>∃(k:Nat) (e:List Int),k<=m.sr.n∧i=.int .i64 (k:Int)∧J (resTo N 0 (m.rules.take k)) wr∧ItS W wr W.heap.size N e) (fun i _=>m.sr.n-(intOf i).toNat)
 case atStart=>exact⟨0,_,Nat.zero_le _,rfl,HJ0.out,HI0.out⟩
 case round =>
  obtain⟨k,e,hk,rfl,hj,hI⟩:=hrel;by_cases hlt:k<m.sr.n
  ·have hkr : k < m.rules.length := by have := Hnr.out; omega
   have hRu:=HM.out.rules.keep (hI.kp 149 (by decide) (by decide)) (hI.kp 151 (by decide) (by decide));obtain⟨b,off,hA,hb,d0,d1,d2,d3,d4,d5,d6,d7,d8⟩:=hRu.at_ k hkr;have HRk:=iH (HM.out.rules.each m.rules[k] (List.getElem_mem hkr));have HRes:=iH (resTo_take N m.rules k hkr);have HOk:=iH (HOut.out m.rules[k] (List.getElem_mem hkr));have HPre:=iH (fun hs j=>HPre0.out k hkr hs j);generalize m.rules[k]=r at *;have HI:=iH hI;have Hj:=iH hj;have X:=Bk.new wr 149 [.string r.name,.bool r.spawn,.int .i64 r.level,.int .i64 r.time,.int .i64 r.chance,.int .i64 r.of_,.slice r.st.A r.st.n r.st.c,.slice r.sg.A r.sg.n r.sg.c,.slice r.sb.A r.sb.n r.sb.c];have HBx:=iH X;clear hRu hkr hI hj X HI0 HJ0 HPre0 HOut;rw[hA];have hwrap:IntKind.i64.wrap ((k:Int)+1)=(k:Int)+1:=IntWalk.i64_in _ (by omega);cases hsp:r.spawn
   ·have HOk := iH (HOk.out hsp);have HPre:=iH (HPre.out hsp);have HZ:Hid (resTo N 0 (m.rules.take (k+1))=resTo N 0 (m.rules.take k) ++ (outsOf r).map fun o=>(k,rowOf N o r.take)):=by
     show _=_;rw[HRes.out,resR_outs hsp]
    by_cases hch:r.chance<r.of_
    ·have HPl : Hid ((outsOf r).length = 2) := by show _ = _; simp [outsOf, hch]
     have hchd:decide (r.chance<r.of_)=true:=by simpa using hch
     obtain⟨i0,hi,hz0,hz1,hz2⟩:=info_parts info147;have hown:(((wr.alloc (.cells #[.string r.name,.bool r.spawn,.int .i64 r.level,.int .i64 r.time,.int .i64 r.chance,.int .i64 r.of_,.slice r.st.A r.st.n r.st.c,.slice r.sg.A r.sg.n r.sg.c,.slice r.sb.A r.sb.n r.sb.c] 149)).alloc (.cells #[.slice r.sg.A r.sg.n r.sg.c] 147)).alloc (.cells #[.slice r.sb.A r.sb.n r.sb.c] 147)).ownsRow wr.heap.size 147 1 (.slice (some ⟨wr.heap.size+1,0,none⟩) 1 1) 1 [.slice r.sg.A r.sg.n r.sg.c]:=by
      have h:=World.ownsRow_lit (base:=wr.heap.size) (e:=147) (size:=1) (wr.alloc (.cells #[.string r.name,.bool r.spawn,.int .i64 r.level,.int .i64 r.time,.int .i64 r.chance,.int .i64 r.of_,.slice r.st.A r.st.n r.st.c,.slice r.sg.A r.sg.n r.sg.c,.slice r.sb.A r.sb.n r.sb.c] 149)) #[.slice r.sg.A r.sg.n r.sg.c] 1 (by simp) (by unfold maxLen;omega) rfl;rw[World.size_alloc]at h;exact h.alloc _
     have hBx3:Bk (((wr.alloc (.cells #[.string r.name,.bool r.spawn,.int .i64 r.level,.int .i64 r.time,.int .i64 r.chance,.int .i64 r.of_,.slice r.st.A r.st.n r.st.c,.slice r.sg.A r.sg.n r.sg.c,.slice r.sb.A r.sb.n r.sb.c] 149)).alloc (.cells #[.slice r.sg.A r.sg.n r.sg.c] 147)).alloc (.cells #[.slice r.sb.A r.sb.n r.sb.c] 147)) wr.heap.size 149 [.string r.name,.bool r.spawn,.int .i64 r.level,.int .i64 r.time,.int .i64 r.chance,.int .i64 r.of_,.slice r.st.A r.st.n r.st.c,.slice r.sg.A r.sg.n r.sg.c,.slice r.sb.A r.sb.n r.sb.c]:=(HBx.out.alloc _).alloc _;have hB3:Below wr.heap.size wr (((wr.alloc (.cells #[.string r.name,.bool r.spawn,.int .i64 r.level,.int .i64 r.time,.int .i64 r.chance,.int .i64 r.of_,.slice r.st.A r.st.n r.st.c,.slice r.sg.A r.sg.n r.sg.c,.slice r.sb.A r.sb.n r.sb.c] 149)).alloc (.cells #[.slice r.sg.A r.sg.n r.sg.c] 147)).alloc (.cells #[.slice r.sb.A r.sb.n r.sb.c] 147)):=(((Below.refl _ wr).alloc (Nat.le_refl _) _).alloc (by simp) _).alloc (by simp;omega) _;have hsb:∀j u,[Value.slice r.sb.A r.sb.n r.sb.c][j]? = some u->(((wr.alloc (.cells #[.string r.name,.bool r.spawn,.int .i64 r.level,.int .i64 r.time,.int .i64 r.chance,.int .i64 r.of_,.slice r.st.A r.st.n r.st.c,.slice r.sg.A r.sg.n r.sg.c,.slice r.sb.A r.sb.n r.sb.c] 149)).alloc (.cells #[.slice r.sg.A r.sg.n r.sg.c] 147)).alloc (.cells #[.slice r.sb.A r.sb.n r.sb.c] 147)).cell? ((⟨wr.heap.size+2,0,none⟩:Addr).add j)=some u:=by
      have h:=Bk.new ((wr.alloc (.cells #[.string r.name,.bool r.spawn,.int .i64 r.level,.int .i64 r.time,.int .i64 r.chance,.int .i64 r.of_,.slice r.st.A r.st.n r.st.c,.slice r.sg.A r.sg.n r.sg.c,.slice r.sb.A r.sb.n r.sb.c] 149)).alloc (.cells #[.slice r.sg.A r.sg.n r.sg.c] 147)) 147 [.slice r.sb.A r.sb.n r.sb.c];rw[World.size_alloc,World.size_alloc]at h;intro j u hu
      match j,hu with
      | 0,hu=>simpa[Addr.add]using(h.cell 0).trans hu
      | j+1,hu=>simp at hu
     rw[hsp]at hown hBx3 hB3 hsb HBx d1;have HBx3:=iH hBx3;have HB3:=iH hB3;have HSb:=iH hsb;clear hBx3 hB3 hsb
     gi_wp2_with (gi_at_builtin;refine wpListIn_append_own_at _ rfl _ _ 217 rfl wr.heap.size 147 i0 (.slice none 0 0) 1 24 Tryz.underlying217 hi hz0 hz1 hz2 rfl (by decide) (.slice (some ⟨wr.heap.size+1,0,none⟩) 1 1) 1 [.slice r.sg.A r.sg.n r.sg.c] rfl hown ⟨wr.heap.size+2,0,none⟩ 1 1 [.slice r.sb.A r.sb.n r.sb.c] rfl rfl ?c1 ?c2 ?c3 ?c4 ?c5 ?_)
     case c1=>exact HSb.out
     case c2=>intro u hu;simp at hu;subst hu;rfl
     case c3=>unfold maxLen;omega
     case c4=>omega
     case c5=>simp;omega
     intro v2 w1 hown' hgrow _ _;obtain⟨ob,cap,rfl⟩:=ownsRow_succ hown';have hbw:Below wr.heap.size wr w1:=HB3.out.grown hgrow HB3.out.size (fun q e=>by simp[Value.ownBlock]at e;omega);have hEl:=HI.out.lt;have hR1:RnS J W w1 W.heap.size N wr.heap.size (some ⟨ob,0,none⟩) r e (resTo N 0 (m.rules.take k)):=by
      refine⟨⟨fun t h1 h2=>(HI.out.kp t h1 h2).trans (.below hbw),HI.out.row.below hbw hEl,HI.out.len⟩,?_,?_,HJ.out _ _ _ none Hj.out (grown_of_below hbw none) (fun r q=>by cases q)⟩
      ·have:=HBx3.out.grown hgrow (by simp[Value.ownBlock]);rw[<- hsp]at this;exact this
      ·have:=TRow.of_own hown';simpa[outSl,hch,slv]using this
     have HRn:=iH hR1;clear hown hown' hgrow hbw hEl hR1 HB3 HSb HBx3 HI HBx Hj HRes
     gi_wp2_with fail
     clear hchd;obtain⟨rb,hrb⟩:∃rb,rb=wr.heap.size:=⟨_,rfl⟩;rw[<- hrb]at HRn;rw[<- hrb];clear hrb hsp;(try simp only[Nat.reduceAdd])
     gi_loopw [42] (fun i wr2=>∃(j:Nat) (e2:List Int),j<=2∧i=.int .i64 (j:Int)∧RnS J W wr2 W.heap.size N rb (some ⟨ob,0,none⟩) r e2 (resTo N 0 (m.rules.take k) ++ ((outsOf r).take j).map fun o=>(k,rowOf N o r.take))) (fun i _=>2-(intOf i).toNat)
     case atStart=>exact⟨0,e,Nat.zero_le _,rfl,by simpa using HRn.out⟩
     case round =>
      obtain⟨j,e2,hj,rfl,hR2⟩:=hrel;by_cases hjp:j<2
      ·have hjo : j < (outsOf r).length := by have := HPl.out; omega
       obtain⟨⟨As,ns,cs⟩,hs1,hs2⟩:=outs_at HRk.out j hjo;obtain⟨g0,lt0⟩:=hR2.out_cell hs1;dsimp only[slv]at g0;have HO:=iH (HOk.out.2 (outsOf r)[j] (List.getElem_mem hjo));have HTj:Hid ((outsOf r).take (j+1)=(outsOf r).take j ++ [(outsOf r)[j]]):=List.take_succ_eq_append_getElem hjo;have HTk:=iH HOk.out.1;generalize(outsOf r)[j]=o at *;obtain⟨V',hcl,hI',hg'⟩:=clear_row hR2.its;have HR3:=iH (hR2.grown HJ.out hg' hI');have HP:=iH hs2;have HT:=iH HRk.out.take;have hns:ns<=100000:=hs2.small;have hwj:IntKind.i64.wrap ((j:Int)+1)=(j:Int)+1:=IntWalk.i64_in _ (by omega);clear hs1 hs2 hR2 hI' hg' hjo HRn
       gi_wp2_with fail
       clear hcl g0 lt0
       gi_loopw [49] (fun i wr3=>∃q:Nat,q<=ns∧i=.int .i64 (q:Int)∧RnS J W wr3 W.heap.size N rb (some ⟨ob,0,none⟩) r (effRow N (o.take q)) (resTo N 0 (m.rules.take k) ++ ((outsOf r).take j).map fun o=>(k,rowOf N o r.take))) (fun i _=>ns-(intOf i).toNat)
       case atStart=>exact⟨0,Nat.zero_le _,rfl,by rw[List.take_zero,effRow_nil];exact HR3.out⟩
       case round =>
        clear HR3;obtain⟨q,hq,rfl,hR3⟩:=hrel;by_cases hqn:q<ns
        ·have hqo:q<(o).length:=by have:=HP.out.len;dsimp only at this;omega
         obtain⟨b2,off2,hA2,hb2,a0,a1⟩:=(HP.out.keep (hR3.its.kp 151 (by decide) (by decide))).at_ q hqo;dsimp only at hA2;subst hA2;have hpp:=HO.out.2 (o)[q] (List.getElem_mem hqo);obtain⟨x,hx⟩:∃x:Nat,(o)[q].1=(x:Int):=⟨(o)[q].1.toNat,by omega⟩;have hxN:x<N:=by omega
         have HS:Hid ((effRow N (o.take (q))).set x (effAt (o.take (q)) (x:Int)+(o)[q].2)=effRow N (o.take (q+1))):=by
          show _=_;rw[List.take_succ_eq_append_getElem hqo];exact effRow_step (o.take q) o[q] x hxN hx
         have hbd:=HO.out.eff q (x:Int);have hcell:(ints (effRow N (o.take (q))))[x]? = some (.int .i64 (effAt (o.take (q)) (x:Int))):=by simp[ints,effRow,rowOf,hxN]
         rw[hx]at a0;obtain⟨a,ha⟩:∃a:Int,a=(o)[q].2:=⟨_,rfl⟩;rw[<- ha]at HS a1 hpp;have hpa:=hpp.2;obtain⟨E1,hE1⟩:∃E1:Int,E1=effAt (o.take (q)) (x:Int):=⟨_,rfl⟩;rw[<- hE1]at HS hcell hbd;have hw1:IntKind.i64.wrap (E1+a)=E1+a:=IntWalk.i64_in _ (by omega);have hR4:=hR3.alloc HJ.out (.cells #[.int .i64 (x:Int),.int .i64 a] 151);have hbx:=Bk.new wr 151 [.int .i64 (x:Int),.int .i64 a];obtain⟨ab,hab⟩:∃ab,ab=wr.heap.size:=⟨_,rfl⟩;have HR4:=iH hR4;have HBX:=iH hbx;have HAB:=iH hab;have hwq:IntKind.i64.wrap ((q:Int)+1)=(q:Int)+1:=IntWalk.i64_in _ (by have:=HP.out.small;dsimp only at this;omega);clear hR3 hR4 hbx hab hx ha hE1 hpp hqo;have gE:(wr.alloc (.cells #[.int .i64 (x:Int),.int .i64 a] 151)).cell? ⟨W.heap.size,x,none⟩=some (.int .i64 E1):=(HR4.out.its.row.cell x).trans hcell;have fE:=HR4.out.its.row.frozen x;have lE:=HR4.out.its.row.lt;have b0:(wr.alloc (.cells #[.int .i64 (x:Int),.int .i64 a] 151)).cell? ⟨wr.heap.size,0,none⟩=some (.int .i64 (x:Int)):=HBX.out.cell 0;have b1:(wr.alloc (.cells #[.int .i64 (x:Int),.int .i64 a] 151)).cell? ⟨wr.heap.size,1,none⟩=some (.int .i64 a):=HBX.out.cell 1;have bl:=HBX.out.lt;clear HBX hcell
         gi_wp2_with fail
         rw[<- HAB.out]at b0 b1 bl;(try rw[<- HAB.out]);generalize wr.alloc (.cells #[.int .i64 (x:Int),.int .i64 a] 151)=V3 at *;clear a0 a1 hb2
         gi_region
         have HR5:=iH ((HR4.out.put HJ.out x (E1+a)).drew HJ.out);rw[HS.out]at HR5;clear gE fE lE b0 b1 bl HR4 HS
         gi_wp2_with fail
         go_roundw
         case rel=>exact⟨q+1,by omega,by go_num,HR5.out⟩
         case measure=>simp[intOf];omega
        ·obtain rfl:q=ns:=by omega
         have hTo:o.take q=o:=List.take_of_length_le (by have:=HP.out.len;dsimp only at this;omega);rw[hTo,<- rowOf_nil]at hR3;obtain⟨st,hst⟩:∃st,st=r.st:=⟨_,rfl⟩;have c6:=hR3.bx.k6;have cl6:=hR3.bx.lt;rw[<- hst]at HT c6;obtain⟨At,nt,ct⟩:=st;dsimp only at c6;have hnt:nt<=100000:=HT.out.small;have HR6:=iH hR3;clear hR3 hTo hst hqn hq HP
         gi_wp2_with fail
         clear c6 cl6
         gi_loopw [66] (fun i wr3=>∃q:Nat,q<=nt∧i=.int .i64 (q:Int)∧RnS J W wr3 W.heap.size N rb (some ⟨ob,0,none⟩) r (rowOf N o (r.take.take q)) (resTo N 0 (m.rules.take k) ++ ((outsOf r).take j).map fun o=>(k,rowOf N o r.take))) (fun i _=>nt-(intOf i).toNat)
         case atStart=>exact⟨0,Nat.zero_le _,rfl,by rw[List.take_zero];exact HR6.out⟩
         case round =>
          clear HR6;obtain⟨q,hq,rfl,hR3⟩:=hrel;by_cases hqn:q<nt
          ·have hqo:q<(r.take).length:=by have:=HT.out.len;dsimp only at this;omega
           obtain⟨b2,off2,hA2,hb2,a0,a1⟩:=(HT.out.keep (hR3.its.kp 151 (by decide) (by decide))).at_ q hqo;dsimp only at hA2;subst hA2;have hpp:=HTk.out.2 (r.take)[q] (List.getElem_mem hqo);obtain⟨x,hx⟩:∃x:Nat,(r.take)[q].1=(x:Int):=⟨(r.take)[q].1.toNat,by omega⟩;have hxN:x<N:=by omega
           have HS:Hid ((rowOf N o (r.take.take (q))).set x (effAt o (x:Int)-effAt (r.take.take (q)) (x:Int)-(r.take)[q].2)=rowOf N o (r.take.take (q+1))):=by
            show _=_;rw[List.take_succ_eq_append_getElem hqo];exact rowOf_step o (r.take.take q) r.take[q] x hxN hx
           have hbd : -140737488355328<=effAt o (x:Int)-effAt (r.take.take q) (x:Int)∧effAt o (x:Int)-effAt (r.take.take q) (x:Int)<=140737488355328:=by
            have h1:=HO.out.eff o.length (x:Int);have h2:=HTk.out.eff q (x:Int);rw[List.take_length]at h1;omega
           have hcell:(ints (rowOf N o (r.take.take (q))))[x]? = some (.int .i64 (effAt o (x:Int)-effAt (r.take.take (q)) (x:Int))):=by simp[ints,effRow,rowOf,hxN]
           rw[hx]at a0;obtain⟨a,ha⟩:∃a:Int,a=(r.take)[q].2:=⟨_,rfl⟩;rw[<- ha]at HS a1 hpp;have hpa:=hpp.2;obtain⟨E1,hE1⟩:∃E1:Int,E1=effAt o (x:Int)-effAt (r.take.take (q)) (x:Int):=⟨_,rfl⟩;rw[<- hE1]at HS hcell hbd;have hw1:IntKind.i64.wrap (E1-a)=E1-a:=IntWalk.i64_in _ (by omega);have hR4:=hR3.alloc HJ.out (.cells #[.int .i64 (x:Int),.int .i64 a] 151);have hbx:=Bk.new wr 151 [.int .i64 (x:Int),.int .i64 a];obtain⟨ab,hab⟩:∃ab,ab=wr.heap.size:=⟨_,rfl⟩;have HR4:=iH hR4;have HBX:=iH hbx;have HAB:=iH hab;have hwq:IntKind.i64.wrap ((q:Int)+1)=(q:Int)+1:=IntWalk.i64_in _ (by have:=HT.out.small;dsimp only at this;omega);clear hR3 hR4 hbx hab hx ha hE1 hpp hqo;have gE:(wr.alloc (.cells #[.int .i64 (x:Int),.int .i64 a] 151)).cell? ⟨W.heap.size,x,none⟩=some (.int .i64 E1):=(HR4.out.its.row.cell x).trans hcell;have fE:=HR4.out.its.row.frozen x;have lE:=HR4.out.its.row.lt;have b0:(wr.alloc (.cells #[.int .i64 (x:Int),.int .i64 a] 151)).cell? ⟨wr.heap.size,0,none⟩=some (.int .i64 (x:Int)):=HBX.out.cell 0;have b1:(wr.alloc (.cells #[.int .i64 (x:Int),.int .i64 a] 151)).cell? ⟨wr.heap.size,1,none⟩=some (.int .i64 a):=HBX.out.cell 1;have bl:=HBX.out.lt;clear HBX hcell
           gi_wp2_with fail
           rw[<- HAB.out]at b0 b1 bl;(try rw[<- HAB.out]);generalize wr.alloc (.cells #[.int .i64 (x:Int),.int .i64 a] 151)=V3 at *;clear a0 a1 hb2
           gi_region
           have HR5:=iH ((HR4.out.put HJ.out x (E1-a)).drew HJ.out);rw[HS.out]at HR5;clear gE fE lE b0 b1 bl HR4 HS
           gi_wp2_with fail
           go_roundw
           case rel=>exact⟨q+1,by omega,by go_num,HR5.out⟩
           case measure=>simp[intOf];omega
          ·obtain rfl:q=nt:=by omega
           have hTr:r.take.take q=r.take:=List.take_of_length_le (by have:=HT.out.len;dsimp only at this;omega);rw[hTr]at hR3;have HR7:=iH hR3;have HNx:Hid ((resTo N 0 (m.rules.take k) ++ ((outsOf r).take j).map fun o=>(k,rowOf N o r.take)) ++ [(k,rowOf N o r.take)]=resTo N 0 (m.rules.take k) ++ ((outsOf r).take (j+1)).map fun o=>(k,rowOf N o r.take)):=by
            show _=_;rw[HTj.out,List.map_append,List.append_assoc];rfl
           have hPhi:ResPhi N (resL m) W.heap.size (resTo N 0 (m.rules.take k) ++ ((outsOf r).take j).map fun o=>(k,rowOf N o r.take)) (k,rowOf N o r.take) wr:=⟨hR3.its.row,by simp,fun q=>by
            by_cases h:q<N
            ·rw[rowOf_at _ _ h]
             have h1:=HO.out.eff o.length (q:Int)
             have h2:=HTk.out.eff r.take.length (q:Int)
             rw[List.take_length]at h1 h2
             omega
            ·have:wAt (rowOf N o r.take) q=0:=by simp[wAt,rowOf,h]
             rw[this];omega,by rw[HNx.out];exact HPre.out (j+1)⟩
           obtain⟨fn,tmps,assign,body,hy,hRd⟩:=HY.out _ (k,rowOf N o r.take) wr hR3.j hPhi;have HRd:=iH hRd;clear hRd hR3 hTr hPhi
           gi_wp2
           refine⟨(fun h=>by cases h),HRd.out.mono ?_⟩;rintro e W3 (⟨rfl,hJ3,hk3⟩|⟨rfl,hJx3⟩)
           ·rw[HNx.out]at hJ3;have HR8:=iH (HR7.out.told hk3 hJ3);clear hJ3 hk3 HRd HR7 hy
            gi_wp2_with fail
            go_roundw
            case rel=>exact⟨j+1,_,by omega,by go_num,HR8.out⟩
            case measure=>simp[intOf];omega
           ·rw[HNx.out]at hJx3;have HJx:=iH hJx3;have Hp:=iH (HPre.out (j+1));clear hJx3 HRd HR7 hy
            gi_wp2
            refine bodyPost_ret (results_none rfl _ _ _) rfl ?_;exact⟨⟨_,rfl⟩,.inr ⟨_,Hp.out,HJx.out⟩⟩
      ·have hjP:j=2:=by omega
       have hTj:(outsOf r).take j=outsOf r:=List.take_of_length_le (by have:=HPl.out;omega);have HJ2:Hid (J (resTo N 0 (m.rules.take (k+1))) wr):=by
        show J _ _;have:=hR2.j;rw[hTj]at this;rw[HZ.out];exact this
       have HI2:=iH hR2.its;have hjd:decide ((j:Int)<2)=false:=by simp;omega
       clear hR2 hTj hjP HRn
       gi_wp2_with fail
       go_roundw
       case rel=>exact⟨k+1,e2,by omega,by go_num,HJ2.out,HI2.out⟩
       case measure=>simp[intOf];omega
    ·have hR1 : RnS J W ((wr.alloc (.cells #[.string r.name, .bool r.spawn, .int .i64 r.level, .int .i64 r.time, .int .i64 r.chance, .int .i64 r.of_, .slice r.st.A r.st.n r.st.c, .slice r.sg.A r.sg.n r.sg.c, .slice r.sb.A r.sb.n r.sb.c] 149)).alloc (.cells #[.slice r.sg.A r.sg.n r.sg.c] 147)) W.heap.size N wr.heap.size (some ⟨wr.heap.size + 1, 0, none⟩) r e (resTo N 0 (m.rules.take k)) := by
      have k2:=Bk.new (wr.alloc (.cells #[.string r.name,.bool r.spawn,.int .i64 r.level,.int .i64 r.time,.int .i64 r.chance,.int .i64 r.of_,.slice r.st.A r.st.n r.st.c,.slice r.sg.A r.sg.n r.sg.c,.slice r.sb.A r.sb.n r.sb.c] 149)) 147 [.slice r.sg.A r.sg.n r.sg.c];rw[World.size_alloc]at k2;refine⟨(HI.out.alloc _).alloc _,HBx.out.alloc _,.inr ⟨_,0,_,_,rfl,k2,fun j u hu=>?_⟩,HJ.out _ _ _ none (HJ.out _ _ _ none Hj.out (World.grownBy_alloc _ _ none) (fun r q=>by cases q)) (World.grownBy_alloc _ _ none) (fun r q=>by cases q)⟩;rw[Nat.zero_add];simpa[outSl,hch,slv]using hu
     have HRn:=iH hR1;have HPl:Hid ((outsOf r).length=1):=by show _=_;simp[outsOf,hch]
     have hchd:decide (r.chance<r.of_)=false:=by simpa using hch
     rw[hsp]at HRn HBx d1;clear HI HBx Hj HRes hsp
     gi_wp2_with fail
     clear hchd;obtain⟨rb,hrb⟩:∃rb,rb=wr.heap.size:=⟨_,rfl⟩;obtain⟨ob,hob⟩:∃ob,ob=rb+1:=⟨_,rfl⟩;rw[<- hrb,<- hob]at HRn;rw[<- hrb,<- hob];clear hrb hob;generalize(wr.alloc (.cells #[.string r.name,.bool false,.int .i64 r.level,.int .i64 r.time,.int .i64 r.chance,.int .i64 r.of_,.slice r.st.A r.st.n r.st.c,.slice r.sg.A r.sg.n r.sg.c,.slice r.sb.A r.sb.n r.sb.c] 149)).alloc (.cells #[.slice r.sg.A r.sg.n r.sg.c] 147)=V2 at *
     gi_loopw [42] (fun i wr2=>∃(j:Nat) (e2:List Int),j<=1∧i=.int .i64 (j:Int)∧RnS J W wr2 W.heap.size N rb (some ⟨ob,0,none⟩) r e2 (resTo N 0 (m.rules.take k) ++ ((outsOf r).take j).map fun o=>(k,rowOf N o r.take))) (fun i _=>1-(intOf i).toNat)
     case atStart=>exact⟨0,e,Nat.zero_le _,rfl,by simpa using HRn.out⟩
     case round =>
      obtain⟨j,e2,hj,rfl,hR2⟩:=hrel;by_cases hjp:j<1
      ·have hjo : j < (outsOf r).length := by have := HPl.out; omega
       obtain⟨⟨As,ns,cs⟩,hs1,hs2⟩:=outs_at HRk.out j hjo;obtain⟨g0,lt0⟩:=hR2.out_cell hs1;dsimp only[slv]at g0;have HO:=iH (HOk.out.2 (outsOf r)[j] (List.getElem_mem hjo));have HTj:Hid ((outsOf r).take (j+1)=(outsOf r).take j ++ [(outsOf r)[j]]):=List.take_succ_eq_append_getElem hjo;have HTk:=iH HOk.out.1;generalize(outsOf r)[j]=o at *;obtain⟨V',hcl,hI',hg'⟩:=clear_row hR2.its;have HR3:=iH (hR2.grown HJ.out hg' hI');have HP:=iH hs2;have HT:=iH HRk.out.take;have hns:ns<=100000:=hs2.small;have hwj:IntKind.i64.wrap ((j:Int)+1)=(j:Int)+1:=IntWalk.i64_in _ (by omega);clear hs1 hs2 hR2 hI' hg' hjo HRn
       gi_wp2_with fail
       clear hcl g0 lt0
       gi_loopw [49] (fun i wr3=>∃q:Nat,q<=ns∧i=.int .i64 (q:Int)∧RnS J W wr3 W.heap.size N rb (some ⟨ob,0,none⟩) r (effRow N (o.take q)) (resTo N 0 (m.rules.take k) ++ ((outsOf r).take j).map fun o=>(k,rowOf N o r.take))) (fun i _=>ns-(intOf i).toNat)
       case atStart=>exact⟨0,Nat.zero_le _,rfl,by rw[List.take_zero,effRow_nil];exact HR3.out⟩
       case round =>
        clear HR3;obtain⟨q,hq,rfl,hR3⟩:=hrel;by_cases hqn:q<ns
        ·have hqo:q<(o).length:=by have:=HP.out.len;dsimp only at this;omega
         obtain⟨b2,off2,hA2,hb2,a0,a1⟩:=(HP.out.keep (hR3.its.kp 151 (by decide) (by decide))).at_ q hqo;dsimp only at hA2;subst hA2;have hpp:=HO.out.2 (o)[q] (List.getElem_mem hqo);obtain⟨x,hx⟩:∃x:Nat,(o)[q].1=(x:Int):=⟨(o)[q].1.toNat,by omega⟩;have hxN:x<N:=by omega
         have HS:Hid ((effRow N (o.take (q))).set x (effAt (o.take (q)) (x:Int)+(o)[q].2)=effRow N (o.take (q+1))):=by
          show _=_;rw[List.take_succ_eq_append_getElem hqo];exact effRow_step (o.take q) o[q] x hxN hx
         have hbd:=HO.out.eff q (x:Int);have hcell:(ints (effRow N (o.take (q))))[x]? = some (.int .i64 (effAt (o.take (q)) (x:Int))):=by simp[ints,effRow,rowOf,hxN]
         rw[hx]at a0;obtain⟨a,ha⟩:∃a:Int,a=(o)[q].2:=⟨_,rfl⟩;rw[<- ha]at HS a1 hpp;have hpa:=hpp.2;obtain⟨E1,hE1⟩:∃E1:Int,E1=effAt (o.take (q)) (x:Int):=⟨_,rfl⟩;rw[<- hE1]at HS hcell hbd;have hw1:IntKind.i64.wrap (E1+a)=E1+a:=IntWalk.i64_in _ (by omega);have hR4:=hR3.alloc HJ.out (.cells #[.int .i64 (x:Int),.int .i64 a] 151);have hbx:=Bk.new wr 151 [.int .i64 (x:Int),.int .i64 a];obtain⟨ab,hab⟩:∃ab,ab=wr.heap.size:=⟨_,rfl⟩;have HR4:=iH hR4;have HBX:=iH hbx;have HAB:=iH hab;have hwq:IntKind.i64.wrap ((q:Int)+1)=(q:Int)+1:=IntWalk.i64_in _ (by have:=HP.out.small;dsimp only at this;omega);clear hR3 hR4 hbx hab hx ha hE1 hpp hqo;have gE:(wr.alloc (.cells #[.int .i64 (x:Int),.int .i64 a] 151)).cell? ⟨W.heap.size,x,none⟩=some (.int .i64 E1):=(HR4.out.its.row.cell x).trans hcell;have fE:=HR4.out.its.row.frozen x;have lE:=HR4.out.its.row.lt;have b0:(wr.alloc (.cells #[.int .i64 (x:Int),.int .i64 a] 151)).cell? ⟨wr.heap.size,0,none⟩=some (.int .i64 (x:Int)):=HBX.out.cell 0;have b1:(wr.alloc (.cells #[.int .i64 (x:Int),.int .i64 a] 151)).cell? ⟨wr.heap.size,1,none⟩=some (.int .i64 a):=HBX.out.cell 1;have bl:=HBX.out.lt;clear HBX hcell
         gi_wp2_with fail
         rw[<- HAB.out]at b0 b1 bl;(try rw[<- HAB.out]);generalize wr.alloc (.cells #[.int .i64 (x:Int),.int .i64 a] 151)=V3 at *;clear a0 a1 hb2
         gi_region
         have HR5:=iH ((HR4.out.put HJ.out x (E1+a)).drew HJ.out);rw[HS.out]at HR5;clear gE fE lE b0 b1 bl HR4 HS
         gi_wp2_with fail
         go_roundw
         case rel=>exact⟨q+1,by omega,by go_num,HR5.out⟩
         case measure=>simp[intOf];omega
        ·obtain rfl:q=ns:=by omega
         have hTo:o.take q=o:=List.take_of_length_le (by have:=HP.out.len;dsimp only at this;omega);rw[hTo,<- rowOf_nil]at hR3;obtain⟨st,hst⟩:∃st,st=r.st:=⟨_,rfl⟩;have c6:=hR3.bx.k6;have cl6:=hR3.bx.lt;rw[<- hst]at HT c6;obtain⟨At,nt,ct⟩:=st;dsimp only at c6;have hnt:nt<=100000:=HT.out.small;have HR6:=iH hR3;clear hR3 hTo hst hqn hq HP
         gi_wp2_with fail
         clear c6 cl6
         gi_loopw [66] (fun i wr3=>∃q:Nat,q<=nt∧i=.int .i64 (q:Int)∧RnS J W wr3 W.heap.size N rb (some ⟨ob,0,none⟩) r (rowOf N o (r.take.take q)) (resTo N 0 (m.rules.take k) ++ ((outsOf r).take j).map fun o=>(k,rowOf N o r.take))) (fun i _=>nt-(intOf i).toNat)
         case atStart=>exact⟨0,Nat.zero_le _,rfl,by rw[List.take_zero];exact HR6.out⟩
         case round =>
          clear HR6;obtain⟨q,hq,rfl,hR3⟩:=hrel;by_cases hqn:q<nt
          ·have hqo:q<(r.take).length:=by have:=HT.out.len;dsimp only at this;omega
           obtain⟨b2,off2,hA2,hb2,a0,a1⟩:=(HT.out.keep (hR3.its.kp 151 (by decide) (by decide))).at_ q hqo;dsimp only at hA2;subst hA2;have hpp:=HTk.out.2 (r.take)[q] (List.getElem_mem hqo);obtain⟨x,hx⟩:∃x:Nat,(r.take)[q].1=(x:Int):=⟨(r.take)[q].1.toNat,by omega⟩;have hxN:x<N:=by omega
           have HS:Hid ((rowOf N o (r.take.take (q))).set x (effAt o (x:Int)-effAt (r.take.take (q)) (x:Int)-(r.take)[q].2)=rowOf N o (r.take.take (q+1))):=by
            show _=_;rw[List.take_succ_eq_append_getElem hqo];exact rowOf_step o (r.take.take q) r.take[q] x hxN hx
           have hbd : -140737488355328<=effAt o (x:Int)-effAt (r.take.take q) (x:Int)∧effAt o (x:Int)-effAt (r.take.take q) (x:Int)<=140737488355328:=by
            have h1:=HO.out.eff o.length (x:Int);have h2:=HTk.out.eff q (x:Int);rw[List.take_length]at h1;omega
           have hcell:(ints (rowOf N o (r.take.take (q))))[x]? = some (.int .i64 (effAt o (x:Int)-effAt (r.take.take (q)) (x:Int))):=by simp[ints,effRow,rowOf,hxN]
           rw[hx]at a0;obtain⟨a,ha⟩:∃a:Int,a=(r.take)[q].2:=⟨_,rfl⟩;rw[<- ha]at HS a1 hpp;have hpa:=hpp.2;obtain⟨E1,hE1⟩:∃E1:Int,E1=effAt o (x:Int)-effAt (r.take.take (q)) (x:Int):=⟨_,rfl⟩;rw[<- hE1]at HS hcell hbd;have hw1:IntKind.i64.wrap (E1-a)=E1-a:=IntWalk.i64_in _ (by omega);have hR4:=hR3.alloc HJ.out (.cells #[.int .i64 (x:Int),.int .i64 a] 151);have hbx:=Bk.new wr 151 [.int .i64 (x:Int),.int .i64 a];obtain⟨ab,hab⟩:∃ab,ab=wr.heap.size:=⟨_,rfl⟩;have HR4:=iH hR4;have HBX:=iH hbx;have HAB:=iH hab;have hwq:IntKind.i64.wrap ((q:Int)+1)=(q:Int)+1:=IntWalk.i64_in _ (by have:=HT.out.small;dsimp only at this;omega);clear hR3 hR4 hbx hab hx ha hE1 hpp hqo;have gE:(wr.alloc (.cells #[.int .i64 (x:Int),.int .i64 a] 151)).cell? ⟨W.heap.size,x,none⟩=some (.int .i64 E1):=(HR4.out.its.row.cell x).trans hcell;have fE:=HR4.out.its.row.frozen x;have lE:=HR4.out.its.row.lt;have b0:(wr.alloc (.cells #[.int .i64 (x:Int),.int .i64 a] 151)).cell? ⟨wr.heap.size,0,none⟩=some (.int .i64 (x:Int)):=HBX.out.cell 0;have b1:(wr.alloc (.cells #[.int .i64 (x:Int),.int .i64 a] 151)).cell? ⟨wr.heap.size,1,none⟩=some (.int .i64 a):=HBX.out.cell 1;have bl:=HBX.out.lt;clear HBX hcell
           gi_wp2_with fail
           rw[<- HAB.out]at b0 b1 bl;(try rw[<- HAB.out]);generalize wr.alloc (.cells #[.int .i64 (x:Int),.int .i64 a] 151)=V3 at *;clear a0 a1 hb2
           gi_region
           have HR5:=iH ((HR4.out.put HJ.out x (E1-a)).drew HJ.out);rw[HS.out]at HR5;clear gE fE lE b0 b1 bl HR4 HS
           gi_wp2_with fail
           go_roundw
           case rel=>exact⟨q+1,by omega,by go_num,HR5.out⟩
           case measure=>simp[intOf];omega
          ·obtain rfl:q=nt:=by omega
           have hTr:r.take.take q=r.take:=List.take_of_length_le (by have:=HT.out.len;dsimp only at this;omega);rw[hTr]at hR3;have HR7:=iH hR3;have HNx:Hid ((resTo N 0 (m.rules.take k) ++ ((outsOf r).take j).map fun o=>(k,rowOf N o r.take)) ++ [(k,rowOf N o r.take)]=resTo N 0 (m.rules.take k) ++ ((outsOf r).take (j+1)).map fun o=>(k,rowOf N o r.take)):=by
            show _=_;rw[HTj.out,List.map_append,List.append_assoc];rfl
           have hPhi:ResPhi N (resL m) W.heap.size (resTo N 0 (m.rules.take k) ++ ((outsOf r).take j).map fun o=>(k,rowOf N o r.take)) (k,rowOf N o r.take) wr:=⟨hR3.its.row,by simp,fun q=>by
            by_cases h:q<N
            ·rw[rowOf_at _ _ h]
             have h1:=HO.out.eff o.length (q:Int)
             have h2:=HTk.out.eff r.take.length (q:Int)
             rw[List.take_length]at h1 h2
             omega
            ·have:wAt (rowOf N o r.take) q=0:=by simp[wAt,rowOf,h]
             rw[this];omega,by rw[HNx.out];exact HPre.out (j+1)⟩
           obtain⟨fn,tmps,assign,body,hy,hRd⟩:=HY.out _ (k,rowOf N o r.take) wr hR3.j hPhi;have HRd:=iH hRd;clear hRd hR3 hTr hPhi
           gi_wp2
           refine⟨(fun h=>by cases h),HRd.out.mono ?_⟩;rintro e W3 (⟨rfl,hJ3,hk3⟩|⟨rfl,hJx3⟩)
           ·rw[HNx.out]at hJ3;have HR8:=iH (HR7.out.told hk3 hJ3);clear hJ3 hk3 HRd HR7 hy
            gi_wp2_with fail
            go_roundw
            case rel=>exact⟨j+1,_,by omega,by go_num,HR8.out⟩
            case measure=>simp[intOf];omega
           ·rw[HNx.out]at hJx3;have HJx:=iH hJx3;have Hp:=iH (HPre.out (j+1));clear hJx3 HRd HR7 hy
            gi_wp2
            refine bodyPost_ret (results_none rfl _ _ _) rfl ?_;exact⟨⟨_,rfl⟩,.inr ⟨_,Hp.out,HJx.out⟩⟩
      ·have hjP:j=1:=by omega
       have hTj:(outsOf r).take j=outsOf r:=List.take_of_length_le (by have:=HPl.out;omega);have HJ2:Hid (J (resTo N 0 (m.rules.take (k+1))) wr):=by
        show J _ _;have:=hR2.j;rw[hTj]at this;rw[HZ.out];exact this
       have HI2:=iH hR2.its;have hjd:decide ((j:Int)<1)=false:=by simp;omega
       clear hR2 hTj hjP HRn
       gi_wp2_with fail
       go_roundw
       case rel=>exact⟨k+1,e2,by omega,by go_num,HJ2.out,HI2.out⟩
       case measure=>simp[intOf];omega
   ·have HZ:Hid (resTo N 0 (m.rules.take (k+1))=resTo N 0 (m.rules.take k)):=by
     show _=_;rw[HRes.out,resR_spawn hsp,List.append_nil]
    have HI1:=iH (HI.out.alloc (.cells #[.string r.name,.bool r.spawn,.int .i64 r.level,.int .i64 r.time,.int .i64 r.chance,.int .i64 r.of_,.slice r.st.A r.st.n r.st.c,.slice r.sg.A r.sg.n r.sg.c,.slice r.sb.A r.sb.n r.sb.c] 149));have HJ1:=iH (HJ.out _ _ _ none Hj.out (World.grownBy_alloc wr (.cells #[.string r.name,.bool r.spawn,.int .i64 r.level,.int .i64 r.time,.int .i64 r.chance,.int .i64 r.of_,.slice r.st.A r.st.n r.st.c,.slice r.sg.A r.sg.n r.sg.c,.slice r.sb.A r.sb.n r.sb.c] 149) none) (fun r q=>by cases q));rw[hsp]at d1 HI1 HJ1;clear HRes HOk HRk hsp
    gi_wp2_with fail
    go_roundw
    case rel=>exact⟨k+1,e,by omega,by go_num,by rw[HZ.out];exact HJ1.out,HI1.out⟩
    case measure=>simp[intOf];omega
  ·have hkn:k=m.sr.n:=by omega
   have HF:Hid (J (resL m) wr):=by
    show J _ _;rw[HE0.out,<- List.take_of_length_le (i:=k) (l:=m.rules) (by have:=Hnr.out;omega)];exact hj
   clear hj hI HI0 HJ0
   gi_wp2
   go_end0
   exact⟨⟨_,rfl⟩,.inl ⟨_,rfl,HF.out⟩⟩
end
end Go.Proofs.YtiecjoijnkghbaaGreatDoor
