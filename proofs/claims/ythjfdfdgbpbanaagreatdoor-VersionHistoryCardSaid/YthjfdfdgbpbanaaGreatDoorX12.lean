/- A region that draws its order, by an invariant that each operation keeps: no branching over orders. A region that draws its order: operations that only read, then one operation of any kind for which all of them must be done, then operations that only read and wait for it. It runs as its text stands. The walk of version.New on valid catalogs. A region that draws its order: loads that hold in every world that meets a condition are taken first, and from an operation on that waits for all of them the rest is walked as it comes. Drawn regions: operations taken in one short call; runs of cells. Clone of items, copies of a catalog of items alone, rewrite of one, and version.Missing. The contract of copies.Catalog on a catalog of items alone. What version.Merge does to items, its memory; rewrite on a catalog of items alone. -/
import Derived.Test.YthjfdfdgbpbanaaGreatDoorX1
import Derived.Test.YthjfdfdgbpbanaaGreatDoorX2
import Derived.Test.YthjfdfdgbpbanaaGreatDoorX3
import Derived.RegionTactic
import Derived.StillTailTactics
import Derived.BigQuiet
import Derived.OrdersHeld
import Derived.Deep.RegionHeld3
set_option linter.unusedVariables false
set_option linter.unusedSimpArgs false
set_option maxRecDepth 100000
set_option maxHeartbeats 4000000
open Go.RowKit
namespace Go.Proofs.YthjfdfdgbpbanaaGreatDoor
def earlierB (ops:Array Oper):Bool:=(List.range ops.size).all fun i=>match ops[i]? with | some o=>o.after.all fun e=>decide (e.on<i) | none=>true
theorem earlier_spec {ops:Array Oper} (h:earlierB ops=true) {i:Nat} {o:Oper} (ho:ops[i]? = some o):∀e∈o.after,e.on<i:=by
 intro e he;have hi:i<ops.size:=(Array.getElem?_eq_some_iff.1 ho).1;have h1:=List.all_eq_true.1 h i (List.mem_range.2 hi);rw[ho]at h1;simpa using Array.all_eq_true_iff_forall_mem.1 h1 e he
def leftN (l:Array Bool):Nat:=l.toList.count false
theorem leftN_set {l:Array Bool} {i:Nat} (h:l.getD i true=false):leftN (l.setIfInBounds i true)+1=leftN l:=by
 have hi:i<l.size:=by
  rcases Nat.lt_or_ge i l.size with h1|h1
  ·exact h1
  ·simp[Array.getElem?_eq_none h1]at h
 have hf':l.toList[i]'(by simpa using hi)=false:=by simpa[hi]using h
 have hpos:0<l.toList.count false:=List.count_pos_iff.2 (by rw[<- hf'];exact List.getElem_mem _);unfold leftN;rw[Array.toList_setIfInBounds,List.count_set (by simpa using hi),hf'];have e1:(if(false == false)=true then 1 else 0)=1:=rfl;have e2:(if(true == false)=true then 1 else 0)=0:=rfl;rw[e1,e2];omega
theorem wpAny_inv {P:Program} {ops:Array Oper} {Q:Exit->Act->World->Prop} (hd:earlierB ops=true) (I:(Nat->Bool)->Act->World->Prop)
 (step:∀(i:Nat) (o:Oper) (L:Nat->Bool) (a:Act) (w:World),ops[i]? = some o->L i=false->(∀e∈o.after,Region.binds .any e=true->L e.on=true)->I L a w ->
  wpOp P ops Q i (fun a' w'=>I (fun j=>L j || j == i) a' w') a w)
 (done:∀(L:Nat->Bool) (a:Act) (w:World),(∀i,i<ops.size->L i=true)->I L a w->Q .normal a w) :
 ∀(fuel:Nat) (listed:Array Bool) (a:Act) (w:World),listed.size=ops.size->leftN listed=fuel->I (fun j=>listed.getD j false) a w->wpAny P .any ops Q fuel listed a w:=by
 have allOf : ∀ (listed : Array Bool), listed.size = ops.size -> Region.ready .any ops listed = [] -> ∀ i, i < ops.size -> listed.getD i false = true := by
  intro listed hs hr i
  induction i using Nat.strongRecOn with
  | _ i ih =>
    intro hi;cases hl:listed.getD i false with
    | true=>rfl
    | false =>
      have hm:i∈Region.ready .any ops listed:=by
       rw[mem_ready];refine⟨by simpa[hs,hi]using hl,ops[i],by simp[hi],fun e he _=>?_⟩;have:=earlier_spec hd (i:=i) (o:=ops[i]) (by simp[hi]) e he;exact ih e.on this (by omega)
      rw[hr]at hm;cases hm
 intro fuel
 induction fuel with
 | zero =>
   intro listed a w hs hl hI;have hall:∀i,i<ops.size->listed.getD i false=true:=by
    intro i hi;have h0:¬ false∈listed.toList:=by
     intro hm;have:=List.count_pos_iff.2 hm;unfold leftN at hl;omega
    have hi':i<listed.size:=by omega
    cases hx:listed[i]with
    | true=>simp[hi',hx]
    | false=>exact absurd (by rw[<- hx];exact Array.mem_toList_iff.2 (Array.getElem_mem hi')) h0
   refine⟨?_,done _ a w hall hI⟩;apply List.eq_nil_iff_forall_not_mem.2;intro i hi;obtain⟨h1,o,ho,_⟩:=mem_ready.1 hi;have hi':=(Array.getElem?_eq_some_iff.1 ho).1;have h2:=hall i hi';have hi2:i<listed.size:=by omega
   simp[hi2]at h1 h2;rw[h1]at h2;cases h2
 | succ fuel ih =>
   intro listed a w hs hl hI;refine⟨fun h0=>done _ a w (allOf listed hs h0) hI,fun i hi=>?_⟩;obtain⟨h1,o,ho,h2⟩:=mem_ready.1 hi;have hi':=(Array.getElem?_eq_some_iff.1 ho).1;have hi2:i<listed.size:=by omega
   refine wpOp_mono (fun a' w' hI'=>ih (listed.setIfInBounds i true) a' w' (by simpa using hs) (by have:=leftN_set h1;omega) ?_) (step i o (fun j=>listed.getD j false) a w ho ?_ h2 hI)
   ·have he:(fun j=>(listed.setIfInBounds i true).getD j false)=fun j=>listed.getD j false || j == i:=by
     funext j;by_cases hij:i=j
     ·subst hij;simp[hi2]
     ·rw[getD_set_ne false hij];have:(j == i)=false:=by simpa using fun e=>hij e.symm
      rw[this,Bool.or_false]
    rw[he];exact hI'
   ·simpa[hi2]using h1
theorem getD_repl (m j:Nat):(Array.replicate m false).getD j false=false:=by
 rcases Nat.lt_or_ge j m with h|h <;> simp[h]
theorem wp_region_inv {P:Program} {ops:Array Oper} {Q:Exit->Act->World->Prop} {id:Nat} {a:Act} {w:World} (hm:P.follows .mixedOrders=true) (hd:earlierB ops=true) (I:(Nat->Bool)->Act->World->Prop)
 (h0:I (fun _=>false) a w.drew)
 (step:∀(i:Nat) (o:Oper) (L:Nat->Bool) (a:Act) (w:World),ops[i]? = some o->L i=false->(∀e∈o.after,Region.binds .any e=true->L e.on=true)->I L a w ->
  wpOp P ops Q i (fun a' w'=>I (fun j=>L j || j == i) a' w') a w)
 (done:∀(L:Nat->Bool) (a:Act) (w:World),(∀i,i<ops.size->L i=true)->I L a w->Q .normal a w):(Code.region id ops true).wp P Q a w:=by
 refine wp_region_any hm (wpAny_inv hd I step done ops.size _ a _ (by simp) (by simp[leftN]) ?_);have he:(fun j=>(Array.replicate ops.size false).getD j false)=fun _=>false:=by
  funext j;exact getD_repl ops.size j
 rw[he];exact h0
section
section
variable {P : Program} {ops : Array Oper} {md : Region.Mode} {w : World}
def hindB (md:Region.Mode) (ops:Array Oper) (n:Nat):Bool :=
 (List.range ops.size).all fun t=>decide (t<=n) || (List.range t).any fun s=>decide (n<=s) && Region.waitsFor md ops t s
theorem hind_waits {n:Nat} {listed:Array Bool} (hs:Region.sinkB md ops n=true) (hc:hindB md ops n=true) (hn:n<ops.size) (inv:HeadInv md ops n listed) :
 ∀(d i:Nat),n-i=d->i<n->listed.getD i true=false->∀t,n<=t->t ∉ Region.ready md ops listed:=by
 intro d
 induction d using Nat.strongRecOn with
 | _ d ih =>
   intro i hd hi hun t ht hr;obtain⟨_,ot,hot,hall⟩:=mem_ready.1 hr;have htlt:t<ops.size:=(Array.getElem?_eq_some_iff.1 hot).1;rcases Nat.lt_or_ge n t with hlt|hge
   ·have h1:=List.all_eq_true.1 hc t (List.mem_range.2 htlt);simp only[Bool.or_eq_true,decide_eq_true_eq]at h1;rcases h1 with h1|h1
    ·omega
    ·obtain⟨s,hs1,hs2⟩:=List.any_eq_true.1 h1;simp only[Bool.and_eq_true,decide_eq_true_eq]at hs2;have hst:=List.mem_range.1 hs1;obtain⟨o',ho',e,he,hb,hon⟩:=Region.waitsFor_spec hs2.2;cases Option.some.inj (ho'.symm.trans hot);have h2:=hall e he hb;rw[hon,getD_both (inv.tail s hs2.1 (by omega))]at h2;cases h2
   ·obtain rfl:t=n:=by omega
    have h1:=List.all_eq_true.1 hs i (List.mem_range.2 hi);obtain⟨j,hj,hj2⟩:=List.any_eq_true.1 h1;simp only[Bool.and_eq_true,decide_eq_true_eq]at hj2;obtain⟨oj,hoj,e,he,hb,hon⟩:=Region.waitsFor_spec hj2.2;have hjle:j<=t:=by have:=List.mem_range.1 hj;omega
    rcases Nat.lt_or_ge j t with hjt|hjt
    ·cases hl:listed.getD j false with
     | true =>
       have h2:=inv.closed j oj hoj hl e he hb;rw[hon,getD_both hun]at h2;cases h2
     | false=>exact ih (t-j) (by omega) j rfl hjt (getD_in (by rw[inv.size];omega) hl) t (Nat.le_refl _) hr
    ·obtain rfl:j=t:=by omega
     cases Option.some.inj (hoj.symm.trans hot);have h2:=hall e he hb;rw[hon,getD_both hun]at h2;cases h2
theorem head_first {n i:Nat} {oi:Oper} {v:Value} {L:Array Bool->Act->Prop} (hi:ops[i]? = some oi) (hsel:∀(j:Nat) (o:Oper) cs b,ops[j]? = some o->o.op≠.select cs b)
 (hs:Region.sinkB md ops n=true) (hc:hindB md ops n=true) (hn:n<ops.size) (hin:i<n) (hdone:∀listed a,L listed a->∀j∈Region.ready md ops listed,n<=j) :
 ∀(f:Nat) (listed:Array Bool) (a:Act),HeadInv md ops n listed ->
  (∀j oj,ops[j]? = some oj->j≠i->listed.getD j true=false->(∀e∈oj.after,Region.binds md e=true->e.on≠i)->oi.apart ops oj=true) ->
  i∈Region.ready md ops listed->YieldsAt P ops w oi v a ->
  wpAnyL P md ops w n L f (listed.setIfInBounds i true) (a.put oi.dst v)->wpAnyL P md ops w n L (f+1) listed a:=by
 intro f
 induction f with
 | zero =>
   intro listed a inv _ hr hy H;have hun:=(mem_ready.1 hr).1;refine⟨fun h=>(by rw[h]at hr;cases hr),fun j hj=>?_⟩;have hjn:j<n:=Nat.lt_of_not_le fun h=>hind_waits hs hc hn inv _ i rfl hin hun j h hj
   refine⟨hjn,?_⟩;rcases Nat.decEq j i with hji|rfl
   ·have:=hdone _ _ H j (ready_mono hj hji);omega
   ·exact hy.stOp hi H
 | succ f ih =>
   intro listed a inv hfree hr hy H;have hun:=(mem_ready.1 hr).1;refine⟨fun h=>(by rw[h]at hr;cases hr),fun j hj=>?_⟩;have hjn:j<n:=Nat.lt_of_not_le fun h=>hind_waits hs hc hn inv _ i rfl hin hun j h hj
   refine⟨hjn,?_⟩;rcases Nat.decEq j i with hji|rfl
   ·have h1:=(H.2 j (ready_mono hj hji)).2;obtain⟨hjun,oj,hoj,hall⟩:=mem_ready.1 hj;have hnot:∀e∈oj.after,Region.binds md e=true->e.on≠i:=fun e he hb heq=>by
     have h1:=hall e he hb;rw[heq,getD_both hun]at h1;cases h1
    have h2:=stOp_put hoj (hfree j oj hoj hji hjun hnot) (fun cs b=>hsel i oi cs b hi) (fun cs b=>hsel j oj cs b hoj) hy h1;refine stOp_mono (fun a' h3=>ih (listed.setIfInBounds j true) a' (inv.set hj hjn) ?_ (ready_mono hr (Ne.symm hji)) h3.1 ?_) h2
    ·intro k ok hk hki hun2 hno;refine hfree k ok hk hki ?_ hno;rcases Nat.decEq j k with hjk|rfl
     ·rwa [getD_set_ne true hjk]at hun2
     ·exact hjun
    ·rw[Array.setIfInBounds_comm _ _ hji];exact h3.2
   ·exact hy.stOp hi H
def midTo (md:Region.Mode) (ops:Array Oper):Nat->Nat->Array Bool->Bool
 | 0,k,listed=>decide (Region.ready md ops listed=[k]) && Region.lexFrom md ops (ops.size-k-1) (k+1) (listed.setIfInBounds k true)
 | f+1,k,listed=>(Region.ready md ops listed).contains k && Region.free md ops listed k && midTo md ops f (k+1) (listed.setIfInBounds k true)
def midB (md:Region.Mode) (ops:Array Oper) (n:Nat):Bool :=
 Region.noSelect ops && decide (n<ops.size) && Region.sinkB md ops n && hindB md ops n && midTo md ops n 0 (Array.replicate ops.size false)
theorem head_lex {n:Nat} {Lq:Act->Prop} (hsel:Region.noSelect ops=true) (hs:Region.sinkB md ops n=true) (hc:hindB md ops n=true) (hn:n<ops.size) :
 ∀(l:List Oper) (k:Nat) (listed:Array Bool) (a:Act),(∀j,j<l.length->l[j]? = ops[k+j]?)->k+l.length=n->HeadInv md ops n listed ->
 midTo md ops l.length k listed=true->wpStill P ops w Lq l a ->
 wpAnyL P md ops w n (fun listed' a'=>midTo md ops 0 n listed'=true∧Lq a') l.length listed a:=by
 intro l
 induction l with
 | nil =>
   intro k listed a _ hk _ hB h;obtain rfl:k=n:=by simpa using hk
   exact⟨hB,h⟩
 | cons o l ih =>
   intro k listed a hl hk inv hB h;have h0:ops[k]? = some o:=by simpa using(hl 0 (by simp)).symm
   simp only[List.length_cons,midTo,Bool.and_eq_true]at hB;obtain⟨⟨hr,hf⟩,hB'⟩:=hB;simp only[List.length_cons]at hk;have hr':k∈Region.ready md ops listed:=by simpa using hr
   have hst:stOp P ops w k (wpStill P ops w Lq l) a:=by unfold stOp;simp only[h0];exact h
   obtain⟨v,hy,hK⟩:=yieldsAt_of_stOp h0 hst;refine head_first h0 (Region.noSelect_spec hsel) hs hc hn (by omega) (fun listed' a' hL j hj=>?_) l.length listed a inv (Region.free_spec h0 hf) hr' hy
    (ih (k+1) _ _ (fun j hj=>by have:=hl (j+1) (by simp;omega);simpa[Nat.add_assoc,Nat.add_comm 1 j]using this) (by omega) (inv.set hr' (by omega)) hB' hK)
   have h1:=hL.1;simp only[midTo,Bool.and_eq_true,decide_eq_true_eq]at h1;rw[h1.1]at hj;have:j=n:=by simpa using hj
   omega
theorem wp_then {o:Oper} {a:Act} {w:World} {K K2:Act->World->Prop} {Q:Exit->Act->World->Prop} (h:o.wp P a w K (Exit.then K2 Q)):o.wp P a w K Q:=by
 unfold Oper.wp at *;generalize(execOp a.eval o).run P w=r at *;cases r with
 | ok n w'=>cases n <;> exact h
 | halt x w'=>cases x <;> exact h
theorem wp_region_mid {id:Nat} {Q:Exit->Act->World->Prop} {a:Act} {w:World} {l:List Oper} (n:Nat) (hm:P.follows .mixedOrders=true) (hB:midB .any l.toArray n=true)
 (h:wpStill P l.toArray w.drew (fun a'=>wpList P l.toArray (Exit.then (fun a2 w2=>wpQuiet P l.toArray (fun w'=>∃m,w'=w2.drewN m) (fun a3=>∀w',(∃m,w'=w2.drewN m)->Q .normal a3 w') (l.drop (n+1)) a2) Q) ((l.drop n).take 1) a' w.drew) (l.take n) a) :
 (Code.region id l.toArray true).wp P Q a w:=by
 simp only[midB,Bool.and_eq_true,decide_eq_true_eq]at hB;obtain⟨⟨⟨⟨hsel,hn⟩,hs⟩,hc⟩,hmid⟩:=hB;have hn':n<l.length:=by simpa using hn
 have htl:(l.take n).length=n:=by simp;omega
 have inv0:HeadInv .any l.toArray n (Array.replicate l.toArray.size false) :=
  ⟨by simp,fun j oj _ hl=>(by rw[getD_replicate_false]at hl;cases hl),fun t _ ht=>getD_in (by simpa using ht) (getD_replicate_false _ _)⟩
 have H:=head_lex (md:=.any) hsel hs hc hn (l.take n) 0 _ a (fun j hj=>by
  have hj':j<n:=by rw[htl]at hj;exact hj
  simp[hj']) (by simpa using htl) inv0 (by rw[htl];exact hmid) h
 refine wp_region_any hm ?_;have h1:(l.drop n).take 1=[l[n]]:=by
  rw[List.drop_eq_getElem_cons hn'];rfl
 have key:=wpAny_of_head (Q':=Q) (g:=l.toArray.size-n) (fun listed a' hL=>by
  obtain⟨hL1,hL2⟩:=hL
  simp only[midTo,Bool.and_eq_true,decide_eq_true_eq]at hL1
  rw[h1]at hL2
  rw[show l.toArray.size-n=(l.toArray.size-n-1)+1 by omega]
  refine⟨fun h0=>(by rw[hL1.1]at h0;cases h0),fun i hi=>?_⟩
  rw[hL1.1]at hi
  obtain rfl:i=n:=by simpa using hi
  have hop:l.toArray[i]? = some l[i]:=by simp[hn']
  have hw:wpOp P l.toArray Q i (fun a2 w2=>wpQuiet P l.toArray (fun w'=>∃m,w'=w2.drewN m) (fun a3=>∀w',(∃m,w'=w2.drewN m)->Q .normal a3 w') (l.drop (i+1)) a2) a' w.drew:=by
   unfold wpOp
   simp only[hop]
   have h2:=hL2
   simp only[wpList]at h2
   split at h2
   ·rename_i hwt
    rw[if_pos hwt]
    rcases h2 with h2|⟨h2,h3⟩
    ·exact .inl (wp_then h2)
    ·exact .inr ⟨h2,h3⟩
   ·rename_i hwt
    rw[if_neg hwt]
    exact h2
  refine wpOp_mono (fun a2 w2 h2=>?_) hw
  have hdl:(l.drop (i+1)).length=l.toArray.size-i-1:=by simp;omega
  have h3:=wpAnyQ_lex (C:=fun w'=>∃m,w'=w2.drewN m) (md:=.any) (Q:=fun a3=>∀w',(∃m,w'=w2.drewN m)->Q .normal a3 w') hsel (l.drop (i+1)) (i+1) (listed.setIfInBounds i true) a2 (fun j=>by simp[List.getElem?_drop]) (by rw[hdl];exact hL1.2) h2
  rw[hdl]at h3
  exact wpAny_of_quiet (C:=fun w'=>∃m,w'=w2.drewN m) (fun _ w' hw' h=>h w' hw') _ _ _ _ ⟨0,rfl⟩ h3) _ _ _ H
 rw[htl,show n+(l.toArray.size-n)=l.toArray.size by omega]at key;exact key
end
end
theorem new_start {w W:World} {io ro to_ xo ix rx tx xx:Sl} {bo bn:Nat} {lo ln:List It} (rs:List Ren) (hlo:io.n=lo.length) (k1:Bk W w.heap.size 28 (catSL io ro to_ xo)) (k2:Bk W (w.heap.size+1) 28 (catSL ix rx tx xx)) (mo:MapI W bo io.n (idxTo lo io.n)) (mn:MapI W bn ix.n (idxTo ln ix.n)) (hb:Below w.heap.size w W) :
 NewAt w ((W.alloc (.cells (tcells (List.replicate io.n (0,0,0))).toArray 64)).alloc (.cells (bools (List.replicate io.n false)).toArray 4)) io ro to_ xo ix rx tx xx bo bn W.heap.size (W.heap.size+1) lo ln (renTo lo ln rs 0).1 (renTo lo ln rs 0).2:=by
 have hk:=k2.lt;have g1:Below W.heap.size W ((W.alloc (.cells (tcells (List.replicate io.n (0,0,0))).toArray 64)).alloc (.cells (bools (List.replicate io.n false)).toArray 4)):=((Below.refl _ _).alloc (Nat.le_refl _) _).alloc (by simp) _;have kr:=Bk.new (W.alloc (.cells (tcells (List.replicate io.n (0,0,0))).toArray 64)) 4 (bools (List.replicate io.n false));rw[World.size_alloc]at kr;simp only[renTo,<- hlo];exact⟨mo.below g1,mn.below g1,(Bk.new W 64 _).alloc _,kr,k1.below g1 k1.lt,k2.below g1 k2.lt,hb.trans (g1.mono hb.size),by omega,by omega,by omega⟩
section
section
variable {P : Program} {ops : Array Oper} {Q : Exit -> Act -> World -> Prop} {md : Region.Mode} {S : World -> Prop} {T : Nat}
def wpAnyX (P:Program) (md:Region.Mode) (ops:Array Oper) (Q:Exit->Act->World->Prop) (S:World->Prop) (T:Nat):Nat->Array Bool->Act->World->Prop
 | 0,listed,a,w=>Region.ready md ops listed=[]∧Q .normal a w
 | fuel + 1, listed, a, w =>
   (Region.ready md ops listed=[T]∧wpAny P md ops Q (fuel+1) listed a w) ∨
   ((Region.ready md ops listed = [] -> Q .normal a w) ∧
     ∀i∈Region.ready md ops listed,wpOp P ops Q i (fun a' w'=>S w'∧wpAnyX P md ops Q S T fuel (listed.setIfInBounds i true) a' w') a w)
theorem wpAny_of_X:∀(fuel:Nat) (listed:Array Bool) (a:Act) (w:World),wpAnyX P md ops Q S T fuel listed a w->wpAny P md ops Q fuel listed a w
 | 0,_,_,_,h=>h
 | fuel+1,_,_,_,.inl h=>h.2
 | fuel+1,_,_,_,.inr h=>⟨h.1,fun i hi=>wpOp_mono (fun a' w' h'=>wpAny_of_X fuel _ a' w' h'.2) (h.2 i hi)⟩
theorem wpAnyX_first {i:Nat} {oi:Oper} {v:Value} (hi:ops[i]? = some oi) (hsel:∀(j:Nat) (o:Oper) cs b,ops[j]? = some o->o.op≠.select cs b)
 (hT:Region.waitsFor md ops T i=true) (hQ:∀c a w,Q (.panic c) (a.put oi.dst v) w->Q (.panic c) a w) :
 ∀(fuel:Nat) (listed:Array Bool) (a:Act) (w:World),
  (∀j oj,ops[j]? = some oj->j≠i->listed.getD j true=false->(∀e∈oj.after,Region.binds md e=true->e.on≠i)->oi.apart ops oj=true) ->
  i∈Region.ready md ops listed->YieldsIf P ops S oi v a->S w ->
  wpAnyX P md ops Q S T fuel (listed.setIfInBounds i true) (a.put oi.dst v) w->wpAnyX P md ops Q S T (fuel+1) listed a w:=by
 intro fuel
 induction fuel with
 | zero =>
   intro listed a w _ hr hy hS H;refine .inr ⟨fun h=>(by rw[h]at hr;cases hr),fun j hj=>?_⟩;by_cases hji:j=i
   ·subst hji;exact hy.wpOp hi hS ⟨hS,H⟩
   ·have:=ready_mono hj hji;rw[H.1]at this;cases this
 | succ fuel ih =>
   intro listed a w hfree hr hy hS H;refine .inr ⟨fun h=>(by rw[h]at hr;cases hr),fun j hj=>?_⟩;by_cases hji:j=i
   ·subst hji;exact hy.wpOp hi hS ⟨hS,H⟩
   ·obtain⟨hjun,oj,hoj,hall⟩:=mem_ready.1 hj;have hnot:∀e∈oj.after,Region.binds md e=true->e.on≠i:=fun e he hb heq=>by
     have h1:=hall e he hb;have h0:=(mem_ready.1 hr).1;rw[heq]at h1;rcases Nat.lt_or_ge i listed.size with h'|h'
     ·simp[h']at h0 h1;rw[h0]at h1;cases h1
     ·simp[Array.getElem?_eq_none h']at h1
    rcases H with H|H
    ·have h1:=ready_mono hj hji;rw[H.1]at h1;obtain rfl:j=T:=by simpa using h1
     obtain⟨o',ho',e,he,hb,hon⟩:=Region.waitsFor_spec hT;cases Option.some.inj (ho'.symm.trans hoj);exact absurd hon (hnot e he hb)
    ·have h1:=H.2 j (ready_mono hj hji);have h2:=wpOp_putIf hoj (hfree j oj hoj hji hjun hnot) (fun cs b=>hsel i oi cs b hi) (fun cs b=>hsel j oj cs b hoj) hQ hy h1;have hfree':∀k ok,ops[k]? = some ok->k≠i->(listed.setIfInBounds j true).getD k true=false ->
      (∀e∈ok.after,Region.binds md e=true->e.on≠i)->oi.apart ops ok=true:=fun k ok hk hki hun hno=>by
      refine hfree k ok hk hki ?_ hno;by_cases hjk:j=k
      ·subst hjk;exact hjun
      ·rw[getD_set_ne true hjk]at hun;exact hun
     refine wpOp_mono (fun a' w' h3=>⟨h3.2.1,ih (listed.setIfInBounds j true) a' w' hfree' (ready_mono hr (Ne.symm hji)) h3.1 h3.2.1 ?_⟩) h2;rw[Array.setIfInBounds_comm _ _ hji];exact h3.2.2
theorem X_take (i:Nat) (d:Option Tmp) {oi:Oper} {v:Value} {fuel:Nat} {listed listed':Array Bool} {a:Act} {w:World} (hi:ops[i]? = some oi) (hd:oi.dst=d) (hl:listed.setIfInBounds i true=listed')
 (hB:(Region.noSelect ops && Region.free md ops listed i && (Region.ready md ops listed).contains i && Region.waitsFor md ops T i)=true)
 (hQ:∀c a w,Q (.panic c) (a.put oi.dst v) w->Q (.panic c) a w) (hy:Region.wanted oi (yielded ops a.tmps)=true∧∀w,S w->(execOp a.eval oi).run P w=.ok (.value v) w) (hS:S w)
 (h:wpAnyX P md ops Q S T fuel listed' (a.put d v) w):wpAnyX P md ops Q S T (fuel+1) listed a w:=by
 simp only[Bool.and_eq_true]at hB;subst hd hl;exact wpAnyX_first hi (Region.noSelect_spec hB.1.1.1) hB.2 hQ fuel listed a w (Region.free_spec hi hB.1.1.2) (by simpa using hB.1.2) (.inl hy) hS h
theorem X_one (i:Nat) {o:Oper} {fuel:Nat} {listed listed':Array Bool} {a:Act} {w:World} (hr:Region.ready md ops listed=[i]) (hl:listed.setIfInBounds i true=listed') (ho:ops[i]? = some o)
 (h:∀K':Act->World->Prop,(∀a w,S w->wpAnyX P md ops Q S T fuel listed' a w->K' a w)->if Region.wanted o (yielded ops a.tmps)=true then Oper.wp P o a w K' Q else K' (a.put o.dst undef) w):wpAnyX P md ops Q S T (fuel+1) listed a w:=by
 subst hl;refine .inr ⟨fun h0=>(by rw[hr]at h0;cases h0),fun j hj=>?_⟩;rw[hr]at hj;obtain rfl:j=i:=by simpa using hj
 exact wpOp_step ho fun K hK=>h K fun a w hS hX=>hK a w ⟨hS,hX⟩
theorem X_o (i:Nat){o:Oper}{fuel:Nat}{listed:Array Bool}{a:Act}{w:World}(ho:ops[i]?=some o)
 (h:∀K':Act→World→Prop,(∀a w,S w→wpAnyX P md ops Q S T fuel (listed.setIfInBounds i true) a w→K' a w)→if Region.wanted o (yielded ops a.tmps)=true then Oper.wp P o a w K' Q else K' (a.put o.dst undef) w)(hr:Region.ready md ops listed=[i]:=by kernel_rfl):wpAnyX P md ops Q S T (fuel+1) listed a w:=X_one i hr rfl ho h
theorem tX (i:Nat)(d:Option Tmp){oi:Oper}{v:Value}{fuel:Nat}{listed:Array Bool}{a:Act}{w:World}(hi:ops[i]?=some oi)
 (hy:Region.wanted oi (yielded ops a.tmps)=true∧∀w,S w→(execOp a.eval oi).run P w=.ok (.value v) w)(hS:S w)
 (h:wpAnyX P md ops Q S T fuel (listed.setIfInBounds i true) (a.put d v) w)(hd:oi.dst=d:=by rfl)(hQ:∀c a w,Q (.panic c) (a.put oi.dst v) w→Q (.panic c) a w:=by exact fun _ _ _ h=>h)(hB:(Region.noSelect ops&&Region.free md ops listed i&&(Region.ready md ops listed).contains i&&Region.waitsFor md ops T i)=true:=by kernel_rfl):wpAnyX P md ops Q S T (fuel+1) listed a w:=X_take i d hi hd rfl hB hQ hy hS h
theorem X_tail {fuel:Nat} {listed:Array Bool} {a:Act} {w:World} (hr:Region.ready md ops listed=[T]) (h:wpAny P md ops Q (fuel+1) listed a w):wpAnyX P md ops Q S T (fuel+1) listed a w:=.inl ⟨hr,h⟩
theorem A_one (i:Nat) {o:Oper} {fuel:Nat} {listed listed':Array Bool} {a:Act} {w:World} (hr:Region.ready md ops listed=[i]) (hl:listed.setIfInBounds i true=listed') (ho:ops[i]? = some o)
 (h:∀K':Act->World->Prop,(∀a w,wpAny P md ops Q fuel listed' a w->K' a w)->if Region.wanted o (yielded ops a.tmps)=true then Oper.wp P o a w K' Q else K' (a.put o.dst undef) w):wpAny P md ops Q (fuel+1) listed a w:=by
 subst hl;refine⟨fun h0=>(by rw[hr]at h0;cases h0),fun j hj=>?_⟩;rw[hr]at hj;obtain rfl:j=i:=by simpa using hj
 exact wpOp_step ho h
theorem A_done {listed:Array Bool} {a:Act} {w:World} (hr:Region.ready md ops listed=[]) (h:Q .normal a w):wpAny P md ops Q 0 listed a w:=⟨hr,h⟩
theorem wp_region_X (S:World->Prop) (T:Nat) {id n:Nat} {a:Act} {w:World} (hn:ops.size=n) (hm:P.follows .mixedOrders=true) (hS:S w.drew)
 (h:S w.drew->wpAnyX P .any ops Q S T n (Array.replicate n false) a w.drew):(Code.region id ops true).wp P Q a w:=by
 subst hn;exact wp_region_any hm (wpAny_of_X _ _ _ _ (h hS))
end
end
section
section
variable {P : Program} {ops : Array Oper} {Q : Exit -> Act -> World -> Prop} {md : Region.Mode} {S : World -> Prop} {T : Nat}
theorem wpAnyX_firstU {i:Nat} {oi:Oper} {v:Value} (hi:ops[i]? = some oi) (hsel:∀(j:Nat) (o:Oper) cs b,ops[j]? = some o->o.op≠.select cs b)
 (hT:ops[T]? = none) (hQ:∀c a w,Q (.panic c) (a.put oi.dst v) w->Q (.panic c) a w) :
 ∀(fuel:Nat) (listed:Array Bool) (a:Act) (w:World),
  (∀j oj,ops[j]? = some oj->j≠i->listed.getD j true=false->(∀e∈oj.after,Region.binds md e=true->e.on≠i)->oi.apart ops oj=true) ->
  i∈Region.ready md ops listed->YieldsIf P ops S oi v a->S w ->
  wpAnyX P md ops Q S T fuel (listed.setIfInBounds i true) (a.put oi.dst v) w->wpAnyX P md ops Q S T (fuel+1) listed a w:=by
 intro fuel
 induction fuel with
 | zero =>
   intro listed a w _ hr hy hS H;refine .inr ⟨fun h=>(by rw[h]at hr;cases hr),fun j hj=>?_⟩;by_cases hji:j=i
   ·subst hji;exact hy.wpOp hi hS ⟨hS,H⟩
   ·have:=ready_mono hj hji;rw[H.1]at this;cases this
 | succ fuel ih =>
   intro listed a w hfree hr hy hS H;refine .inr ⟨fun h=>(by rw[h]at hr;cases hr),fun j hj=>?_⟩;by_cases hji:j=i
   ·subst hji;exact hy.wpOp hi hS ⟨hS,H⟩
   ·obtain⟨hjun,oj,hoj,hall⟩:=mem_ready.1 hj;have hnot:∀e∈oj.after,Region.binds md e=true->e.on≠i:=fun e he hb heq=>by
     have h1:=hall e he hb;have h0:=(mem_ready.1 hr).1;rw[heq]at h1;rcases Nat.lt_or_ge i listed.size with h'|h'
     ·simp[h']at h0 h1;rw[h0]at h1;cases h1
     ·simp[Array.getElem?_eq_none h']at h1
    rcases H with H|H
    ·have h1:=ready_mono hj hji;rw[H.1]at h1;obtain rfl:j=T:=by simpa using h1
     rw[hT]at hoj;cases hoj
    ·have h1:=H.2 j (ready_mono hj hji);have h2:=wpOp_putIf hoj (hfree j oj hoj hji hjun hnot) (fun cs b=>hsel i oi cs b hi) (fun cs b=>hsel j oj cs b hoj) hQ hy h1;have hfree':∀k ok,ops[k]? = some ok->k≠i->(listed.setIfInBounds j true).getD k true=false ->
      (∀e∈ok.after,Region.binds md e=true->e.on≠i)->oi.apart ops ok=true:=fun k ok hk hki hun hno=>by
      refine hfree k ok hk hki ?_ hno;by_cases hjk:j=k
      ·subst hjk;exact hjun
      ·rw[getD_set_ne true hjk]at hun;exact hun
     refine wpOp_mono (fun a' w' h3=>⟨h3.2.1,ih (listed.setIfInBounds j true) a' w' hfree' (ready_mono hr (Ne.symm hji)) h3.1 h3.2.1 ?_⟩) h2;rw[Array.setIfInBounds_comm _ _ hji];exact h3.2.2
theorem X_takeU (i:Nat) (d:Option Tmp) {oi:Oper} {v:Value} {fuel:Nat} {listed listed':Array Bool} {a:Act} {w:World} (hi:ops[i]? = some oi) (hd:oi.dst=d) (hl:listed.setIfInBounds i true=listed')
 (hB:(Region.noSelect ops && Region.free md ops listed i && (Region.ready md ops listed).contains i)=true) (hT:ops[T]? = none)
 (hQ:∀c a w,Q (.panic c) (a.put oi.dst v) w->Q (.panic c) a w) (hy:Region.wanted oi (yielded ops a.tmps)=true∧∀w,S w->(execOp a.eval oi).run P w=.ok (.value v) w) (hS:S w)
 (h:wpAnyX P md ops Q S T fuel listed' (a.put d v) w):wpAnyX P md ops Q S T (fuel+1) listed a w:=by
 simp only[Bool.and_eq_true]at hB;subst hd hl;exact wpAnyX_firstU hi (Region.noSelect_spec hB.1.1) hT hQ fuel listed a w (Region.free_spec hi hB.1.2) (by simpa using hB.2) (.inl hy) hS h
theorem tU (i:Nat)(d:Option Tmp){oi:Oper}{v:Value}{fuel:Nat}{listed:Array Bool}{a:Act}{w:World}(hi:ops[i]?=some oi)
 (hy:Region.wanted oi (yielded ops a.tmps)=true∧∀w,S w→(execOp a.eval oi).run P w=.ok (.value v) w)(hS:S w)
 (h:wpAnyX P md ops Q S T fuel (listed.setIfInBounds i true) (a.put d v) w)(hd:oi.dst=d:=by rfl)(hT:ops[T]?=none:=by rfl)(hQ:∀c a w,Q (.panic c) (a.put oi.dst v) w→Q (.panic c) a w:=by exact fun _ _ _ h=>h)(hB:(Region.noSelect ops&&Region.free md ops listed i&&(Region.ready md ops listed).contains i)=true:=by kernel_rfl):wpAnyX P md ops Q S T (fuel+1) listed a w:=X_takeU i d hi hd rfl hB hT hQ hy hS h
theorem X_done {listed:Array Bool} {a:Act} {w:World} (hr:Region.ready md ops listed=[]) (h:Q .normal a w):wpAnyX P md ops Q S T 0 listed a w:=⟨hr,h⟩
theorem X_skipU (i:Nat) (d:Option Tmp) {oi:Oper} {fuel:Nat} {listed listed':Array Bool} {a:Act} {w:World} (hi:ops[i]? = some oi) (hd:oi.dst=d) (hl:listed.setIfInBounds i true=listed')
 (hB:(Region.noSelect ops && Region.free md ops listed i && (Region.ready md ops listed).contains i)=true) (hT:ops[T]? = none)
 (hQ:∀c a w,Q (.panic c) (a.put oi.dst undef) w->Q (.panic c) a w) (hw:Region.wanted oi (yielded ops a.tmps)=false) (hS:S w)
 (h:wpAnyX P md ops Q S T fuel listed' (a.put d undef) w):wpAnyX P md ops Q S T (fuel+1) listed a w:=by
  simp only[Bool.and_eq_true]at hB;subst hd hl;exact wpAnyX_firstU hi (Region.noSelect_spec hB.1.1) hT hQ fuel listed a w (Region.free_spec hi hB.1.2) (by simpa using hB.2) (.inr ⟨hw,rfl⟩) hS h
theorem uS (i d:Nat) {oi:Oper} {v:Value} {fuel:Nat} {listed:Array Bool} {a a':Act} {w:World} (hS:S w) (h:wpAnyX P md ops Q S T fuel (listed.setIfInBounds i true) a' w) (hi:ops[i]? = some oi:=by rfl)
  (hw:Region.wanted oi (yielded ops a.tmps)=true:=by rfl) (hy:∀w,S w->(execOp a.eval oi).run P w=.ok (.value v) w:=by(intro w' hS';(go_simp;try with_reducible rfl))) (ha:a.put (some d) v=a':=by(simp only[Act.put,Pa,Pb,Pc];rfl)) (hd:oi.dst=some d:=by rfl) (hT:ops[T]? = none:=by rfl) (hQ:∀c a w,Q (.panic c) (a.put oi.dst v) w->Q (.panic c) a w:=by exact fun _ _ _ h=>h) (hB:(Region.noSelect ops && Region.free md ops listed i && (Region.ready md ops listed).contains i)=true:=by kernel_rfl):wpAnyX P md ops Q S T (fuel+1) listed a w:=X_takeU i (some d) hi hd rfl hB hT hQ ⟨hw,hy⟩ hS (ha ▸ h)
theorem xS (i d:Nat) {oi:Oper} {v:Value} {fuel:Nat} {listed:Array Bool} {a a':Act} {w:World} (hS:S w) (h:wpAnyX P md ops Q S T fuel (listed.setIfInBounds i true) a' w) (hi:ops[i]? = some oi:=by rfl)
  (hw:Region.wanted oi (yielded ops a.tmps)=true:=by rfl) (hy:∀w,S w->(execOp a.eval oi).run P w=.ok (.value v) w:=by(intro w' hS';(go_simp;try with_reducible rfl))) (ha:a.put (some d) v=a':=by(simp only[Act.put,Pa,Pb,Pc];rfl)) (hd:oi.dst=some d:=by rfl) (hQ:∀c a w,Q (.panic c) (a.put oi.dst v) w->Q (.panic c) a w:=by exact fun _ _ _ h=>h) (hB:(Region.noSelect ops && Region.free md ops listed i && (Region.ready md ops listed).contains i && Region.waitsFor md ops T i)=true:=by kernel_rfl):wpAnyX P md ops Q S T (fuel+1) listed a w:=X_take i (some d) hi hd rfl hB hQ ⟨hw,hy⟩ hS (ha ▸ h)
theorem sS (i d:Nat) {oi:Oper} {fuel:Nat} {listed:Array Bool} {a a':Act} {w:World} (hS:S w) (h:wpAnyX P md ops Q S T fuel (listed.setIfInBounds i true) a' w) (hi:ops[i]? = some oi:=by rfl) (hw:Region.wanted oi (yielded ops a.tmps)=false:=by rfl) (ha:a.put (some d) undef=a':=by(simp only[Act.put,Pa,Pb,Pc];rfl)) (hd:oi.dst=some d:=by rfl) (hT:ops[T]? = none:=by rfl) (hQ:∀c a w,Q (.panic c) (a.put oi.dst undef) w->Q (.panic c) a w:=by exact fun _ _ _ h=>h) (hB:(Region.noSelect ops && Region.free md ops listed i && (Region.ready md ops listed).contains i)=true:=by kernel_rfl):wpAnyX P md ops Q S T (fuel+1) listed a w:=X_skipU i (some d) hi hd rfl hB hT hQ hw hS (ha ▸ h)
theorem X_oR (i:Nat) {o:Oper} {fuel:Nat} {listed:Array Bool} {a:Act} {w:World} (ho:ops[i]? = some o)
  (h:∀K':Act->World->Prop,(∀a w,S w->wpAnyX P md ops Q S T fuel (listed.setIfInBounds i true) a w->K' a w)->if Region.wanted o (yielded ops a.tmps)=true then Oper.wp P o a w K' Q else K' (a.put o.dst undef) w) (hr:Region.ready md ops listed=[i]:=by kernel_rfl):wpAnyX P md ops Q S T (fuel+1) listed a w:=X_one i hr rfl ho h
end
theorem Bk.p1 {w:World} {g:Nat} {t:TypeId} {x0:Value} {xs:List Value} (h:Bk w g t (x0 :: xs)):w.cell? ⟨g,0,none⟩=some x0∧g<w.heap.size:=⟨h.cell 0,h.lt⟩
theorem Bk.p2 {w:World} {g:Nat} {t:TypeId} {x0 x1:Value} {xs:List Value} (h:Bk w g t (x0 :: x1 :: xs)):w.cell? ⟨g,0,none⟩=some x0∧w.cell? ⟨g,1,none⟩=some x1∧g<w.heap.size:=⟨h.cell 0,h.cell 1,h.lt⟩
theorem Bk.p3 {w:World} {g:Nat} {t:TypeId} {x0 x1 x2:Value} {xs:List Value} (h:Bk w g t (x0 :: x1 :: x2 :: xs)):w.cell? ⟨g,0,none⟩=some x0∧w.cell? ⟨g,1,none⟩=some x1∧w.cell? ⟨g,2,none⟩=some x2∧g<w.heap.size:=⟨h.cell 0,h.cell 1,h.cell 2,h.lt⟩
theorem Bk.p4 {w:World} {g:Nat} {t:TypeId} {x0 x1 x2 x3:Value} {xs:List Value} (h:Bk w g t (x0 :: x1 :: x2 :: x3 :: xs)):w.cell? ⟨g,0,none⟩=some x0∧w.cell? ⟨g,1,none⟩=some x1∧w.cell? ⟨g,2,none⟩=some x2∧w.cell? ⟨g,3,none⟩=some x3∧g<w.heap.size:=⟨h.cell 0,h.cell 1,h.cell 2,h.cell 3,h.lt⟩
theorem Bk.p5 {w:World} {g:Nat} {t:TypeId} {x0 x1 x2 x3 x4:Value} {xs:List Value} (h:Bk w g t (x0 :: x1 :: x2 :: x3 :: x4 :: xs)):w.cell? ⟨g,0,none⟩=some x0∧w.cell? ⟨g,1,none⟩=some x1∧w.cell? ⟨g,2,none⟩=some x2∧w.cell? ⟨g,3,none⟩=some x3∧w.cell? ⟨g,4,none⟩=some x4∧g<w.heap.size:=⟨h.cell 0,h.cell 1,h.cell 2,h.cell 3,h.cell 4,h.lt⟩
theorem Bk.p6 {w:World} {g:Nat} {t:TypeId} {x0 x1 x2 x3 x4 x5:Value} {xs:List Value} (h:Bk w g t (x0 :: x1 :: x2 :: x3 :: x4 :: x5 :: xs)):w.cell? ⟨g,0,none⟩=some x0∧w.cell? ⟨g,1,none⟩=some x1∧w.cell? ⟨g,2,none⟩=some x2∧w.cell? ⟨g,3,none⟩=some x3∧w.cell? ⟨g,4,none⟩=some x4∧w.cell? ⟨g,5,none⟩=some x5∧g<w.heap.size:=⟨h.cell 0,h.cell 1,h.cell 2,h.cell 3,h.cell 4,h.cell 5,h.lt⟩
theorem Bk.p7 {w:World} {g:Nat} {t:TypeId} {x0 x1 x2 x3 x4 x5 x6:Value} {xs:List Value} (h:Bk w g t (x0 :: x1 :: x2 :: x3 :: x4 :: x5 :: x6 :: xs)):w.cell? ⟨g,0,none⟩=some x0∧w.cell? ⟨g,1,none⟩=some x1∧w.cell? ⟨g,2,none⟩=some x2∧w.cell? ⟨g,3,none⟩=some x3∧w.cell? ⟨g,4,none⟩=some x4∧w.cell? ⟨g,5,none⟩=some x5∧w.cell? ⟨g,6,none⟩=some x6∧g<w.heap.size:=⟨h.cell 0,h.cell 1,h.cell 2,h.cell 3,h.cell 4,h.cell 5,h.cell 6,h.lt⟩
theorem Bk.p8 {w:World} {g:Nat} {t:TypeId} {x0 x1 x2 x3 x4 x5 x6 x7:Value} {xs:List Value} (h:Bk w g t (x0 :: x1 :: x2 :: x3 :: x4 :: x5 :: x6 :: x7 :: xs)):w.cell? ⟨g,0,none⟩=some x0∧w.cell? ⟨g,1,none⟩=some x1∧w.cell? ⟨g,2,none⟩=some x2∧w.cell? ⟨g,3,none⟩=some x3∧w.cell? ⟨g,4,none⟩=some x4∧w.cell? ⟨g,5,none⟩=some x5∧w.cell? ⟨g,6,none⟩=some x6∧w.cell? ⟨g,7,none⟩=some x7∧g<w.heap.size:=⟨h.cell 0,h.cell 1,h.cell 2,h.cell 3,h.cell 4,h.cell 5,h.cell 6,h.cell 7,h.lt⟩
theorem Bk.p9 {w:World} {g:Nat} {t:TypeId} {x0 x1 x2 x3 x4 x5 x6 x7 x8:Value} {xs:List Value} (h:Bk w g t (x0 :: x1 :: x2 :: x3 :: x4 :: x5 :: x6 :: x7 :: x8 :: xs)):w.cell? ⟨g,0,none⟩=some x0∧w.cell? ⟨g,1,none⟩=some x1∧w.cell? ⟨g,2,none⟩=some x2∧w.cell? ⟨g,3,none⟩=some x3∧w.cell? ⟨g,4,none⟩=some x4∧w.cell? ⟨g,5,none⟩=some x5∧w.cell? ⟨g,6,none⟩=some x6∧w.cell? ⟨g,7,none⟩=some x7∧w.cell? ⟨g,8,none⟩=some x8∧g<w.heap.size:=⟨h.cell 0,h.cell 1,h.cell 2,h.cell 3,h.cell 4,h.cell 5,h.cell 6,h.cell 7,h.cell 8,h.lt⟩
end
theorem info89:(Tryz.prog.info? 89).map (fun i=>(i.zero,i.size,i.bytes))=some (some (.agg #[.string ⟨#[]⟩,.bool false,.bool false,.bool false,.int .i64 0,.int .i64 0,.int .i64 0]),7,48):=by kernel_rfl
theorem icells_one (l:List It):∀u∈icells l,u.oneCell'=true:=by
 intro u hu;simp only[icells,List.mem_flatMap,List.mem_cons,List.not_mem_nil,or_false]at hu;obtain⟨t,_,h|h|h|h|h|h|h⟩:=hu <;> (subst h;rfl)
theorem clone_items {w:World} {a:Addr} {n c:Nat} {l:List It} (h:ItemsV w (some a) n l) (hn:n<=1000000) :
 Calls Tryz.prog 50 #[.slice (some a) n c] w (RowPost w 89 7 n (icells l)):=by
 obtain⟨i0,hi,hz0,hz1,hz2⟩:=info_parts info89;have hnil:∀W:World,(binOp .eql 23 (.slice (some a) n c) (.slice none 0 0)).run Tryz.prog W=.ok (.bool false) W:=fun W=>by kernel_rfl
 have hown:(w.alloc (.cells #[] 89)).ownsRow w.heap.size 89 7 (.slice (some ⟨w.heap.size,0,none⟩) 0 0) 0 [] :=
  ⟨rfl,.inr ⟨w.heap.size,0,_,rfl,Nat.le_refl _,heap_alloc_new w _,by omega,by unfold maxLen;omega,rfl,rfl⟩⟩
 have HO:=iH hown;have hlen:(icells l).length=n*7:=by rw[icells_length];have:=h.len;omega
 have HL:=iH hlen;have hcells:∀j u,(icells l)[j]? = some u->(w.alloc (.cells #[] 89)).cell? (a.add j)=some u:=by
  intro j u hj;have hjl:=(List.getElem?_eq_some_iff.1 hj).1;obtain⟨b,off,e,hb,hc⟩:=h.row.at_ j hjl;cases e;have e1:(⟨b,off,none⟩:Addr).add j=⟨b,off+j,none⟩:=by
   unfold Addr.add;split
   ·subst_vars;rfl
   ·rfl
  rw[e1,World.cell?_alloc_past _ _ _ hb];exact hc j u hj
 have HC:=iH hcells;clear hown hlen hcells h;go_enter Tryz.func50,Tryz.ntmps50;go_wp2_with(at_builtin;refine wpList_append_own_at _ rfl _ _ 23 rfl w.heap.size 89 i0 (.agg #[.string ⟨#[]⟩,.bool false,.bool false,.bool false,.int .i64 0,.int .i64 0,.int .i64 0]) 7 48 Tryz.underlying23 hi hz0 hz1 hz2 rfl (by decide) _ 0 [] rfl HO.out a n c (icells l) rfl HL.out HC.out (icells_one l) ?c3a ?c4a ?c5a ?_)
 case c3a=>unfold maxLen;omega
 case c4a=>omega
 case c5a=>simp
 intro v' w1 hown' hgrow _ _;have HO':=iH hown';have hb1:Below w.heap.size w w1:=((Below.refl _ w).alloc (Nat.le_refl _) _).grown hgrow (by simp) (fun k e=>by cases e;exact Nat.le_refl _);clear hown' hgrow;go_wp2;go_ret;exact⟨_,rfl,by simpa using HO'.out,hb1⟩
theorem each_nil105 (fv:Value) (w:World):Calls Tryz.prog 105 #[.slice none 0 0,fv] w fun e w'=>e=.returned (.slice none 0 0)∧w=w':=by
 go_enter Tryz.func105,Tryz.ntmps105;go_wp2;go_ret;exact⟨rfl,rfl⟩
theorem each_nil107 (fv:Value) (w:World):Calls Tryz.prog 107 #[.slice none 0 0,fv] w fun e w'=>e=.returned (.slice none 0 0)∧w=w':=by
 go_enter Tryz.func107,Tryz.ntmps107;go_wp2;go_ret;exact⟨rfl,rfl⟩
theorem each_nil109 (fv:Value) (w:World):Calls Tryz.prog 109 #[.slice none 0 0,fv] w fun e w'=>e=.returned (.slice none 0 0)∧w=w':=by
 go_enter Tryz.func109,Tryz.ntmps109;go_wp2;go_ret;exact⟨rfl,rfl⟩
def CatPost (w:World) (n:Nat) (l:List It) (e:Ending) (w':World):Prop :=
 ∃v,e=.returned (.agg #[v,.slice none 0 0,.slice none 0 0,.slice none 0 0])∧w'.ownsRow w.heap.size 89 7 v n (icells l)∧Below w.heap.size w w'
theorem copies_end {w wA:World} {n:Nat} {l:List It} {o1 o2:Obj} {v u0 u1 u2 u3:Value} {A:Option Addr} {c:Nat} (hv:v=.slice A n c) (ho:wA.ownsRow (w.heap.size+2) 89 7 v n (icells l)) (hb:Below (w.heap.size+2) ((w.alloc o1).alloc o2) wA) :
 CatPost w n l (.returned (.agg #[.slice A n c,.slice none 0 0,.slice none 0 0,.slice none 0 0])) ((((wA.setCell ⟨w.heap.size+1,0,none⟩ u0).setCell ⟨w.heap.size+1,1,none⟩ u1).setCell ⟨w.heap.size+1,2,none⟩ u2).setCell ⟨w.heap.size+1,3,none⟩ u3):=by
 subst hv;have hx:∀(X:World) (j:Nat) (u:Value),X.ownsRow (w.heap.size+2) 89 7 (.slice A n c) n (icells l)->(X.setCell ⟨w.heap.size+1,j,none⟩ u).ownsRow (w.heap.size+2) 89 7 (.slice A n c) n (icells l):=fun X j u h =>
  h.kept (grown_setCell X _ j u) (.inr (ne_row h (by omega)))
 have h4:=hx _ 3 u3 (hx _ 2 u2 (hx _ 1 u1 (hx _ 0 u0 ho)));refine⟨_,rfl,⟨h4.1,h4.2.imp id fun⟨g,cap,cur,h1,h2,h3⟩=>⟨g,cap,cur,h1,by omega,h3⟩⟩,?_⟩;have b0:Below w.heap.size w wA:=(((Below.refl _ w).alloc (Nat.le_refl _) o1).alloc (by simp) o2).trans (hb.mono (by omega));exact(((b0.setCell (p:=⟨w.heap.size+1,0,none⟩) (by simp) _).setCell (p:=⟨w.heap.size+1,1,none⟩) (by simp) _).setCell (p:=⟨w.heap.size+1,2,none⟩) (by simp) _).setCell (p:=⟨w.heap.size+1,3,none⟩) (by simp) _
theorem cell_far4 (U:World) (g j:Nat) (u0 u1 u2 u3:Value):((((U.setCell ⟨g+1,0,none⟩ u0).setCell ⟨g+1,1,none⟩ u1).setCell ⟨g+1,2,none⟩ u2).setCell ⟨g+1,3,none⟩ u3).cell? ⟨g,j,none⟩=U.cell? ⟨g,j,none⟩ :=
 World.cell?_of_block (by rw[Below.heap_setCell _ _ _ _ (by simp),Below.heap_setCell _ _ _ _ (by simp),Below.heap_setCell _ _ _ _ (by simp),Below.heap_setCell _ _ _ _ (by simp)])
theorem copies_items {w:World} {a:Addr} {n:Nat} (c:Nat) {l:List It} (h:ItemsV w (some a) n l):Calls Tryz.prog 81 #[catV (some a) n c] w (CatPost w n l):=by
 have hb0:Below w.heap.size w ((w.alloc (catO (some a) n c)).alloc (.cells #[.slice none 0 0,.slice none 0 0,.slice none 0 0,.slice none 0 0] 28)):=((Below.refl _ _).alloc (Nat.le_refl _) _).alloc (by simp) _;have HC:Hid (∀W:World,Below ((w.alloc (catO (some a) n c)).alloc (.cells #[.slice none 0 0,.slice none 0 0,.slice none 0 0,.slice none 0 0] 28)).heap.size ((w.alloc (catO (some a) n c)).alloc (.cells #[.slice none 0 0,.slice none 0 0,.slice none 0 0,.slice none 0 0] 28)) W->Calls Tryz.prog 50 #[.slice (some a) n c] W (RowPost W 89 7 n (icells l))) :=
  fun W hW=>clone_items ((h.below hb0).below hW) h.small
 have k1:=(Bk.new w 28 (catL (some a) n c)).alloc (.cells #[.slice none 0 0,.slice none 0 0,.slice none 0 0,.slice none 0 0] 28);have k2:=Bk.new (w.alloc (catO (some a) n c)) 28 [.slice none 0 0,.slice none 0 0,.slice none 0 0,.slice none 0 0];rw[World.size_alloc]at k2;have HS:Hid (∀U:World,Below ((w.alloc (catO (some a) n c)).alloc (.cells #[.slice none 0 0,.slice none 0 0,.slice none 0 0,.slice none 0 0] 28)).heap.size ((w.alloc (catO (some a) n c)).alloc (.cells #[.slice none 0 0,.slice none 0 0,.slice none 0 0,.slice none 0 0] 28)) U ->
  U.cell? ⟨w.heap.size,0,none⟩=some (.slice (some a) n c)∧U.cell? ⟨w.heap.size,1,none⟩=some (.slice none 0 0)∧U.cell? ⟨w.heap.size,2,none⟩=some (.slice none 0 0)∧U.cell? ⟨w.heap.size,3,none⟩=some (.slice none 0 0)):=fun U hU=>by
  have e:=k1.below hU (by simp;omega);exact⟨e.cell 0,e.cell 1,e.cell 2,e.cell 3⟩
 have HK2:=iH k2;clear h k1 k2 hb0;go_enter Tryz.func81,Tryz.ntmps81;go_wp2_with fail;generalize hW:(w.alloc (catO (some a) n c)).alloc (.cells #[.slice none 0 0,.slice none 0 0,.slice none 0 0,.slice none 0 0] 28)=W at *;have hWs:W.heap.size=w.heap.size+2:=by rw[<- hW];simp
 have HWs:=iH hWs;have HW:=iH hW;clear hWs hW
 go_region_held3 (fun U=>U.cell? ⟨w.heap.size,0,none⟩=some (.slice (some a) n c)∧U.cell? ⟨w.heap.size,1,none⟩=some (.slice none 0 0)∧U.cell? ⟨w.heap.size,2,none⟩=some (.slice none 0 0)∧U.cell? ⟨w.heap.size,3,none⟩=some (.slice none 0 0)) (first | exact HS.out _ (Below.refl _ W).drew | exact HS.out _ BA | (rw[cell_far4,cell_far4,cell_far4,cell_far4];exact HS.out _ BA))
  (first
   | (go_at_call 50;(with_reducible refine(HC.out _ (Below.refl _ W).drew).mono ?_);rintro e wA ⟨v,rfl,hoA,hbA⟩;obtain⟨Av,cv,rfl,_,_,_⟩:=row_form hoA;have BA:Below W.heap.size W wA:=(Below.refl W.heap.size W).drew.trans hbA;have KA:=HK2.out.below BA HK2.out.lt;have z0:=KA.cell 0;have z1:=KA.cell 1;have z2:=KA.cell 2;have z3:=KA.cell 3;have f0:=KA.frozen 0;have f1:=KA.frozen 1;have f2:=KA.frozen 2;have f3:=KA.frozen 3;have zl:=KA.lt;have HO:=iH hoA;have HBA:=iH BA;clear hoA hbA KA)
   | (go_at_call 105;(with_reducible refine(each_nil105 _ _).mono ?_);rintro e w' ⟨rfl,rfl⟩)
   | (go_at_call 107;(with_reducible refine(each_nil107 _ _).mono ?_);rintro e w' ⟨rfl,rfl⟩)
   | (go_at_call 109;(with_reducible refine(each_nil109 _ _).mono ?_);rintro e w' ⟨rfl,rfl⟩))
 all_goals go_wp2_with fail
 all_goals
  have k9:=(((((HK2.out.below HBA.out HK2.out.lt).set 0 (.slice Av n cv)).set 1 (.slice none 0 0)).set 2 (.slice none 0 0)).set 3 (.slice none 0 0));have r0:=k9.cell 0;have r1:=k9.cell 1;have r2:=k9.cell 2;have r3:=k9.cell 3;have hB:=HBA.out;rw[HWs.out,<- HW.out]at hB;have hO:=HO.out;rw[show W.drew.heap.size=w.heap.size+2 from HWs.out]at hO;exact bodyPost_ret (v:=.agg #[.slice Av n cv,.slice none 0 0,.slice none 0 0,.slice none 0 0]) (by simp[results,Tryz.results81,go_sem,r0,r1,r2,r3]) rfl (copies_end rfl hO hB)
theorem rewrite_items {w:World} {a:Addr} {n:Nat} (c:Nat) {l:List It} (h:ItemsV w (some a) n l) (Ai:Option Addr) (ni ci F:Nat) (p:Value) :
 Calls Tryz.prog 51 #[catV (some a) n c,.slice Ai ni ci,.func (.func F) #[] #[p]] w fun e w'=>e=.returned (.agg #[.slice Ai ni ci,.slice none 0 0,.slice none 0 0,.slice none 0 0])∧Below w.heap.size w w':=by
 have hb0:Below w.heap.size w (((w.alloc (catO (some a) n c)).alloc (.cells #[.func (.func F) #[] #[p]] 100)).alloc (.cells #[.slice none 0 0,.slice none 0 0,.slice none 0 0,.slice none 0 0] 28)):=(((Below.refl _ _).alloc (Nat.le_refl _) _).alloc (by simp) _).alloc (by simp;omega) _;have KC:=iH (copies_items c (h.below hb0));have k2:=Bk.new ((w.alloc (catO (some a) n c)).alloc (.cells #[.func (.func F) #[] #[p]] 100)) 28 [.slice none 0 0,.slice none 0 0,.slice none 0 0,.slice none 0 0];rw[World.size_alloc,World.size_alloc]at k2;have HK2:=iH k2;clear h k2;go_enter Tryz.func51,Tryz.ntmps51;go_wp2_with fail;refine KC.out.mono ?_;rintro e w1 ⟨v,rfl,ho,hb1⟩;obtain⟨Av,cv,rfl,_,_,_⟩:=row_form ho;have G1:Below w.heap.size w w1:=hb0.trans (hb1.mono (by simp;omega));have k3:=HK2.out.below hb1 (by simp);have z0:=k3.k0;have z1:=k3.k1;have z2:=k3.k2;have z3:=k3.k3;have f0:w1.frozen? ⟨w.heap.size+1+1,0,none⟩=false:=k3.frozen 0;have f1:w1.frozen? ⟨w.heap.size+1+1,1,none⟩=false:=k3.frozen 1;have f2:w1.frozen? ⟨w.heap.size+1+1,2,none⟩=false:=k3.frozen 2;have f3:w1.frozen? ⟨w.heap.size+1+1,3,none⟩=false:=k3.frozen 3;have zl:w.heap.size+1+1<w1.heap.size:=k3.lt;have hne:w.heap.size+1+1≠w1.heap.size:=by omega
 have HK3:=iH k3;clear ho hb1 hb0 KC HK2 k3;go_wp2_with fail;refine wp_loop_rounds 1 ?_;rw[rounds_succ];go_wp2_with fail;refine wp_loop_rounds 1 ?_;rw[rounds_succ];go_wp2_with fail;have k9:=((((HK3.out.set 0 (.slice Ai ni ci)).set 1 (.slice none 0 0)).set 2 (.slice none 0 0)).set 3 (.slice none 0 0)).alloc (.cells #[.slice Ai ni ci,.slice none 0 0,.slice none 0 0,.slice none 0 0] 28);have r0:=k9.cell 0;have r1:=k9.cell 1;have r2:=k9.cell 2;have r3:=k9.cell 3;refine bodyPost_ret (v:=.agg #[.slice Ai ni ci,.slice none 0 0,.slice none 0 0,.slice none 0 0]) (by simp[results,Tryz.results51,go_sem,r0,r1,r2,r3]) rfl ⟨rfl,?_⟩;refine((((G1.setCell (p:=⟨w.heap.size+1+1,0,none⟩) (by simp;omega) _).setCell (p:=⟨w.heap.size+1+1,1,none⟩) (by simp;omega) _).setCell (p:=⟨w.heap.size+1+1,2,none⟩) (by simp;omega) _).setCell (p:=⟨w.heap.size+1+1,3,none⟩) (by simp;omega) _).alloc ?_ _;have:=G1.size;simpa[World.setCell]using this
def mergeIt (ln:List It) (t:It):It:=match idxTo ln ln.length t.name with | some b=>itAt ln b | none=>t
def mergeTo (lo ln:List It) (k:Nat):List It:=(List.range lo.length).map fun i=>if i<k then mergeIt ln (itAt lo i) else itAt lo i
@[simp] theorem mergeTo_length (lo ln : List It) (k : Nat) : (mergeTo lo ln k).length = lo.length := by simp [mergeTo]
theorem itAt_merge (lo ln:List It) (k i:Nat) (hi:i<lo.length):itAt (mergeTo lo ln k) i=if i<k then mergeIt ln (itAt lo i) else itAt lo i:=by simp[itAt,mergeTo,hi]
theorem it_ext {l m:List It} (hl:l.length=m.length) (h:∀i,i<l.length->itAt l i=itAt m i):l=m:=by
 apply List.ext_getElem?;intro i;by_cases hi:i<l.length
 ·have:=h i hi;simp only[itAt,List.getElem?_eq_getElem hi,List.getElem?_eq_getElem (show i<m.length by omega),Option.getD_some]at this;rw[List.getElem?_eq_getElem hi,List.getElem?_eq_getElem (by omega),this]
 ·rw[List.getElem?_eq_none (by omega),List.getElem?_eq_none (by omega)]
theorem mergeTo_zero (lo ln:List It):mergeTo lo ln 0=lo:=it_ext (by simp) fun i hi=>by rw[itAt_merge _ _ _ _ (by simpa using hi),if_neg (by omega)]
theorem itAt_set (l:List It) (k i:Nat) (t:It) (hk:k<l.length):itAt (l.set k t) i=if i=k then t else itAt l i:=by
 by_cases e:i=k
 ·subst e;simp[itAt,hk]
 ·rw[if_neg e];simp only[itAt];rw[List.getElem?_set_ne (fun h=>e h.symm)]
theorem mergeTo_set (lo ln:List It) (k:Nat) (hk:k<lo.length):(mergeTo lo ln k).set k (mergeIt ln (itAt lo k))=mergeTo lo ln (k+1):=by
 refine it_ext (by simp) fun i hi=>?_
 have hi':i<lo.length:=by simpa using hi
 rw[itAt_set _ _ _ _ (by simpa using hk),itAt_merge _ _ _ _ hi',itAt_merge _ _ _ _ hi'];by_cases e:i=k
 ·subst e;rw[if_pos rfl,if_pos (by omega)]
 ·rw[if_neg e];by_cases h2:i<k
  ·rw[if_pos h2,if_pos (by omega)]
  ·rw[if_neg h2,if_neg (by omega)]
theorem mergeTo_skip (lo ln:List It) (k:Nat) (hk:k<lo.length) (h:mergeIt ln (itAt lo k)=itAt lo k):mergeTo lo ln k=mergeTo lo ln (k+1):=by
 refine it_ext (by simp) fun i hi=>?_
 have hi':i<lo.length:=by simpa using hi
 rw[itAt_merge _ _ _ _ hi',itAt_merge _ _ _ _ hi'];by_cases e:i=k
 ·subst e;rw[if_neg (by omega),if_pos (by omega),h]
 ·by_cases h2:i<k
  ·rw[if_pos h2,if_pos (by omega)]
  ·rw[if_neg h2,if_neg (by omega)]
def newTo (lo ln:List It):Nat->List It
 | 0=>[]
 | k+1=>if(idxTo lo lo.length (itAt ln k).name).isSome then newTo lo ln k else newTo lo ln k ++ [itAt ln k]
def mergeL (lo ln:List It) (k:Nat):List It:=mergeTo lo ln lo.length ++ newTo lo ln k
theorem icells_set (l:List It) (k:Nat) (t:It) (h:k<l.length):icells (l.set k t)=(((((((icells l).set (k*7) (.string t.name)).set (k*7+1) (.bool t.object)).set (k*7+2) (.bool t.mixed)).set (k*7+3) (.bool t.coin)).set (k*7+4) (.int .i64 t.wear)).set (k*7+5) (.int .i64 t.bnd)).set (k*7+6) (.int .i64 t.level):=by
 induction l generalizing k with
 | nil=>simp at h
 | cons a l ih =>
   cases k with
   | zero=>simp[icells]
   | succ k =>
     have:=ih k (by simpa using h);have e:(k+1)*7=k*7+1+1+1+1+1+1+1:=by omega
     rw[List.set_cons_succ,icells_cons,this,icells_cons,e];simp[List.set_cons_succ]
end Go.Proofs.YthjfdfdgbpbanaaGreatDoor
