/- The reference's tests of a catalog are those of package catalog: plain law. The reference's Valid on any catalog: what lies in memory, and the steps of its tests. A region that draws its order, by an invariant that each operation keeps: no branching over orders. A region that draws its order: operations that only read, then one operation of any kind for which all of them must be done, then operations that only read and wait for it. It runs as its text stands. The walk of version.New on valid catalogs. A region that draws its order: loads that hold in every world that meets a condition are taken first, and from an operation on that waits for all of them the rest is walked as it comes. Drawn regions: operations taken in one short call; runs of cells. Clone of items, copies of a catalog of items alone, rewrite of one, and version.Missing. The contract of copies.Catalog on a catalog of items alone. What version.Merge does to items, its memory; rewrite on a catalog of items alone. The walk of version.Merge on catalogs of items alone, where nothing stands against it. -/
import Derived.Test.YtiecjoijnkghbaaGreatDoorY1
import Derived.Test.YtiecjoijnkghbaaGreatDoorY3
import Derived.Test.YtiecjoijnkghbaaGreatDoorY6
import Derived.RegionTactic
import Derived.StillTailTactics
import Derived.BigQuiet
import Derived.OrdersHeld
import Derived.Deep.RegionHeld3
import Derived.Deep.MidRow
set_option linter.unusedVariables false
set_option linter.unusedSimpArgs false
set_option maxRecDepth 100000
set_option maxHeartbeats 4000000
open Go.RowKit
namespace Go.Proofs.YtiecjoijnkghbaaGreatDoor
section
set_option linter.unusedVariables false
set_option linter.unusedSimpArgs false
def nameL (m:CatM):List (List ByteArray):=[m.items.map It.name,m.rules.map RuM.name,m.tables.map TbM.name,m.taxes.map TxM.name]
structure RvAt (w V : World) (m : CatM) : Prop where
 bx:Bk V w.heap.size 28 (catSL m.si m.sr m.st m.sx)
 ok:m.Ok V
 bel:Below w.heap.size w V
theorem RvAt.below {w V V':World} {m:CatM} (h:RvAt w V m) (hb:Below V.heap.size V V'):RvAt w V' m:=⟨h.bx.below hb h.bx.lt,h.ok.below hb,h.bel.trans (hb.mono h.bel.size)⟩
abbrev NmL:=Option Addr×Nat×List ByteArray
structure NmAt (V : World) (g : Nat) (L : List NmL) (m : CatM) : Prop where
 bk:Bk V g 53 (L.map fun p=>Value.slice p.1 p.2.2.length p.2.1)
 rows:∀p∈L,Row V V.heap.size p.1 (strs p.2.2)∧p.2.2.length<=p.2.1∧p.2.2.length<=100000∧∀s∈p.2.2,s.size<=8192
 nms:L.map (fun p=>p.2.2)=nameL m
theorem NmAt.below {V V':World} {g:Nat} {L:List NmL} {m:CatM} (h:NmAt V g L m) (hb:Below V.heap.size V V'):NmAt V' g L m :=
 ⟨h.bk.below hb h.bk.lt,fun p hp=>⟨((h.rows p hp).1.below hb).more hb.size,(h.rows p hp).2⟩,h.nms⟩
theorem NmAt.len {V:World} {g:Nat} {L:List NmL} {m:CatM} (h:NmAt V g L m):L.length=4:=by
 have:=congrArg List.length h.nms;simpa[nameL]using this
def earlierB (ops:Array Oper):Bool:=(List.range ops.size).all fun i=>match ops[i]? with | some o=>o.after.all fun e=>decide (e.on<i) | none=>true
theorem earlier_spec {ops:Array Oper} (h:earlierB ops=true) {i:Nat} {o:Oper} (ho:ops[i]? = some o):∀e∈o.after,e.on<i:=by
 intro e he;have hi:i<ops.size:=(Array.getElem?_eq_some_iff.1 ho).1;have h1:=List.all_eq_true.1 h i (List.mem_range.2 hi);rw[ho]at h1;simpa using Array.all_eq_true_iff_forall_mem.1 h1 e he
def leftN (l:Array Bool):Nat:=l.toList.count false
theorem leftN_set {l:Array Bool} {i:Nat} (h:l.getD i true=false):leftN (l.setIfInBounds i true)+1=leftN l:=by
 have hi:i<l.size:=by
  rcases Nat.lt_or_ge i l.size with h1|h1
  ·exact h1
  ·simp[Array.getElem?_eq_none h1]at h
 have hf':l.toList[i]'(by simpa using hi)=false:=by simpa[hi]using h
 have hpos:0<l.toList.count false:=List.count_pos_iff.2 (by rw[<- hf'];exact List.getElem_mem _);unfold leftN;rw[Array.toList_setIfInBounds,List.count_set (by simpa using hi),hf'];have e1:(if(false == false)=true then 1 else 0)=1:=rfl;have e2:(if(true == false)=true then 1 else 0)=0:=rfl;rw[e1,e2];omega
theorem wpAny_inv {P:Program} {ops:Array Oper} {Q:Exit->Act->World->Prop} (hd:earlierB ops=true) (I:(Nat->Bool)->Act->World->Prop)
 (step:∀(i:Nat) (o:Oper) (L:Nat->Bool) (a:Act) (w:World),ops[i]? = some o->L i=false->(∀e∈o.after,Region.binds .any e=true->L e.on=true)->I L a w ->
  wpOp P ops Q i (fun a' w'=>I (fun j=>L j || j == i) a' w') a w)
 (done:∀(L:Nat->Bool) (a:Act) (w:World),(∀i,i<ops.size->L i=true)->I L a w->Q .normal a w) :
 ∀(fuel:Nat) (listed:Array Bool) (a:Act) (w:World),listed.size=ops.size->leftN listed=fuel->I (fun j=>listed.getD j false) a w->wpAny P .any ops Q fuel listed a w:=by
 have allOf : ∀ (listed : Array Bool), listed.size = ops.size -> Region.ready .any ops listed = [] -> ∀ i, i < ops.size -> listed.getD i false = true := by
  intro listed hs hr i
  induction i using Nat.strongRecOn with
  | _ i ih =>
    intro hi;cases hl:listed.getD i false with
    | true=>rfl
    | false =>
      have hm:i∈Region.ready .any ops listed:=by
       rw[mem_ready];refine⟨by simpa[hs,hi]using hl,ops[i],by simp[hi],fun e he _=>?_⟩;have:=earlier_spec hd (i:=i) (o:=ops[i]) (by simp[hi]) e he;exact ih e.on this (by omega)
      rw[hr]at hm;cases hm
 intro fuel
 induction fuel with
 | zero =>
   intro listed a w hs hl hI;have hall:∀i,i<ops.size->listed.getD i false=true:=by
    intro i hi;have h0:¬ false∈listed.toList:=by
     intro hm;have:=List.count_pos_iff.2 hm;unfold leftN at hl;omega
    have hi':i<listed.size:=by omega
    cases hx:listed[i]with
    | true=>simp[hi',hx]
    | false=>exact absurd (by rw[<- hx];exact Array.mem_toList_iff.2 (Array.getElem_mem hi')) h0
   refine⟨?_,done _ a w hall hI⟩;apply List.eq_nil_iff_forall_not_mem.2;intro i hi;obtain⟨h1,o,ho,_⟩:=mem_ready.1 hi;have hi':=(Array.getElem?_eq_some_iff.1 ho).1;have h2:=hall i hi';have hi2:i<listed.size:=by omega
   simp[hi2]at h1 h2;rw[h1]at h2;cases h2
 | succ fuel ih =>
   intro listed a w hs hl hI;refine⟨fun h0=>done _ a w (allOf listed hs h0) hI,fun i hi=>?_⟩;obtain⟨h1,o,ho,h2⟩:=mem_ready.1 hi;have hi':=(Array.getElem?_eq_some_iff.1 ho).1;have hi2:i<listed.size:=by omega
   refine wpOp_mono (fun a' w' hI'=>ih (listed.setIfInBounds i true) a' w' (by simpa using hs) (by have:=leftN_set h1;omega) ?_) (step i o (fun j=>listed.getD j false) a w ho ?_ h2 hI)
   ·have he:(fun j=>(listed.setIfInBounds i true).getD j false)=fun j=>listed.getD j false || j == i:=by
     funext j;by_cases hij:i=j
     ·subst hij;simp[hi2]
     ·rw[getD_set_ne false hij];have:(j == i)=false:=by simpa using fun e=>hij e.symm
      rw[this,Bool.or_false]
    rw[he];exact hI'
   ·simpa[hi2]using h1
theorem getD_repl (m j:Nat):(Array.replicate m false).getD j false=false:=by
 rcases Nat.lt_or_ge j m with h|h <;> simp[h]
theorem wp_region_inv {P:Program} {ops:Array Oper} {Q:Exit->Act->World->Prop} {id:Nat} {a:Act} {w:World} (hm:P.follows .mixedOrders=true) (hd:earlierB ops=true) (I:(Nat->Bool)->Act->World->Prop)
 (h0:I (fun _=>false) a w.drew)
 (step:∀(i:Nat) (o:Oper) (L:Nat->Bool) (a:Act) (w:World),ops[i]? = some o->L i=false->(∀e∈o.after,Region.binds .any e=true->L e.on=true)->I L a w ->
  wpOp P ops Q i (fun a' w'=>I (fun j=>L j || j == i) a' w') a w)
 (done:∀(L:Nat->Bool) (a:Act) (w:World),(∀i,i<ops.size->L i=true)->I L a w->Q .normal a w):(Code.region id ops true).wp P Q a w:=by
 refine wp_region_any hm (wpAny_inv hd I step done ops.size _ a _ (by simp) (by simp[leftN]) ?_);have he:(fun j=>(Array.replicate ops.size false).getD j false)=fun _=>false:=by
  funext j;exact getD_repl ops.size j
 rw[he];exact h0
section
section
variable {P : Program} {ops : Array Oper} {md : Region.Mode} {w : World}
def hindB (md:Region.Mode) (ops:Array Oper) (n:Nat):Bool :=
 (List.range ops.size).all fun t=>decide (t<=n) || (List.range t).any fun s=>decide (n<=s) && Region.waitsFor md ops t s
theorem hind_waits {n:Nat} {listed:Array Bool} (hs:Region.sinkB md ops n=true) (hc:hindB md ops n=true) (hn:n<ops.size) (inv:HeadInv md ops n listed) :
 ∀(d i:Nat),n-i=d->i<n->listed.getD i true=false->∀t,n<=t->t ∉ Region.ready md ops listed:=by
 intro d
 induction d using Nat.strongRecOn with
 | _ d ih =>
   intro i hd hi hun t ht hr;obtain⟨_,ot,hot,hall⟩:=mem_ready.1 hr;have htlt:t<ops.size:=(Array.getElem?_eq_some_iff.1 hot).1;rcases Nat.lt_or_ge n t with hlt|hge
   ·have h1:=List.all_eq_true.1 hc t (List.mem_range.2 htlt);simp only[Bool.or_eq_true,decide_eq_true_eq]at h1;rcases h1 with h1|h1
    ·omega
    ·obtain⟨s,hs1,hs2⟩:=List.any_eq_true.1 h1;simp only[Bool.and_eq_true,decide_eq_true_eq]at hs2;have hst:=List.mem_range.1 hs1;obtain⟨o',ho',e,he,hb,hon⟩:=Region.waitsFor_spec hs2.2;cases Option.some.inj (ho'.symm.trans hot);have h2:=hall e he hb;rw[hon,getD_both (inv.tail s hs2.1 (by omega))]at h2;cases h2
   ·obtain rfl:t=n:=by omega
    have h1:=List.all_eq_true.1 hs i (List.mem_range.2 hi);obtain⟨j,hj,hj2⟩:=List.any_eq_true.1 h1;simp only[Bool.and_eq_true,decide_eq_true_eq]at hj2;obtain⟨oj,hoj,e,he,hb,hon⟩:=Region.waitsFor_spec hj2.2;have hjle:j<=t:=by have:=List.mem_range.1 hj;omega
    rcases Nat.lt_or_ge j t with hjt|hjt
    ·cases hl:listed.getD j false with
     | true =>
       have h2:=inv.closed j oj hoj hl e he hb;rw[hon,getD_both hun]at h2;cases h2
     | false=>exact ih (t-j) (by omega) j rfl hjt (getD_in (by rw[inv.size];omega) hl) t (Nat.le_refl _) hr
    ·obtain rfl:j=t:=by omega
     cases Option.some.inj (hoj.symm.trans hot);have h2:=hall e he hb;rw[hon,getD_both hun]at h2;cases h2
theorem head_first {n i:Nat} {oi:Oper} {v:Value} {L:Array Bool->Act->Prop} (hi:ops[i]? = some oi) (hsel:∀(j:Nat) (o:Oper) cs b,ops[j]? = some o->o.op≠.select cs b)
 (hs:Region.sinkB md ops n=true) (hc:hindB md ops n=true) (hn:n<ops.size) (hin:i<n) (hdone:∀listed a,L listed a->∀j∈Region.ready md ops listed,n<=j) :
 ∀(f:Nat) (listed:Array Bool) (a:Act),HeadInv md ops n listed ->
  (∀j oj,ops[j]? = some oj->j≠i->listed.getD j true=false->(∀e∈oj.after,Region.binds md e=true->e.on≠i)->oi.apart ops oj=true) ->
  i∈Region.ready md ops listed->YieldsAt P ops w oi v a ->
  wpAnyL P md ops w n L f (listed.setIfInBounds i true) (a.put oi.dst v)->wpAnyL P md ops w n L (f+1) listed a:=by
 intro f
 induction f with
 | zero =>
   intro listed a inv _ hr hy H;have hun:=(mem_ready.1 hr).1;refine⟨fun h=>(by rw[h]at hr;cases hr),fun j hj=>?_⟩;have hjn:j<n:=Nat.lt_of_not_le fun h=>hind_waits hs hc hn inv _ i rfl hin hun j h hj
   refine⟨hjn,?_⟩;rcases Nat.decEq j i with hji|rfl
   ·have:=hdone _ _ H j (ready_mono hj hji);omega
   ·exact hy.stOp hi H
 | succ f ih =>
   intro listed a inv hfree hr hy H;have hun:=(mem_ready.1 hr).1;refine⟨fun h=>(by rw[h]at hr;cases hr),fun j hj=>?_⟩;have hjn:j<n:=Nat.lt_of_not_le fun h=>hind_waits hs hc hn inv _ i rfl hin hun j h hj
   refine⟨hjn,?_⟩;rcases Nat.decEq j i with hji|rfl
   ·have h1:=(H.2 j (ready_mono hj hji)).2;obtain⟨hjun,oj,hoj,hall⟩:=mem_ready.1 hj;have hnot:∀e∈oj.after,Region.binds md e=true->e.on≠i:=fun e he hb heq=>by
     have h1:=hall e he hb;rw[heq,getD_both hun]at h1;cases h1
    have h2:=stOp_put hoj (hfree j oj hoj hji hjun hnot) (fun cs b=>hsel i oi cs b hi) (fun cs b=>hsel j oj cs b hoj) hy h1;refine stOp_mono (fun a' h3=>ih (listed.setIfInBounds j true) a' (inv.set hj hjn) ?_ (ready_mono hr (Ne.symm hji)) h3.1 ?_) h2
    ·intro k ok hk hki hun2 hno;refine hfree k ok hk hki ?_ hno;rcases Nat.decEq j k with hjk|rfl
     ·rwa [getD_set_ne true hjk]at hun2
     ·exact hjun
    ·rw[Array.setIfInBounds_comm _ _ hji];exact h3.2
   ·exact hy.stOp hi H
def midTo (md:Region.Mode) (ops:Array Oper):Nat->Nat->Array Bool->Bool
 | 0,k,listed=>decide (Region.ready md ops listed=[k]) && Region.lexFrom md ops (ops.size-k-1) (k+1) (listed.setIfInBounds k true)
 | f+1,k,listed=>(Region.ready md ops listed).contains k && Region.free md ops listed k && midTo md ops f (k+1) (listed.setIfInBounds k true)
def midB (md:Region.Mode) (ops:Array Oper) (n:Nat):Bool :=
 Region.noSelect ops && decide (n<ops.size) && Region.sinkB md ops n && hindB md ops n && midTo md ops n 0 (Array.replicate ops.size false)
theorem head_lex {n:Nat} {Lq:Act->Prop} (hsel:Region.noSelect ops=true) (hs:Region.sinkB md ops n=true) (hc:hindB md ops n=true) (hn:n<ops.size) :
 ∀(l:List Oper) (k:Nat) (listed:Array Bool) (a:Act),(∀j,j<l.length->l[j]? = ops[k+j]?)->k+l.length=n->HeadInv md ops n listed ->
 midTo md ops l.length k listed=true->wpStill P ops w Lq l a ->
 wpAnyL P md ops w n (fun listed' a'=>midTo md ops 0 n listed'=true∧Lq a') l.length listed a:=by
 intro l
 induction l with
 | nil =>
   intro k listed a _ hk _ hB h;obtain rfl:k=n:=by simpa using hk
   exact⟨hB,h⟩
 | cons o l ih =>
   intro k listed a hl hk inv hB h;have h0:ops[k]? = some o:=by simpa using(hl 0 (by simp)).symm
   simp only[List.length_cons,midTo,Bool.and_eq_true]at hB;obtain⟨⟨hr,hf⟩,hB'⟩:=hB;simp only[List.length_cons]at hk;have hr':k∈Region.ready md ops listed:=by simpa using hr
   have hst:stOp P ops w k (wpStill P ops w Lq l) a:=by unfold stOp;simp only[h0];exact h
   obtain⟨v,hy,hK⟩:=yieldsAt_of_stOp h0 hst;refine head_first h0 (Region.noSelect_spec hsel) hs hc hn (by omega) (fun listed' a' hL j hj=>?_) l.length listed a inv (Region.free_spec h0 hf) hr' hy
    (ih (k+1) _ _ (fun j hj=>by have:=hl (j+1) (by simp;omega);simpa[Nat.add_assoc,Nat.add_comm 1 j]using this) (by omega) (inv.set hr' (by omega)) hB' hK)
   have h1:=hL.1;simp only[midTo,Bool.and_eq_true,decide_eq_true_eq]at h1;rw[h1.1]at hj;have:j=n:=by simpa using hj
   omega
theorem wp_then {o:Oper} {a:Act} {w:World} {K K2:Act->World->Prop} {Q:Exit->Act->World->Prop} (h:o.wp P a w K (Exit.then K2 Q)):o.wp P a w K Q:=by
 unfold Oper.wp at *;generalize(execOp a.eval o).run P w=r at *;cases r with
 | ok n w'=>cases n <;> exact h
 | halt x w'=>cases x <;> exact h
theorem wp_region_mid {id:Nat} {Q:Exit->Act->World->Prop} {a:Act} {w:World} {l:List Oper} (n:Nat) (hm:P.follows .mixedOrders=true) (hB:midB .any l.toArray n=true)
 (h:wpStill P l.toArray w.drew (fun a'=>wpList P l.toArray (Exit.then (fun a2 w2=>wpQuiet P l.toArray (fun w'=>∃m,w'=w2.drewN m) (fun a3=>∀w',(∃m,w'=w2.drewN m)->Q .normal a3 w') (l.drop (n+1)) a2) Q) ((l.drop n).take 1) a' w.drew) (l.take n) a) :
 (Code.region id l.toArray true).wp P Q a w:=by
 simp only[midB,Bool.and_eq_true,decide_eq_true_eq]at hB;obtain⟨⟨⟨⟨hsel,hn⟩,hs⟩,hc⟩,hmid⟩:=hB;have hn':n<l.length:=by simpa using hn
 have htl:(l.take n).length=n:=by simp;omega
 have inv0:HeadInv .any l.toArray n (Array.replicate l.toArray.size false) :=
  ⟨by simp,fun j oj _ hl=>(by rw[getD_replicate_false]at hl;cases hl),fun t _ ht=>getD_in (by simpa using ht) (getD_replicate_false _ _)⟩
 have H:=head_lex (md:=.any) hsel hs hc hn (l.take n) 0 _ a (fun j hj=>by
  have hj':j<n:=by rw[htl]at hj;exact hj
  simp[hj']) (by simpa using htl) inv0 (by rw[htl];exact hmid) h
 refine wp_region_any hm ?_;have h1:(l.drop n).take 1=[l[n]]:=by
  rw[List.drop_eq_getElem_cons hn'];rfl
 have key:=wpAny_of_head (Q':=Q) (g:=l.toArray.size-n) (fun listed a' hL=>by
  obtain⟨hL1,hL2⟩:=hL
  simp only[midTo,Bool.and_eq_true,decide_eq_true_eq]at hL1
  rw[h1]at hL2
  rw[show l.toArray.size-n=(l.toArray.size-n-1)+1 by omega]
  refine⟨fun h0=>(by rw[hL1.1]at h0;cases h0),fun i hi=>?_⟩
  rw[hL1.1]at hi
  obtain rfl:i=n:=by simpa using hi
  have hop:l.toArray[i]? = some l[i]:=by simp[hn']
  have hw:wpOp P l.toArray Q i (fun a2 w2=>wpQuiet P l.toArray (fun w'=>∃m,w'=w2.drewN m) (fun a3=>∀w',(∃m,w'=w2.drewN m)->Q .normal a3 w') (l.drop (i+1)) a2) a' w.drew:=by
   unfold wpOp
   simp only[hop]
   have h2:=hL2
   simp only[wpList]at h2
   split at h2
   ·rename_i hwt
    rw[if_pos hwt]
    rcases h2 with h2|⟨h2,h3⟩
    ·exact .inl (wp_then h2)
    ·exact .inr ⟨h2,h3⟩
   ·rename_i hwt
    rw[if_neg hwt]
    exact h2
  refine wpOp_mono (fun a2 w2 h2=>?_) hw
  have hdl:(l.drop (i+1)).length=l.toArray.size-i-1:=by simp;omega
  have h3:=wpAnyQ_lex (C:=fun w'=>∃m,w'=w2.drewN m) (md:=.any) (Q:=fun a3=>∀w',(∃m,w'=w2.drewN m)->Q .normal a3 w') hsel (l.drop (i+1)) (i+1) (listed.setIfInBounds i true) a2 (fun j=>by simp[List.getElem?_drop]) (by rw[hdl];exact hL1.2) h2
  rw[hdl]at h3
  exact wpAny_of_quiet (C:=fun w'=>∃m,w'=w2.drewN m) (fun _ w' hw' h=>h w' hw') _ _ _ _ ⟨0,rfl⟩ h3) _ _ _ H
 rw[htl,show n+(l.toArray.size-n)=l.toArray.size by omega]at key;exact key
end
end
end
section
set_option linter.unusedVariables false
set_option linter.unusedSimpArgs false
theorem new_start {w W:World} {io ro to_ xo ix rx tx xx:Sl} {bo bn:Nat} {lo ln:List It} (rs:List Ren) (hlo:io.n=lo.length) (k1:Bk W w.heap.size 28 (catSL io ro to_ xo)) (k2:Bk W (w.heap.size+1) 28 (catSL ix rx tx xx)) (mo:MapI W bo io.n (idxTo lo io.n)) (mn:MapI W bn ix.n (idxTo ln ix.n)) (hb:Below w.heap.size w W) :
 NewAt w ((W.alloc (.cells (tcells (List.replicate io.n (0,0,0))).toArray 115)).alloc (.cells (bools (List.replicate io.n false)).toArray 4)) io ro to_ xo ix rx tx xx bo bn W.heap.size (W.heap.size+1) lo ln (renTo lo ln rs 0).1 (renTo lo ln rs 0).2:=by
 have hk:=k2.lt;have g1:Below W.heap.size W ((W.alloc (.cells (tcells (List.replicate io.n (0,0,0))).toArray 115)).alloc (.cells (bools (List.replicate io.n false)).toArray 4)):=((Below.refl _ _).alloc (Nat.le_refl _) _).alloc (by simp) _;have kr:=Bk.new (W.alloc (.cells (tcells (List.replicate io.n (0,0,0))).toArray 115)) 4 (bools (List.replicate io.n false));rw[World.size_alloc]at kr;simp only[renTo,<- hlo];exact⟨mo.below g1,mn.below g1,(Bk.new W 115 _).alloc _,kr,k1.below g1 k1.lt,k2.below g1 k2.lt,hb.trans (g1.mono hb.size),by omega,by omega,by omega⟩
section
section
variable {P : Program} {ops : Array Oper} {Q : Exit -> Act -> World -> Prop} {md : Region.Mode} {S : World -> Prop} {T : Nat}
def wpAnyX (P:Program) (md:Region.Mode) (ops:Array Oper) (Q:Exit->Act->World->Prop) (S:World->Prop) (T:Nat):Nat->Array Bool->Act->World->Prop
 | 0,listed,a,w=>Region.ready md ops listed=[]∧Q .normal a w
 | fuel + 1, listed, a, w =>
   (Region.ready md ops listed=[T]∧wpAny P md ops Q (fuel+1) listed a w) ∨
   ((Region.ready md ops listed = [] -> Q .normal a w) ∧
     ∀i∈Region.ready md ops listed,wpOp P ops Q i (fun a' w'=>S w'∧wpAnyX P md ops Q S T fuel (listed.setIfInBounds i true) a' w') a w)
theorem wpAny_of_X:∀(fuel:Nat) (listed:Array Bool) (a:Act) (w:World),wpAnyX P md ops Q S T fuel listed a w->wpAny P md ops Q fuel listed a w
 | 0,_,_,_,h=>h
 | fuel+1,_,_,_,.inl h=>h.2
 | fuel+1,_,_,_,.inr h=>⟨h.1,fun i hi=>wpOp_mono (fun a' w' h'=>wpAny_of_X fuel _ a' w' h'.2) (h.2 i hi)⟩
theorem wpAnyX_first {i:Nat} {oi:Oper} {v:Value} (hi:ops[i]? = some oi) (hsel:∀(j:Nat) (o:Oper) cs b,ops[j]? = some o->o.op≠.select cs b)
 (hT:Region.waitsFor md ops T i=true) (hQ:∀c a w,Q (.panic c) (a.put oi.dst v) w->Q (.panic c) a w) :
 ∀(fuel:Nat) (listed:Array Bool) (a:Act) (w:World),
  (∀j oj,ops[j]? = some oj->j≠i->listed.getD j true=false->(∀e∈oj.after,Region.binds md e=true->e.on≠i)->oi.apart ops oj=true) ->
  i∈Region.ready md ops listed->YieldsIf P ops S oi v a->S w ->
  wpAnyX P md ops Q S T fuel (listed.setIfInBounds i true) (a.put oi.dst v) w->wpAnyX P md ops Q S T (fuel+1) listed a w:=by
 intro fuel
 induction fuel with
 | zero =>
   intro listed a w _ hr hy hS H;refine .inr ⟨fun h=>(by rw[h]at hr;cases hr),fun j hj=>?_⟩;by_cases hji:j=i
   ·subst hji;exact hy.wpOp hi hS ⟨hS,H⟩
   ·have:=ready_mono hj hji;rw[H.1]at this;cases this
 | succ fuel ih =>
   intro listed a w hfree hr hy hS H;refine .inr ⟨fun h=>(by rw[h]at hr;cases hr),fun j hj=>?_⟩;by_cases hji:j=i
   ·subst hji;exact hy.wpOp hi hS ⟨hS,H⟩
   ·obtain⟨hjun,oj,hoj,hall⟩:=mem_ready.1 hj;have hnot:∀e∈oj.after,Region.binds md e=true->e.on≠i:=fun e he hb heq=>by
     have h1:=hall e he hb;have h0:=(mem_ready.1 hr).1;rw[heq]at h1;rcases Nat.lt_or_ge i listed.size with h'|h'
     ·simp[h']at h0 h1;rw[h0]at h1;cases h1
     ·simp[Array.getElem?_eq_none h']at h1
    rcases H with H|H
    ·have h1:=ready_mono hj hji;rw[H.1]at h1;obtain rfl:j=T:=by simpa using h1
     obtain⟨o',ho',e,he,hb,hon⟩:=Region.waitsFor_spec hT;cases Option.some.inj (ho'.symm.trans hoj);exact absurd hon (hnot e he hb)
    ·have h1:=H.2 j (ready_mono hj hji);have h2:=wpOp_putIf hoj (hfree j oj hoj hji hjun hnot) (fun cs b=>hsel i oi cs b hi) (fun cs b=>hsel j oj cs b hoj) hQ hy h1;have hfree':∀k ok,ops[k]? = some ok->k≠i->(listed.setIfInBounds j true).getD k true=false ->
      (∀e∈ok.after,Region.binds md e=true->e.on≠i)->oi.apart ops ok=true:=fun k ok hk hki hun hno=>by
      refine hfree k ok hk hki ?_ hno;by_cases hjk:j=k
      ·subst hjk;exact hjun
      ·rw[getD_set_ne true hjk]at hun;exact hun
     refine wpOp_mono (fun a' w' h3=>⟨h3.2.1,ih (listed.setIfInBounds j true) a' w' hfree' (ready_mono hr (Ne.symm hji)) h3.1 h3.2.1 ?_⟩) h2;rw[Array.setIfInBounds_comm _ _ hji];exact h3.2.2
theorem X_take (i:Nat) (d:Option Tmp) {oi:Oper} {v:Value} {fuel:Nat} {listed listed':Array Bool} {a:Act} {w:World} (hi:ops[i]? = some oi) (hd:oi.dst=d) (hl:listed.setIfInBounds i true=listed')
 (hB:(Region.noSelect ops && Region.free md ops listed i && (Region.ready md ops listed).contains i && Region.waitsFor md ops T i)=true)
 (hQ:∀c a w,Q (.panic c) (a.put oi.dst v) w->Q (.panic c) a w) (hy:Region.wanted oi (yielded ops a.tmps)=true∧∀w,S w->(execOp a.eval oi).run P w=.ok (.value v) w) (hS:S w)
 (h:wpAnyX P md ops Q S T fuel listed' (a.put d v) w):wpAnyX P md ops Q S T (fuel+1) listed a w:=by
 simp only[Bool.and_eq_true]at hB;subst hd hl;exact wpAnyX_first hi (Region.noSelect_spec hB.1.1.1) hB.2 hQ fuel listed a w (Region.free_spec hi hB.1.1.2) (by simpa using hB.1.2) (.inl hy) hS h
theorem X_one (i:Nat) {o:Oper} {fuel:Nat} {listed listed':Array Bool} {a:Act} {w:World} (hr:Region.ready md ops listed=[i]) (hl:listed.setIfInBounds i true=listed') (ho:ops[i]? = some o)
 (h:∀K':Act->World->Prop,(∀a w,S w->wpAnyX P md ops Q S T fuel listed' a w->K' a w)->if Region.wanted o (yielded ops a.tmps)=true then Oper.wp P o a w K' Q else K' (a.put o.dst undef) w):wpAnyX P md ops Q S T (fuel+1) listed a w:=by
 subst hl;refine .inr ⟨fun h0=>(by rw[hr]at h0;cases h0),fun j hj=>?_⟩;rw[hr]at hj;obtain rfl:j=i:=by simpa using hj
 exact wpOp_step ho fun K hK=>h K fun a w hS hX=>hK a w ⟨hS,hX⟩
theorem X_o (i:Nat){o:Oper}{fuel:Nat}{listed:Array Bool}{a:Act}{w:World}(ho:ops[i]?=some o)
 (h:∀K':Act→World→Prop,(∀a w,S w→wpAnyX P md ops Q S T fuel (listed.setIfInBounds i true) a w→K' a w)→if Region.wanted o (yielded ops a.tmps)=true then Oper.wp P o a w K' Q else K' (a.put o.dst undef) w)(hr:Region.ready md ops listed=[i]:=by kernel_rfl):wpAnyX P md ops Q S T (fuel+1) listed a w:=X_one i hr rfl ho h
theorem tX (i:Nat)(d:Option Tmp){oi:Oper}{v:Value}{fuel:Nat}{listed:Array Bool}{a:Act}{w:World}(hi:ops[i]?=some oi)
 (hy:Region.wanted oi (yielded ops a.tmps)=true∧∀w,S w→(execOp a.eval oi).run P w=.ok (.value v) w)(hS:S w)
 (h:wpAnyX P md ops Q S T fuel (listed.setIfInBounds i true) (a.put d v) w)(hd:oi.dst=d:=by rfl)(hQ:∀c a w,Q (.panic c) (a.put oi.dst v) w→Q (.panic c) a w:=by exact fun _ _ _ h=>h)(hB:(Region.noSelect ops&&Region.free md ops listed i&&(Region.ready md ops listed).contains i&&Region.waitsFor md ops T i)=true:=by kernel_rfl):wpAnyX P md ops Q S T (fuel+1) listed a w:=X_take i d hi hd rfl hB hQ hy hS h
theorem X_tail {fuel:Nat} {listed:Array Bool} {a:Act} {w:World} (hr:Region.ready md ops listed=[T]) (h:wpAny P md ops Q (fuel+1) listed a w):wpAnyX P md ops Q S T (fuel+1) listed a w:=.inl ⟨hr,h⟩
theorem A_one (i:Nat) {o:Oper} {fuel:Nat} {listed listed':Array Bool} {a:Act} {w:World} (hr:Region.ready md ops listed=[i]) (hl:listed.setIfInBounds i true=listed') (ho:ops[i]? = some o)
 (h:∀K':Act->World->Prop,(∀a w,wpAny P md ops Q fuel listed' a w->K' a w)->if Region.wanted o (yielded ops a.tmps)=true then Oper.wp P o a w K' Q else K' (a.put o.dst undef) w):wpAny P md ops Q (fuel+1) listed a w:=by
 subst hl;refine⟨fun h0=>(by rw[hr]at h0;cases h0),fun j hj=>?_⟩;rw[hr]at hj;obtain rfl:j=i:=by simpa using hj
 exact wpOp_step ho h
theorem A_done {listed:Array Bool} {a:Act} {w:World} (hr:Region.ready md ops listed=[]) (h:Q .normal a w):wpAny P md ops Q 0 listed a w:=⟨hr,h⟩
theorem wp_region_X (S:World->Prop) (T:Nat) {id n:Nat} {a:Act} {w:World} (hn:ops.size=n) (hm:P.follows .mixedOrders=true) (hS:S w.drew)
 (h:S w.drew->wpAnyX P .any ops Q S T n (Array.replicate n false) a w.drew):(Code.region id ops true).wp P Q a w:=by
 subst hn;exact wp_region_any hm (wpAny_of_X _ _ _ _ (h hS))
end
end
section
section
variable {P : Program} {ops : Array Oper} {Q : Exit -> Act -> World -> Prop} {md : Region.Mode} {S : World -> Prop} {T : Nat}
theorem wpAnyX_firstU {i:Nat} {oi:Oper} {v:Value} (hi:ops[i]? = some oi) (hsel:∀(j:Nat) (o:Oper) cs b,ops[j]? = some o->o.op≠.select cs b)
 (hT:ops[T]? = none) (hQ:∀c a w,Q (.panic c) (a.put oi.dst v) w->Q (.panic c) a w) :
 ∀(fuel:Nat) (listed:Array Bool) (a:Act) (w:World),
  (∀j oj,ops[j]? = some oj->j≠i->listed.getD j true=false->(∀e∈oj.after,Region.binds md e=true->e.on≠i)->oi.apart ops oj=true) ->
  i∈Region.ready md ops listed->YieldsIf P ops S oi v a->S w ->
  wpAnyX P md ops Q S T fuel (listed.setIfInBounds i true) (a.put oi.dst v) w->wpAnyX P md ops Q S T (fuel+1) listed a w:=by
 intro fuel
 induction fuel with
 | zero =>
   intro listed a w _ hr hy hS H;refine .inr ⟨fun h=>(by rw[h]at hr;cases hr),fun j hj=>?_⟩;by_cases hji:j=i
   ·subst hji;exact hy.wpOp hi hS ⟨hS,H⟩
   ·have:=ready_mono hj hji;rw[H.1]at this;cases this
 | succ fuel ih =>
   intro listed a w hfree hr hy hS H;refine .inr ⟨fun h=>(by rw[h]at hr;cases hr),fun j hj=>?_⟩;by_cases hji:j=i
   ·subst hji;exact hy.wpOp hi hS ⟨hS,H⟩
   ·obtain⟨hjun,oj,hoj,hall⟩:=mem_ready.1 hj;have hnot:∀e∈oj.after,Region.binds md e=true->e.on≠i:=fun e he hb heq=>by
     have h1:=hall e he hb;have h0:=(mem_ready.1 hr).1;rw[heq]at h1;rcases Nat.lt_or_ge i listed.size with h'|h'
     ·simp[h']at h0 h1;rw[h0]at h1;cases h1
     ·simp[Array.getElem?_eq_none h']at h1
    rcases H with H|H
    ·have h1:=ready_mono hj hji;rw[H.1]at h1;obtain rfl:j=T:=by simpa using h1
     rw[hT]at hoj;cases hoj
    ·have h1:=H.2 j (ready_mono hj hji);have h2:=wpOp_putIf hoj (hfree j oj hoj hji hjun hnot) (fun cs b=>hsel i oi cs b hi) (fun cs b=>hsel j oj cs b hoj) hQ hy h1;have hfree':∀k ok,ops[k]? = some ok->k≠i->(listed.setIfInBounds j true).getD k true=false ->
      (∀e∈ok.after,Region.binds md e=true->e.on≠i)->oi.apart ops ok=true:=fun k ok hk hki hun hno=>by
      refine hfree k ok hk hki ?_ hno;by_cases hjk:j=k
      ·subst hjk;exact hjun
      ·rw[getD_set_ne true hjk]at hun;exact hun
     refine wpOp_mono (fun a' w' h3=>⟨h3.2.1,ih (listed.setIfInBounds j true) a' w' hfree' (ready_mono hr (Ne.symm hji)) h3.1 h3.2.1 ?_⟩) h2;rw[Array.setIfInBounds_comm _ _ hji];exact h3.2.2
theorem X_takeU (i:Nat) (d:Option Tmp) {oi:Oper} {v:Value} {fuel:Nat} {listed listed':Array Bool} {a:Act} {w:World} (hi:ops[i]? = some oi) (hd:oi.dst=d) (hl:listed.setIfInBounds i true=listed')
 (hB:(Region.noSelect ops && Region.free md ops listed i && (Region.ready md ops listed).contains i)=true) (hT:ops[T]? = none)
 (hQ:∀c a w,Q (.panic c) (a.put oi.dst v) w->Q (.panic c) a w) (hy:Region.wanted oi (yielded ops a.tmps)=true∧∀w,S w->(execOp a.eval oi).run P w=.ok (.value v) w) (hS:S w)
 (h:wpAnyX P md ops Q S T fuel listed' (a.put d v) w):wpAnyX P md ops Q S T (fuel+1) listed a w:=by
 simp only[Bool.and_eq_true]at hB;subst hd hl;exact wpAnyX_firstU hi (Region.noSelect_spec hB.1.1) hT hQ fuel listed a w (Region.free_spec hi hB.1.2) (by simpa using hB.2) (.inl hy) hS h
theorem tU (i:Nat)(d:Option Tmp){oi:Oper}{v:Value}{fuel:Nat}{listed:Array Bool}{a:Act}{w:World}(hi:ops[i]?=some oi)
 (hy:Region.wanted oi (yielded ops a.tmps)=true∧∀w,S w→(execOp a.eval oi).run P w=.ok (.value v) w)(hS:S w)
 (h:wpAnyX P md ops Q S T fuel (listed.setIfInBounds i true) (a.put d v) w)(hd:oi.dst=d:=by rfl)(hT:ops[T]?=none:=by rfl)(hQ:∀c a w,Q (.panic c) (a.put oi.dst v) w→Q (.panic c) a w:=by exact fun _ _ _ h=>h)(hB:(Region.noSelect ops&&Region.free md ops listed i&&(Region.ready md ops listed).contains i)=true:=by kernel_rfl):wpAnyX P md ops Q S T (fuel+1) listed a w:=X_takeU i d hi hd rfl hB hT hQ hy hS h
theorem X_done {listed:Array Bool} {a:Act} {w:World} (hr:Region.ready md ops listed=[]) (h:Q .normal a w):wpAnyX P md ops Q S T 0 listed a w:=⟨hr,h⟩
theorem uS (i d:Nat) {oi:Oper} {v:Value} {fuel:Nat} {listed:Array Bool} {a a':Act} {w:World} (hS:S w) (h:wpAnyX P md ops Q S T fuel (listed.setIfInBounds i true) a' w) (hi:ops[i]? = some oi:=by rfl)
  (hw:Region.wanted oi (yielded ops a.tmps)=true:=by rfl) (hy:∀w,S w->(execOp a.eval oi).run P w=.ok (.value v) w:=by(intro w' hS';(go_simp;try with_reducible rfl))) (ha:a.put (some d) v=a':=by(simp only[Act.put,Pa,Pb,Pc];rfl)) (hd:oi.dst=some d:=by rfl) (hT:ops[T]? = none:=by rfl) (hQ:∀c a w,Q (.panic c) (a.put oi.dst v) w->Q (.panic c) a w:=by exact fun _ _ _ h=>h) (hB:(Region.noSelect ops && Region.free md ops listed i && (Region.ready md ops listed).contains i)=true:=by kernel_rfl):wpAnyX P md ops Q S T (fuel+1) listed a w:=X_takeU i (some d) hi hd rfl hB hT hQ ⟨hw,hy⟩ hS (ha ▸ h)
theorem xS (i d:Nat) {oi:Oper} {v:Value} {fuel:Nat} {listed:Array Bool} {a a':Act} {w:World} (hS:S w) (h:wpAnyX P md ops Q S T fuel (listed.setIfInBounds i true) a' w) (hi:ops[i]? = some oi:=by rfl)
  (hw:Region.wanted oi (yielded ops a.tmps)=true:=by rfl) (hy:∀w,S w->(execOp a.eval oi).run P w=.ok (.value v) w:=by(intro w' hS';(go_simp;try with_reducible rfl))) (ha:a.put (some d) v=a':=by(simp only[Act.put,Pa,Pb,Pc];rfl)) (hd:oi.dst=some d:=by rfl) (hQ:∀c a w,Q (.panic c) (a.put oi.dst v) w->Q (.panic c) a w:=by exact fun _ _ _ h=>h) (hB:(Region.noSelect ops && Region.free md ops listed i && (Region.ready md ops listed).contains i && Region.waitsFor md ops T i)=true:=by kernel_rfl):wpAnyX P md ops Q S T (fuel+1) listed a w:=X_take i (some d) hi hd rfl hB hQ ⟨hw,hy⟩ hS (ha ▸ h)
theorem X_oR (i:Nat) {o:Oper} {fuel:Nat} {listed:Array Bool} {a:Act} {w:World} (ho:ops[i]? = some o)
  (h:∀K':Act->World->Prop,(∀a w,S w->wpAnyX P md ops Q S T fuel (listed.setIfInBounds i true) a w->K' a w)->if Region.wanted o (yielded ops a.tmps)=true then Oper.wp P o a w K' Q else K' (a.put o.dst undef) w) (hr:Region.ready md ops listed=[i]:=by kernel_rfl):wpAnyX P md ops Q S T (fuel+1) listed a w:=X_one i hr rfl ho h
end
theorem Bk.p1 {w:World} {g:Nat} {t:TypeId} {x0:Value} {xs:List Value} (h:Bk w g t (x0 :: xs)):w.cell? ⟨g,0,none⟩=some x0∧g<w.heap.size:=⟨h.cell 0,h.lt⟩
theorem Bk.p2 {w:World} {g:Nat} {t:TypeId} {x0 x1:Value} {xs:List Value} (h:Bk w g t (x0 :: x1 :: xs)):w.cell? ⟨g,0,none⟩=some x0∧w.cell? ⟨g,1,none⟩=some x1∧g<w.heap.size:=⟨h.cell 0,h.cell 1,h.lt⟩
theorem Bk.p3 {w:World} {g:Nat} {t:TypeId} {x0 x1 x2:Value} {xs:List Value} (h:Bk w g t (x0 :: x1 :: x2 :: xs)):w.cell? ⟨g,0,none⟩=some x0∧w.cell? ⟨g,1,none⟩=some x1∧w.cell? ⟨g,2,none⟩=some x2∧g<w.heap.size:=⟨h.cell 0,h.cell 1,h.cell 2,h.lt⟩
theorem Bk.p4 {w:World} {g:Nat} {t:TypeId} {x0 x1 x2 x3:Value} {xs:List Value} (h:Bk w g t (x0 :: x1 :: x2 :: x3 :: xs)):w.cell? ⟨g,0,none⟩=some x0∧w.cell? ⟨g,1,none⟩=some x1∧w.cell? ⟨g,2,none⟩=some x2∧w.cell? ⟨g,3,none⟩=some x3∧g<w.heap.size:=⟨h.cell 0,h.cell 1,h.cell 2,h.cell 3,h.lt⟩
theorem Bk.p5 {w:World} {g:Nat} {t:TypeId} {x0 x1 x2 x3 x4:Value} {xs:List Value} (h:Bk w g t (x0 :: x1 :: x2 :: x3 :: x4 :: xs)):w.cell? ⟨g,0,none⟩=some x0∧w.cell? ⟨g,1,none⟩=some x1∧w.cell? ⟨g,2,none⟩=some x2∧w.cell? ⟨g,3,none⟩=some x3∧w.cell? ⟨g,4,none⟩=some x4∧g<w.heap.size:=⟨h.cell 0,h.cell 1,h.cell 2,h.cell 3,h.cell 4,h.lt⟩
theorem Bk.p6 {w:World} {g:Nat} {t:TypeId} {x0 x1 x2 x3 x4 x5:Value} {xs:List Value} (h:Bk w g t (x0 :: x1 :: x2 :: x3 :: x4 :: x5 :: xs)):w.cell? ⟨g,0,none⟩=some x0∧w.cell? ⟨g,1,none⟩=some x1∧w.cell? ⟨g,2,none⟩=some x2∧w.cell? ⟨g,3,none⟩=some x3∧w.cell? ⟨g,4,none⟩=some x4∧w.cell? ⟨g,5,none⟩=some x5∧g<w.heap.size:=⟨h.cell 0,h.cell 1,h.cell 2,h.cell 3,h.cell 4,h.cell 5,h.lt⟩
theorem Bk.p7 {w:World} {g:Nat} {t:TypeId} {x0 x1 x2 x3 x4 x5 x6:Value} {xs:List Value} (h:Bk w g t (x0 :: x1 :: x2 :: x3 :: x4 :: x5 :: x6 :: xs)):w.cell? ⟨g,0,none⟩=some x0∧w.cell? ⟨g,1,none⟩=some x1∧w.cell? ⟨g,2,none⟩=some x2∧w.cell? ⟨g,3,none⟩=some x3∧w.cell? ⟨g,4,none⟩=some x4∧w.cell? ⟨g,5,none⟩=some x5∧w.cell? ⟨g,6,none⟩=some x6∧g<w.heap.size:=⟨h.cell 0,h.cell 1,h.cell 2,h.cell 3,h.cell 4,h.cell 5,h.cell 6,h.lt⟩
theorem Bk.p8 {w:World} {g:Nat} {t:TypeId} {x0 x1 x2 x3 x4 x5 x6 x7:Value} {xs:List Value} (h:Bk w g t (x0 :: x1 :: x2 :: x3 :: x4 :: x5 :: x6 :: x7 :: xs)):w.cell? ⟨g,0,none⟩=some x0∧w.cell? ⟨g,1,none⟩=some x1∧w.cell? ⟨g,2,none⟩=some x2∧w.cell? ⟨g,3,none⟩=some x3∧w.cell? ⟨g,4,none⟩=some x4∧w.cell? ⟨g,5,none⟩=some x5∧w.cell? ⟨g,6,none⟩=some x6∧w.cell? ⟨g,7,none⟩=some x7∧g<w.heap.size:=⟨h.cell 0,h.cell 1,h.cell 2,h.cell 3,h.cell 4,h.cell 5,h.cell 6,h.cell 7,h.lt⟩
theorem Bk.p9 {w:World} {g:Nat} {t:TypeId} {x0 x1 x2 x3 x4 x5 x6 x7 x8:Value} {xs:List Value} (h:Bk w g t (x0 :: x1 :: x2 :: x3 :: x4 :: x5 :: x6 :: x7 :: x8 :: xs)):w.cell? ⟨g,0,none⟩=some x0∧w.cell? ⟨g,1,none⟩=some x1∧w.cell? ⟨g,2,none⟩=some x2∧w.cell? ⟨g,3,none⟩=some x3∧w.cell? ⟨g,4,none⟩=some x4∧w.cell? ⟨g,5,none⟩=some x5∧w.cell? ⟨g,6,none⟩=some x6∧w.cell? ⟨g,7,none⟩=some x7∧w.cell? ⟨g,8,none⟩=some x8∧g<w.heap.size:=⟨h.cell 0,h.cell 1,h.cell 2,h.cell 3,h.cell 4,h.cell 5,h.cell 6,h.cell 7,h.cell 8,h.lt⟩
end
theorem info42:(Tryz.prog.info? 42).map (fun i=>(i.zero,i.size,i.bytes))=some (some (.agg #[.string ⟨#[]⟩,.bool false,.bool false,.bool false,.int .i64 0,.int .i64 0,.int .i64 0]),7,48):=by kernel_rfl
theorem icells_one (l:List It):∀u∈icells l,u.oneCell'=true:=by
 intro u hu;simp only[icells,List.mem_flatMap,List.mem_cons,List.not_mem_nil,or_false]at hu;obtain⟨t,_,h|h|h|h|h|h|h⟩:=hu <;> (subst h;rfl)
theorem clone_items {w:World} {a:Addr} {n c:Nat} {l:List It} (h:ItemsV w (some a) n l) (hn:n<=1000000) :
 Calls Tryz.prog 67 #[.slice (some a) n c] w (RowPost w 42 7 n (icells l)):=by
 obtain⟨i0,hi,hz0,hz1,hz2⟩:=info_parts info42;have hnil:∀W:World,(binOp .eql 23 (.slice (some a) n c) (.slice none 0 0)).run Tryz.prog W=.ok (.bool false) W:=fun W=>by kernel_rfl
 have hown:(w.alloc (.cells #[] 42)).ownsRow w.heap.size 42 7 (.slice (some ⟨w.heap.size,0,none⟩) 0 0) 0 [] :=
  ⟨rfl,.inr ⟨w.heap.size,0,_,rfl,Nat.le_refl _,heap_alloc_new w _,by omega,by unfold maxLen;omega,rfl,rfl⟩⟩
 have HO:=iH hown;have hlen:(icells l).length=n*7:=by rw[icells_length];have:=h.len;omega
 have HL:=iH hlen;have hcells:∀j u,(icells l)[j]? = some u->(w.alloc (.cells #[] 42)).cell? (a.add j)=some u:=by
  intro j u hj;have hjl:=(List.getElem?_eq_some_iff.1 hj).1;obtain⟨b,off,e,hb,hc⟩:=h.row.at_ j hjl;cases e;have e1:(⟨b,off,none⟩:Addr).add j=⟨b,off+j,none⟩:=by
   unfold Addr.add;split
   ·subst_vars;rfl
   ·rfl
  rw[e1,World.cell?_alloc_past _ _ _ hb];exact hc j u hj
 have HC:=iH hcells;clear hown hlen hcells h;go_enter Tryz.func67,Tryz.ntmps67;go_wp2_with(at_builtin;refine wpList_append_own_at _ rfl _ _ 23 rfl w.heap.size 42 i0 (.agg #[.string ⟨#[]⟩,.bool false,.bool false,.bool false,.int .i64 0,.int .i64 0,.int .i64 0]) 7 48 Tryz.underlying23 hi hz0 hz1 hz2 rfl (by decide) _ 0 [] rfl HO.out a n c (icells l) rfl HL.out HC.out (icells_one l) ?c3a ?c4a ?c5a ?_)
 case c3a=>unfold maxLen;omega
 case c4a=>omega
 case c5a=>simp
 intro v' w1 hown' hgrow _ _;have HO':=iH hown';have hb1:Below w.heap.size w w1:=((Below.refl _ w).alloc (Nat.le_refl _) _).grown hgrow (by simp) (fun k e=>by cases e;exact Nat.le_refl _);clear hown' hgrow;go_wp2;go_ret;exact⟨_,rfl,by simpa using HO'.out,hb1⟩
theorem each_nil105 (fv:Value) (w:World):Calls Tryz.prog 307 #[.slice none 0 0,fv] w fun e w'=>e=.returned (.slice none 0 0)∧w=w':=by
 go_enter Tryz.func307,Tryz.ntmps307;go_wp2;go_ret;exact⟨rfl,rfl⟩
theorem each_nil107 (fv:Value) (w:World):Calls Tryz.prog 309 #[.slice none 0 0,fv] w fun e w'=>e=.returned (.slice none 0 0)∧w=w':=by
 go_enter Tryz.func309,Tryz.ntmps309;go_wp2;go_ret;exact⟨rfl,rfl⟩
theorem each_nil109 (fv:Value) (w:World):Calls Tryz.prog 311 #[.slice none 0 0,fv] w fun e w'=>e=.returned (.slice none 0 0)∧w=w':=by
 go_enter Tryz.func311,Tryz.ntmps311;go_wp2;go_ret;exact⟨rfl,rfl⟩
def CatPost (w:World) (n:Nat) (l:List It) (e:Ending) (w':World):Prop :=
 ∃v,e=.returned (.agg #[v,.slice none 0 0,.slice none 0 0,.slice none 0 0])∧w'.ownsRow w.heap.size 42 7 v n (icells l)∧Below w.heap.size w w'
theorem copies_end {w wA:World} {n:Nat} {l:List It} {o1 o2:Obj} {v u0 u1 u2 u3:Value} {A:Option Addr} {c:Nat} (hv:v=.slice A n c) (ho:wA.ownsRow (w.heap.size+2) 42 7 v n (icells l)) (hb:Below (w.heap.size+2) ((w.alloc o1).alloc o2) wA) :
 CatPost w n l (.returned (.agg #[.slice A n c,.slice none 0 0,.slice none 0 0,.slice none 0 0])) ((((wA.setCell ⟨w.heap.size+1,0,none⟩ u0).setCell ⟨w.heap.size+1,1,none⟩ u1).setCell ⟨w.heap.size+1,2,none⟩ u2).setCell ⟨w.heap.size+1,3,none⟩ u3):=by
 subst hv;have hx:∀(X:World) (j:Nat) (u:Value),X.ownsRow (w.heap.size+2) 42 7 (.slice A n c) n (icells l)->(X.setCell ⟨w.heap.size+1,j,none⟩ u).ownsRow (w.heap.size+2) 42 7 (.slice A n c) n (icells l):=fun X j u h =>
  h.kept (grown_setCell X _ j u) (.inr (ne_row h (by omega)))
 have h4:=hx _ 3 u3 (hx _ 2 u2 (hx _ 1 u1 (hx _ 0 u0 ho)));refine⟨_,rfl,⟨h4.1,h4.2.imp id fun⟨g,cap,cur,h1,h2,h3⟩=>⟨g,cap,cur,h1,by omega,h3⟩⟩,?_⟩;have b0:Below w.heap.size w wA:=(((Below.refl _ w).alloc (Nat.le_refl _) o1).alloc (by simp) o2).trans (hb.mono (by omega));exact(((b0.setCell (p:=⟨w.heap.size+1,0,none⟩) (by simp) _).setCell (p:=⟨w.heap.size+1,1,none⟩) (by simp) _).setCell (p:=⟨w.heap.size+1,2,none⟩) (by simp) _).setCell (p:=⟨w.heap.size+1,3,none⟩) (by simp) _
theorem cell_far4 (U:World) (g j:Nat) (u0 u1 u2 u3:Value):((((U.setCell ⟨g+1,0,none⟩ u0).setCell ⟨g+1,1,none⟩ u1).setCell ⟨g+1,2,none⟩ u2).setCell ⟨g+1,3,none⟩ u3).cell? ⟨g,j,none⟩=U.cell? ⟨g,j,none⟩ :=
 World.cell?_of_block (by rw[Below.heap_setCell _ _ _ _ (by simp),Below.heap_setCell _ _ _ _ (by simp),Below.heap_setCell _ _ _ _ (by simp),Below.heap_setCell _ _ _ _ (by simp)])
theorem copies_items {w:World} {a:Addr} {n:Nat} (c:Nat) {l:List It} (h:ItemsV w (some a) n l):Calls Tryz.prog 206 #[catV (some a) n c] w (CatPost w n l):=by
 have hb0:Below w.heap.size w ((w.alloc (catO (some a) n c)).alloc (.cells #[.slice none 0 0,.slice none 0 0,.slice none 0 0,.slice none 0 0] 28)):=((Below.refl _ _).alloc (Nat.le_refl _) _).alloc (by simp) _;have HC:Hid (∀W:World,Below ((w.alloc (catO (some a) n c)).alloc (.cells #[.slice none 0 0,.slice none 0 0,.slice none 0 0,.slice none 0 0] 28)).heap.size ((w.alloc (catO (some a) n c)).alloc (.cells #[.slice none 0 0,.slice none 0 0,.slice none 0 0,.slice none 0 0] 28)) W->Calls Tryz.prog 67 #[.slice (some a) n c] W (RowPost W 42 7 n (icells l))) :=
  fun W hW=>clone_items ((h.below hb0).below hW) h.small
 have k1:=(Bk.new w 28 (catL (some a) n c)).alloc (.cells #[.slice none 0 0,.slice none 0 0,.slice none 0 0,.slice none 0 0] 28);have k2:=Bk.new (w.alloc (catO (some a) n c)) 28 [.slice none 0 0,.slice none 0 0,.slice none 0 0,.slice none 0 0];rw[World.size_alloc]at k2;have HS:Hid (∀U:World,Below ((w.alloc (catO (some a) n c)).alloc (.cells #[.slice none 0 0,.slice none 0 0,.slice none 0 0,.slice none 0 0] 28)).heap.size ((w.alloc (catO (some a) n c)).alloc (.cells #[.slice none 0 0,.slice none 0 0,.slice none 0 0,.slice none 0 0] 28)) U ->
  U.cell? ⟨w.heap.size,0,none⟩=some (.slice (some a) n c)∧U.cell? ⟨w.heap.size,1,none⟩=some (.slice none 0 0)∧U.cell? ⟨w.heap.size,2,none⟩=some (.slice none 0 0)∧U.cell? ⟨w.heap.size,3,none⟩=some (.slice none 0 0)):=fun U hU=>by
  have e:=k1.below hU (by simp;omega);exact⟨e.cell 0,e.cell 1,e.cell 2,e.cell 3⟩
 have HK2:=iH k2;clear h k1 k2 hb0;go_enter Tryz.func206,Tryz.ntmps206;go_wp2_with fail;generalize hW:(w.alloc (catO (some a) n c)).alloc (.cells #[.slice none 0 0,.slice none 0 0,.slice none 0 0,.slice none 0 0] 28)=W at *;have hWs:W.heap.size=w.heap.size+2:=by rw[<- hW];simp
 have HWs:=iH hWs;have HW:=iH hW;clear hWs hW
 go_region_held3 (fun U=>U.cell? ⟨w.heap.size,0,none⟩=some (.slice (some a) n c)∧U.cell? ⟨w.heap.size,1,none⟩=some (.slice none 0 0)∧U.cell? ⟨w.heap.size,2,none⟩=some (.slice none 0 0)∧U.cell? ⟨w.heap.size,3,none⟩=some (.slice none 0 0)) (first | exact HS.out _ (Below.refl _ W).drew | exact HS.out _ BA | (rw[cell_far4,cell_far4,cell_far4,cell_far4];exact HS.out _ BA))
  (first
   | (go_at_call 67;(with_reducible refine(HC.out _ (Below.refl _ W).drew).mono ?_);rintro e wA ⟨v,rfl,hoA,hbA⟩;obtain⟨Av,cv,rfl,_,_,_⟩:=row_form hoA;have BA:Below W.heap.size W wA:=(Below.refl W.heap.size W).drew.trans hbA;have KA:=HK2.out.below BA HK2.out.lt;have z0:=KA.cell 0;have z1:=KA.cell 1;have z2:=KA.cell 2;have z3:=KA.cell 3;have f0:=KA.frozen 0;have f1:=KA.frozen 1;have f2:=KA.frozen 2;have f3:=KA.frozen 3;have zl:=KA.lt;have HO:=iH hoA;have HBA:=iH BA;clear hoA hbA KA)
   | (go_at_call 307;(with_reducible refine(each_nil105 _ _).mono ?_);rintro e w' ⟨rfl,rfl⟩)
   | (go_at_call 309;(with_reducible refine(each_nil107 _ _).mono ?_);rintro e w' ⟨rfl,rfl⟩)
   | (go_at_call 311;(with_reducible refine(each_nil109 _ _).mono ?_);rintro e w' ⟨rfl,rfl⟩))
 all_goals go_wp2_with fail
 all_goals
  have k9:=(((((HK2.out.below HBA.out HK2.out.lt).set 0 (.slice Av n cv)).set 1 (.slice none 0 0)).set 2 (.slice none 0 0)).set 3 (.slice none 0 0));have r0:=k9.cell 0;have r1:=k9.cell 1;have r2:=k9.cell 2;have r3:=k9.cell 3;have hB:=HBA.out;rw[HWs.out,<- HW.out]at hB;have hO:=HO.out;rw[show W.drew.heap.size=w.heap.size+2 from HWs.out]at hO;exact bodyPost_ret (v:=.agg #[.slice Av n cv,.slice none 0 0,.slice none 0 0,.slice none 0 0]) (by simp[results,Tryz.results206,go_sem,r0,r1,r2,r3]) rfl (copies_end rfl hO hB)
theorem rewrite_items {w:World} {a:Addr} {n:Nat} (c:Nat) {l:List It} (h:ItemsV w (some a) n l) (Ai:Option Addr) (ni ci F:Nat) (p:Value) :
 Calls Tryz.prog 69 #[catV (some a) n c,.slice Ai ni ci,.func (.func F) #[] #[p]] w fun e w'=>e=.returned (.agg #[.slice Ai ni ci,.slice none 0 0,.slice none 0 0,.slice none 0 0])∧Below w.heap.size w w':=by
 have hb0:Below w.heap.size w (((w.alloc (catO (some a) n c)).alloc (.cells #[.func (.func F) #[] #[p]] 122)).alloc (.cells #[.slice none 0 0,.slice none 0 0,.slice none 0 0,.slice none 0 0] 28)):=(((Below.refl _ _).alloc (Nat.le_refl _) _).alloc (by simp) _).alloc (by simp;omega) _;have KC:=iH (copies_items c (h.below hb0));have k2:=Bk.new ((w.alloc (catO (some a) n c)).alloc (.cells #[.func (.func F) #[] #[p]] 122)) 28 [.slice none 0 0,.slice none 0 0,.slice none 0 0,.slice none 0 0];rw[World.size_alloc,World.size_alloc]at k2;have HK2:=iH k2;clear h k2;go_enter Tryz.func69,Tryz.ntmps69;go_wp2_with fail;refine KC.out.mono ?_;rintro e w1 ⟨v,rfl,ho,hb1⟩;obtain⟨Av,cv,rfl,_,_,_⟩:=row_form ho;have G1:Below w.heap.size w w1:=hb0.trans (hb1.mono (by simp;omega));have k3:=HK2.out.below hb1 (by simp);have z0:=k3.k0;have z1:=k3.k1;have z2:=k3.k2;have z3:=k3.k3;have f0:w1.frozen? ⟨w.heap.size+1+1,0,none⟩=false:=k3.frozen 0;have f1:w1.frozen? ⟨w.heap.size+1+1,1,none⟩=false:=k3.frozen 1;have f2:w1.frozen? ⟨w.heap.size+1+1,2,none⟩=false:=k3.frozen 2;have f3:w1.frozen? ⟨w.heap.size+1+1,3,none⟩=false:=k3.frozen 3;have zl:w.heap.size+1+1<w1.heap.size:=k3.lt;have hne:w.heap.size+1+1≠w1.heap.size:=by omega
 have HK3:=iH k3;clear ho hb1 hb0 KC HK2 k3;go_wp2_with fail;refine wp_loop_rounds 1 ?_;rw[rounds_succ];go_wp2_with fail;refine wp_loop_rounds 1 ?_;rw[rounds_succ];go_wp2_with fail;have k9:=((((HK3.out.set 0 (.slice Ai ni ci)).set 1 (.slice none 0 0)).set 2 (.slice none 0 0)).set 3 (.slice none 0 0)).alloc (.cells #[.slice Ai ni ci,.slice none 0 0,.slice none 0 0,.slice none 0 0] 28);have r0:=k9.cell 0;have r1:=k9.cell 1;have r2:=k9.cell 2;have r3:=k9.cell 3;refine bodyPost_ret (v:=.agg #[.slice Ai ni ci,.slice none 0 0,.slice none 0 0,.slice none 0 0]) (by simp[results,Tryz.results69,go_sem,r0,r1,r2,r3]) rfl ⟨rfl,?_⟩;refine((((G1.setCell (p:=⟨w.heap.size+1+1,0,none⟩) (by simp;omega) _).setCell (p:=⟨w.heap.size+1+1,1,none⟩) (by simp;omega) _).setCell (p:=⟨w.heap.size+1+1,2,none⟩) (by simp;omega) _).setCell (p:=⟨w.heap.size+1+1,3,none⟩) (by simp;omega) _).alloc ?_ _;have:=G1.size;simpa[World.setCell]using this
def mergeIt (ln:List It) (t:It):It:=match idxTo ln ln.length t.name with | some b=>itAt ln b | none=>t
def mergeTo (lo ln:List It) (k:Nat):List It:=(List.range lo.length).map fun i=>if i<k then mergeIt ln (itAt lo i) else itAt lo i
@[simp] theorem mergeTo_length (lo ln : List It) (k : Nat) : (mergeTo lo ln k).length = lo.length := by simp [mergeTo]
theorem itAt_merge (lo ln:List It) (k i:Nat) (hi:i<lo.length):itAt (mergeTo lo ln k) i=if i<k then mergeIt ln (itAt lo i) else itAt lo i:=by simp[itAt,mergeTo,hi]
theorem it_ext {l m:List It} (hl:l.length=m.length) (h:∀i,i<l.length->itAt l i=itAt m i):l=m:=by
 apply List.ext_getElem?;intro i;by_cases hi:i<l.length
 ·have:=h i hi;simp only[itAt,List.getElem?_eq_getElem hi,List.getElem?_eq_getElem (show i<m.length by omega),Option.getD_some]at this;rw[List.getElem?_eq_getElem hi,List.getElem?_eq_getElem (by omega),this]
 ·rw[List.getElem?_eq_none (by omega),List.getElem?_eq_none (by omega)]
theorem mergeTo_zero (lo ln:List It):mergeTo lo ln 0=lo:=it_ext (by simp) fun i hi=>by rw[itAt_merge _ _ _ _ (by simpa using hi),if_neg (by omega)]
theorem itAt_set (l:List It) (k i:Nat) (t:It) (hk:k<l.length):itAt (l.set k t) i=if i=k then t else itAt l i:=by
 by_cases e:i=k
 ·subst e;simp[itAt,hk]
 ·rw[if_neg e];simp only[itAt];rw[List.getElem?_set_ne (fun h=>e h.symm)]
theorem mergeTo_set (lo ln:List It) (k:Nat) (hk:k<lo.length):(mergeTo lo ln k).set k (mergeIt ln (itAt lo k))=mergeTo lo ln (k+1):=by
 refine it_ext (by simp) fun i hi=>?_
 have hi':i<lo.length:=by simpa using hi
 rw[itAt_set _ _ _ _ (by simpa using hk),itAt_merge _ _ _ _ hi',itAt_merge _ _ _ _ hi'];by_cases e:i=k
 ·subst e;rw[if_pos rfl,if_pos (by omega)]
 ·rw[if_neg e];by_cases h2:i<k
  ·rw[if_pos h2,if_pos (by omega)]
  ·rw[if_neg h2,if_neg (by omega)]
theorem mergeTo_skip (lo ln:List It) (k:Nat) (hk:k<lo.length) (h:mergeIt ln (itAt lo k)=itAt lo k):mergeTo lo ln k=mergeTo lo ln (k+1):=by
 refine it_ext (by simp) fun i hi=>?_
 have hi':i<lo.length:=by simpa using hi
 rw[itAt_merge _ _ _ _ hi',itAt_merge _ _ _ _ hi'];by_cases e:i=k
 ·subst e;rw[if_neg (by omega),if_pos (by omega),h]
 ·by_cases h2:i<k
  ·rw[if_pos h2,if_pos (by omega)]
  ·rw[if_neg h2,if_neg (by omega)]
def newTo (lo ln:List It):Nat->List It
 | 0=>[]
 | k+1=>if(idxTo lo lo.length (itAt ln k).name).isSome then newTo lo ln k else newTo lo ln k ++ [itAt ln k]
def mergeL (lo ln:List It) (k:Nat):List It:=mergeTo lo ln lo.length ++ newTo lo ln k
theorem icells_set (l:List It) (k:Nat) (t:It) (h:k<l.length):icells (l.set k t)=(((((((icells l).set (k*7) (.string t.name)).set (k*7+1) (.bool t.object)).set (k*7+2) (.bool t.mixed)).set (k*7+3) (.bool t.coin)).set (k*7+4) (.int .i64 t.wear)).set (k*7+5) (.int .i64 t.bnd)).set (k*7+6) (.int .i64 t.level):=by
 induction l generalizing k with
 | nil=>simp at h
 | cons a l ih =>
   cases k with
   | zero=>simp[icells]
   | succ k =>
     have:=ih k (by simpa using h);have e:(k+1)*7=k*7+1+1+1+1+1+1+1:=by omega
     rw[List.set_cons_succ,icells_cons,this,icells_cons,e];simp[List.set_cons_succ]
section
abbrev nilS:Value:=.slice none 0 0
structure MgAt (w W : World) (so sx : Sl) (bo bn : Nat) (lo ln : List It) (v : Value) (its : List It) : Prop where
 mo:MapI W bo so.n (idxTo lo so.n)
 mn:MapI W bn sx.n (idxTo ln sx.n)
 b1:Bk W w.heap.size 28 [.slice so.A so.n so.c,nilS,nilS,nilS]
 b2:Bk W (w.heap.size+1) 28 [.slice sx.A sx.n sx.c,nilS,nilS,nilS]
 b3:Bk W (w.heap.size+2) 28 [nilS,nilS,nilS,nilS]
 own:W.ownsRow (w.heap.size+3) 42 7 v its.length (icells its)
 below:Below w.heap.size w W
section
variable {w W W' : World} {so sx : Sl} {bo bn : Nat} {lo ln : List It} {v : Value} {its : List It}
theorem MgAt.grow (h:MgAt w W so sx bo bn lo ln v its) (hb:Below W.heap.size W W'):MgAt w W' so sx bo bn lo ln v its :=
 ⟨h.mo.below hb,h.mn.below hb,h.b1.below hb h.b1.lt,h.b2.below hb h.b2.lt,h.b3.below hb h.b3.lt,h.own.kept (grown_of_below hb none) (by cases v.ownBlock <;> simp),h.below.trans (hb.mono h.below.size)⟩
theorem MapI.ne_row {b n:Nat} {M:ByteArray->Option Nat} {base e size m:Nat} {u:Value} {xs:List Value} (h:MapI W b n M) (ho:W.ownsRow base e size u m xs):some b≠u.ownBlock:=by
 intro e1;obtain⟨D,⟨es,clock,hh,_⟩,_⟩:=h;rcases ho.2 with ⟨rfl,_⟩|⟨g,cap,cur,rfl,_,hg,_⟩
 ·simp[Value.ownBlock]at e1
 ·simp[Value.ownBlock]at e1;subst e1;rw[hh]at hg;cases hg
theorem MgAt.turn {its':List It} {v':Value} (h:MgAt w W so sx bo bn lo ln v its) (hg:W.grownBy W' v.ownBlock) (ho:W'.ownsRow (w.heap.size+3) 42 7 v' its'.length (icells its')):MgAt w W' so sx bo bn lo ln v' its':=by
 have hr:=row_base h.own;refine⟨h.mo.kept hg (h.mo.ne_row h.own),h.mn.kept hg (h.mn.ne_row h.own),h.b1.grown hg ?_,h.b2.grown hg ?_,h.b3.grown hg ?_,ho,h.below.grown hg h.below.size (fun g e=>by have:=hr g e;omega)⟩
 ·intro e;have:=hr _ e.symm;omega
 ·intro e;have:=hr _ e.symm;omega
 ·intro e;have:=hr _ e.symm;omega
theorem MgAt.setIt {g cap:Nat} (h:MgAt w W so sx bo bn lo ln (.slice (some ⟨g,0,none⟩) its.length cap) its) (k:Nat) (t:It) (hk:k<its.length) :
 MgAt w (((((((W.setCell ⟨g,k*7,none⟩ (.string t.name)).setCell ⟨g,k*7+1,none⟩ (.bool t.object)).setCell ⟨g,k*7+2,none⟩ (.bool t.mixed)).setCell ⟨g,k*7+3,none⟩ (.bool t.coin)).setCell ⟨g,k*7+4,none⟩ (.int .i64 t.wear)).setCell ⟨g,k*7+5,none⟩ (.int .i64 t.bnd)).setCell ⟨g,k*7+6,none⟩ (.int .i64 t.level)) so sx bo bn lo ln (.slice (some ⟨g,0,none⟩) its.length cap) (its.set k t):=by
 have hr:=row_base h.own g rfl;have o7:=(((((((h.own.stored (k*7) (.string t.name)).1.stored (k*7+1) (.bool t.object)).1.stored (k*7+2) (.bool t.mixed)).1.stored (k*7+3) (.bool t.coin)).1.stored (k*7+4) (.int .i64 t.wear)).1.stored (k*7+5) (.int .i64 t.bnd)).1.stored (k*7+6) (.int .i64 t.level)).1;rw[<- icells_set its k t hk]at o7;have hl:(its.set k t).length=its.length:=by simp
 refine⟨?_,?_,?_,?_,?_,by rw[hl];exact o7,?_⟩
 ·have hne:some bo≠some g:=h.mo.ne_row h.own;exact((((((h.mo.kept (grown_setCell W g _ _) hne).kept (grown_setCell _ g _ _) hne).kept (grown_setCell _ g _ _) hne).kept (grown_setCell _ g _ _) hne).kept (grown_setCell _ g _ _) hne).kept (grown_setCell _ g _ _) hne).kept (grown_setCell _ g _ _) hne
 ·have hne:some bn≠some g:=h.mn.ne_row h.own;exact((((((h.mn.kept (grown_setCell W g _ _) hne).kept (grown_setCell _ g _ _) hne).kept (grown_setCell _ g _ _) hne).kept (grown_setCell _ g _ _) hne).kept (grown_setCell _ g _ _) hne).kept (grown_setCell _ g _ _) hne).kept (grown_setCell _ g _ _) hne
 ·have hne:w.heap.size≠g:=by omega
  exact((((((h.b1.far hne _).far hne _).far hne _).far hne _).far hne _).far hne _).far hne _
 ·have hne:w.heap.size+1≠g:=by omega
  exact((((((h.b2.far hne _).far hne _).far hne _).far hne _).far hne _).far hne _).far hne _
 ·have hne:w.heap.size+2≠g:=by omega
  exact((((((h.b3.far hne _).far hne _).far hne _).far hne _).far hne _).far hne _).far hne _
 ·have hle:w.heap.size<=g:=by omega
  exact((((((h.below.setCell (p:=⟨g,_,none⟩) hle _).setCell (p:=⟨g,_,none⟩) hle _).setCell (p:=⟨g,_,none⟩) hle _).setCell (p:=⟨g,_,none⟩) hle _).setCell (p:=⟨g,_,none⟩) hle _).setCell (p:=⟨g,_,none⟩) hle _).setCell (p:=⟨g,_,none⟩) hle _
end
def MergePost (w:World) (l:List It) (e:Ending) (w':World):Prop :=
 ∃A c,e=.returned (.tuple #[.agg #[.slice A l.length c,nilS,nilS,nilS],.int .i64 0])∧Row w' w'.heap.size A (icells l)∧Below w.heap.size w w'
theorem row_ne {W:World} {base:Nat} {e t:TypeId} {size n g:Nat} {v:Value} {xs ys:List Value} (h:W.ownsRow base e size v n xs) (hg:Bk W g t ys) (hne:e≠t):v.ownBlock≠some g:=by
 rcases h.2 with ⟨rfl,_⟩|⟨g',cap,cur,rfl,_,hh,_⟩
 ·simp[Value.ownBlock]
 ·intro he;have:g'=g:=by simpa[Value.ownBlock]using he
  subst this;unfold Bk at hg;rw[hg]at hh;cases hh;exact hne rfl
theorem MgAt.setP {w W:World} {so sx:Sl} {bo bn:Nat} {lo ln:List It} {v:Value} {its:List It} {g t:Nat} {xs:List Value} (h:MgAt w W so sx bo bn lo ln v its) (hk:Bk W g t xs) (ht:42≠t) (hg:w.heap.size+3<=g) (j:Nat) (u:Value):MgAt w (W.setCell ⟨g,j,none⟩ u) so sx bo bn lo ln v its:=by
 have gr:=grown_setCell W g j u;exact⟨h.mo.kept gr (fun e=>h.mo.ne_bk hk (Option.some.inj e)),h.mn.kept gr (fun e=>h.mn.ne_bk hk (Option.some.inj e)),h.b1.far (by simp;omega) _,h.b2.far (by simp;omega) _,h.b3.far (by simp;omega) _,h.own.kept gr (.inr (row_ne h.own hk ht)),h.below.setCell (by simp;omega) _⟩
theorem mergeL_succ_old {lo ln:List It} {k:Nat} (h:(idxTo lo lo.length (itAt ln k).name).isSome=true):mergeL lo ln (k+1)=mergeL lo ln k:=by simp[mergeL,newTo,h]
theorem mergeL_succ_new {lo ln:List It} {k:Nat} (h:(idxTo lo lo.length (itAt ln k).name).isSome=false):mergeL lo ln (k+1)=mergeL lo ln k ++ [itAt ln k]:=by simp[mergeL,newTo,h]
theorem newTo_le (lo ln:List It) (k:Nat):(newTo lo ln k).length<=k:=by
 induction k with
 | zero=>simp[newTo]
 | succ k ih =>
   simp only[newTo];split
   ·omega
   ·simp;omega
theorem mergeL_le (lo ln:List It) (k:Nat):(mergeL lo ln k).length<=lo.length+k:=by
 have:=newTo_le lo ln k;simp[mergeL];omega
theorem new7a (w:World) (t:TypeId) (a b c d e f g:Value):∀j u,([a,b,c,d,e,f,g]:List Value)[j]? = some u->(w.alloc (.cells #[a,b,c,d,e,f,g] t)).cell? ((⟨w.heap.size,0,none⟩:Addr).add j)=some u:=by
 intro j u hj
 match j,hj with
 | 0,hj=>simp at hj;subst hj;simp[Addr.add]
 | 1,hj=>simp at hj;subst hj;simp[Addr.add]
 | 2,hj=>simp at hj;subst hj;simp[Addr.add]
 | 3,hj=>simp at hj;subst hj;simp[Addr.add]
 | 4,hj=>simp at hj;subst hj;simp[Addr.add]
 | 5,hj=>simp at hj;subst hj;simp[Addr.add]
 | 6,hj=>simp at hj;subst hj;simp[Addr.add]
 | j+7,hj=>simp at hj
theorem merge_end {w W w':World} {so sx:Sl} {bo bn n c:Nat} {A:Option Addr} {lo ln its:List It} {u0 u1 u2 u3:Value} (h:MgAt w W so sx bo bn lo ln (.slice A n c) its) (hn:n=its.length) (hb:Below W.heap.size W w') :
 MergePost w its (.returned (.tuple #[.agg #[.slice A n c,nilS,nilS,nilS],.int .i64 0])) ((((w'.setCell ⟨w.heap.size+2,0,none⟩ u0).setCell ⟨w.heap.size+2,1,none⟩ u1).setCell ⟨w.heap.size+2,2,none⟩ u2).setCell ⟨w.heap.size+2,3,none⟩ u3):=by
 have h2:=h.grow hb;have hx:∀(X:World) (j:Nat) (u:Value),X.ownsRow (w.heap.size+3) 42 7 (.slice A n c) its.length (icells its)->(X.setCell ⟨w.heap.size+2,j,none⟩ u).ownsRow (w.heap.size+3) 42 7 (.slice A n c) its.length (icells its):=fun X j u h =>
  h.kept (grown_setCell X _ j u) (.inr (ne_row h (by omega)))
 have h4:=hx _ 3 u3 (hx _ 2 u2 (hx _ 1 u1 (hx _ 0 u0 h2.own)));obtain⟨A',c',e,hr⟩:=row_of_owns h4;cases e;refine⟨A,c,by rw[hn],hr,?_⟩;exact(((h2.below.setCell (p:=⟨w.heap.size+2,0,none⟩) (by simp) _).setCell (p:=⟨w.heap.size+2,1,none⟩) (by simp) _).setCell (p:=⟨w.heap.size+2,2,none⟩) (by simp) _).setCell (p:=⟨w.heap.size+2,3,none⟩) (by simp) _
theorem Merge_ok {w : World} {ao ax : Addr} {no nx : Nat} (co cx : Nat) {lo ln : List It} (ho : CatV w (some ao) no lo) (hn : CatV w (some ax) nx ln) (hE : ∀ k, k < no -> keepErr ln (itAt lo k) = 0) (h64 : no + nx <= 64) (h1 : 0 < no) :
 Calls Tryz.prog 14 #[catV (some ao) no co,catV (some ax) nx cx] w (MergePost w (mergeL lo ln nx)):=by
 obtain⟨i0,hi,hz0,hz1,hz2⟩:=info_parts info42;have Ho:=iH ho;have Hn:=iH hn;have HE:=iH hE;have Hlo:=iH ho.items.len;have Hln:=iH hn.items.len;clear ho hn hE;have hb0:Below w.heap.size w (((w.alloc (catO (some ao) no co)).alloc (catO (some ax) nx cx)).alloc (.cells #[nilS,nilS,nilS,nilS] 28)):=(((Below.refl _ _).alloc (Nat.le_refl _) _).alloc (by simp) _).alloc (by simp;omega) _;have k0:=((Bk.new w 28 (catL (some ao) no co)).alloc (catO (some ax) nx cx)).alloc (.cells #[nilS,nilS,nilS,nilS] 28);have k0':=(Bk.new (w.alloc (catO (some ao) no co)) 28 (catL (some ax) nx cx)).alloc (.cells #[nilS,nilS,nilS,nilS] 28);have k0'':=Bk.new ((w.alloc (catO (some ao) no co)).alloc (catO (some ax) nx cx)) 28 [nilS,nilS,nilS,nilS];rw[World.size_alloc]at k0';rw[World.size_alloc,World.size_alloc]at k0'';have HV:=iH (both_items co cx (Ho.out.below hb0) (Hn.out.below hb0));have HK0:=iH k0;have HK0':=iH k0';have HK0'':=iH k0'';clear k0 k0' k0'';go_enter Tryz.func14,Tryz.ntmps14;go_wp2_with fail;refine HV.out.mono ?_;rintro e w1 ⟨rfl,hb1⟩;have K1:=iH (HK0.out.below hb1 (by simp;omega));have K2:=iH (HK0'.out.below hb1 (by simp));have K3:=iH (HK0''.out.below hb1 (by simp));have G1:Below w.heap.size w w1:=hb0.trans (hb1.mono (by simp;omega));have N1:Hid (∀W:World,Below w1.heap.size w1 W->Calls Tryz.prog 66 #[catV (some ao) no co] W (NamesPost W lo no)):=fun W hW=>names_any (i:=⟨some ao,no,co⟩) (r:=⟨none,0,0⟩) (t:=⟨none,0,0⟩) (x:=⟨none,0,0⟩) (Ho.out.items.below (G1.trans (hW.mono G1.size)))
 have N2:Hid (∀W:World,Below w1.heap.size w1 W->Calls Tryz.prog 66 #[catV (some ax) nx cx] W (NamesPost W ln nx)):=fun W hW=>names_any (i:=⟨some ax,nx,cx⟩) (r:=⟨none,0,0⟩) (t:=⟨none,0,0⟩) (x:=⟨none,0,0⟩) (Hn.out.items.below (G1.trans (hW.mono G1.size)))
 have HC:Hid (∀U:World,Below w1.heap.size w1 U->(U.cell? ⟨w.heap.size,0,none⟩=some (.slice (some ao) no co)∧U.cell? ⟨w.heap.size,1,none⟩=some nilS∧U.cell? ⟨w.heap.size,2,none⟩=some nilS∧U.cell? ⟨w.heap.size,3,none⟩=some nilS ∧
  U.cell? ⟨w.heap.size+1,0,none⟩=some (.slice (some ax) nx cx)∧U.cell? ⟨w.heap.size+1,1,none⟩=some nilS∧U.cell? ⟨w.heap.size+1,2,none⟩=some nilS∧U.cell? ⟨w.heap.size+1,3,none⟩=some nilS)):=fun U hU=>by
  have q1:=K1.out.below hU K1.out.lt;have q2:=K2.out.below hU K2.out.lt;exact⟨q1.cell 0,q1.cell 1,q1.cell 2,q1.cell 3,q2.cell 0,q2.cell 1,q2.cell 2,q2.cell 3⟩
 obtain⟨p0,p1,p2,p3,r0,r1,r2,r3⟩:=HC.out w1 (Below.refl _ _);clear hb1 hb0 HK0 HK0' HK0'' HV;go_wp2_with fail;go_cut [7,8] (fun a b wx=>∃bo bn,a=.map (some bo)∧b=.map (some bn)∧MapI wx bo no (idxTo lo no)∧MapI wx bn nx (idxTo ln nx)∧Below w1.heap.size w1 wx)
 case first =>
  go_region_with (first
   | (go_at_call 66;(with_reducible refine(N1.out _ ?_).mono ?_);(first | exact(Below.refl _ _).drew | exact GB);rintro e wA ⟨b,rfl,hm,hge,hba⟩;(first | (have GC:=GB.trans (hba.mono GB.size);have hm1:=hm;have hm2:=hmB.below hba) | (have GA:=(Below.refl w1.heap.size w1).drew.trans hba;have hmA:=hm;obtain⟨p0,p1,p2,p3,r0,r1,r2,r3⟩:=HC.out _ GA)))
   | (go_at_call 66;(with_reducible refine(N2.out _ ?_).mono ?_);(first | exact(Below.refl _ _).drew | exact GA);rintro e wA ⟨b,rfl,hm,hge,hba⟩;(first | (have GC:=GA.trans (hba.mono GA.size);have hm2:=hm;have hm1:=hmA.below hba) | (have GB:=(Below.refl w1.heap.size w1).drew.trans hba;have hmB:=hm;obtain⟨p0,p1,p2,p3,r0,r1,r2,r3⟩:=HC.out _ GB))))
  all_goals (try go_wp2_with fail)
  all_goals go_meet
  all_goals exact⟨_,_,rfl,rfl,hm1,hm2,GC⟩
 case rest =>
  obtain⟨bo,bn,rfl,rfl,hm1,hm2,hbc⟩:=hcut;obtain⟨q0,q1,q2,q3,q4,q5,q6,q7⟩:=HC.out _ hbc;have G2:=G1.trans (hbc.mono G1.size);have KC:=iH (clone_items (c:=co) (Ho.out.items.below G2) Ho.out.items.small);have K1':=iH (K1.out.below hbc K1.out.lt);have K2':=iH (K2.out.below hbc K2.out.lt);have K3':=iH (K3.out.below hbc K3.out.lt);have HM1:=iH hm1;have HM2:=iH hm2;clear hm1 hm2 hbc p0 p1 p2 p3 r0 r1 r2 r3 N1 N2 HC K1 K2 K3 G1;go_wp2_with fail;refine KC.out.mono ?_;rintro e wB ⟨v,rfl,hoB,hbB⟩;have hs3:w.heap.size+3<=wc.heap.size:=K3'.out.lt;have S0:MgAt w wB ⟨some ao,no,co⟩ ⟨some ax,nx,cx⟩ bo bn lo ln v (mergeTo lo ln 0) :=
   ⟨HM1.out.below hbB,HM2.out.below hbB,K1'.out.below hbB K1'.out.lt,K2'.out.below hbB K2'.out.lt,K3'.out.below hbB K3'.out.lt,by rw[mergeTo_zero,<- Hlo.out];exact⟨hoB.1,hoB.2.imp id fun⟨g,cap,cur,h1,h2,h3⟩=>⟨g,cap,cur,h1,by omega,h3⟩⟩,G2.trans (hbB.mono G2.size)⟩
  obtain⟨gi,cap,rfl⟩:=row_some hoB h1;have HS0:=iH S0;clear S0 hoB hbB KC K1' K2' K3' HM1 HM2 q0 q1 q2 q3 q4 q5 q6 q7 G2 hs3;go_wp2_with fail;go_loopw [35] (fun i wr=>∃k:Nat,k<=no∧i=.int .i64 k∧MgAt w wr ⟨some ao,no,co⟩ ⟨some ax,nx,cx⟩ bo bn lo ln (.slice (some ⟨gi,0,none⟩) no cap) (mergeTo lo ln k)) (fun i _=>no-(intOf i).toNat)
  case atStart=>exact⟨0,Nat.zero_le _,rfl,HS0.out⟩
  case round =>
   obtain⟨k,hk,rfl,hA⟩:=hrel;have HA:=iH hA;clear hA HS0;by_cases hlt:k<no
   ·have hkl:k<lo.length:=by have:=Hlo.out;omega
    have hlen:(mergeTo lo ln k).length=no:=by simp[Hlo.out]
    have hown:=HA.out.own;rw[hlen]at hown;have hit:itAt (mergeTo lo ln k) k=itAt lo k:=by rw[itAt_merge _ _ _ _ hkl,if_neg (by omega)]
    have gc:=fun r (hr:r<7)=>(hown.cellAt (k*7+r) (by omega)).trans (icells_get (mergeTo lo ln k) k r (by rw[hlen];exact hlt) hr)
    rw[hit]at gc;have c0:wr.cell? ⟨gi,k*7,none⟩=some (.string (itAt lo k).name):=gc 0 (by omega);have c1:wr.cell? ⟨gi,k*7+1,none⟩=some (.bool (itAt lo k).object):=gc 1 (by omega);have c2:wr.cell? ⟨gi,k*7+2,none⟩=some (.bool (itAt lo k).mixed):=gc 2 (by omega);have c3:wr.cell? ⟨gi,k*7+3,none⟩=some (.bool (itAt lo k).coin):=gc 3 (by omega);have c4:wr.cell? ⟨gi,k*7+4,none⟩=some (.int .i64 (itAt lo k).wear):=gc 4 (by omega);have c5:wr.cell? ⟨gi,k*7+5,none⟩=some (.int .i64 (itAt lo k).bnd):=gc 5 (by omega);have c6:wr.cell? ⟨gi,k*7+6,none⟩=some (.int .i64 (itAt lo k).level):=gc 6 (by omega);have hgi:gi<wr.heap.size:=(hown.lt gi rfl).2;have hpm:=plain_max (Ho.out.items.name _ (itAt_mem hkl));have HA1:=iH (HA.out.grow ((Below.refl _ wr).alloc (Nat.le_refl _) (.cells #[.string (itAt lo k).name,.bool (itAt lo k).object,.bool (itAt lo k).mixed,.bool (itAt lo k).coin,.int .i64 (itAt lo k).wear,.int .i64 (itAt lo k).bnd,.int .i64 (itAt lo k).level] 42)));have HX:=iH (Bk.new wr 42 [.string (itAt lo k).name,.bool (itAt lo k).object,.bool (itAt lo k).mixed,.bool (itAt lo k).coin,.int .i64 (itAt lo k).wear,.int .i64 (itAt lo k).bnd,.int .i64 (itAt lo k).level]);have lk:=HA1.out.mn.look hpm;have Hsk:=iH (mergeTo_skip lo ln k hkl);have Hse:=iH (mergeTo_set lo ln k hkl);have hke:=HE.out k hlt;have Hmi:Hid (mergeIt ln (itAt lo k)=match idxTo ln nx (itAt lo k).name with | some b=>itAt ln b | none=>itAt lo k):=by show mergeIt ln (itAt lo k)=_;rw[Hln.out];rfl
    have Hke:Hid ((match idxTo ln nx (itAt lo k).name with | some b=>if alikeB (itAt lo k) (itAt ln b)=false then 9 else 0 | none=>0)=(0:Int)):=by show _=_;rw[Hln.out];exact hke
    have Hlen:=iH hlen;have k0:(0:Int)<=(k:Int):=by omega
    have k1:(k:Int)<(no:Int):=by omega
    clear hkl hlen hown hit gc hke HA;generalize itAt lo k=ta at *;cases hb:idxTo ln nx ta.name with
    | none =>
      rw[hb]at lk Hmi;dsimp only at Hmi;have Hs2:=iH (Hsk.out Hmi.out);simp only[Option.isSome_none,Option.getD_none]at lk;obtain⟨n1,o1,m1,c1',w1',b1,l1⟩:=ta;dsimp only at *;clear hb Hke Hse Hsk Hmi;go_wp2_with fail;go_roundw
      case rel=>exact⟨k+1,by omega,by go_num,by rw[<- Hs2.out];exact HA1.out⟩
      case measure=>simp[intOf];omega
    | some b' =>
      have hb1:=(idxTo_lt hb).1;rw[hb]at lk Hmi Hke;dsimp only at Hmi Hke;rw[Hmi.out]at Hse;have hal:alikeB ta (itAt ln b')=true:=by
       cases hq:alikeB ta (itAt ln b')
       ·have:=Hke.out;rw[if_pos hq]at this;exact absurd this (by decide)
       ·rfl
      simp only[Option.isSome_some,Option.getD_some]at lk;have AK0:=fun U:World=>alike_any ta (itAt ln b') U
      rw[hal]at AK0;have AK:=iH AK0;clear hb Hke Hsk Hmi hal AK0;have i2:(0:Int)<=(b':Int):=by omega
      have i3:(b':Int)<(nx:Int):=by omega
      obtain⟨bp,op,hax,hbp,pc0,pc1,pc2,pc3,pc4,pc5,pc6⟩:=(Hn.out.items.below HA1.out.below).at_ b' hb1;cases hax;have p0:=HA1.out.b2.cell 0;generalize itAt ln b'=tb at *;obtain⟨n1,o1,m1,c1',w1',b1,l1⟩:=ta;obtain⟨n2,o2,m2,c2',w2',b2,l2⟩:=tb;dsimp only at *;have x0:=HX.out.cell 0;have x1:=HX.out.cell 1;have x2:=HX.out.cell 2;have x3:=HX.out.cell 3;have x4:=HX.out.cell 4;have x5:=HX.out.cell 5;have x6:=HX.out.cell 6;go_wp2_with fail;generalize wr.alloc (.cells #[.string n1,.bool o1,.bool m1,.bool c1',.int .i64 w1',.int .i64 b1,.int .i64 l1] 42)=W at *;clear c0 c1 c2 c3 c4 c5 c6 hgi lk;generalize wr.heap.size=gx at *;go_still_tail 6,(by kernel_rfl);change wpList _ _ _ _ _ W.drew;go_wp2_with fail;refine(AK.out _).mono ?_;rintro e wA ⟨rfl,hbA⟩;have BA:Below W.heap.size W wA:=(Below.refl W.heap.size W).drew.trans hbA;have HA3:=iH (HA1.out.grow BA);have s0:=HA3.out.b2.cell 0;have t0:wA.cell? ⟨bp,op+b'*7,none⟩=some (.string n2):=(BA.cell (p:=⟨bp,_,none⟩) hbp).trans pc0;have t1:wA.cell? ⟨bp,op+b'*7+1,none⟩=some (.bool o2):=(BA.cell (p:=⟨bp,_,none⟩) hbp).trans pc1;have t2:wA.cell? ⟨bp,op+b'*7+2,none⟩=some (.bool m2):=(BA.cell (p:=⟨bp,_,none⟩) hbp).trans pc2;have t3:wA.cell? ⟨bp,op+b'*7+3,none⟩=some (.bool c2'):=(BA.cell (p:=⟨bp,_,none⟩) hbp).trans pc3;have t4:wA.cell? ⟨bp,op+b'*7+4,none⟩=some (.int .i64 w2'):=(BA.cell (p:=⟨bp,_,none⟩) hbp).trans pc4;have t5:wA.cell? ⟨bp,op+b'*7+5,none⟩=some (.int .i64 b2):=(BA.cell (p:=⟨bp,_,none⟩) hbp).trans pc5;have t6:wA.cell? ⟨bp,op+b'*7+6,none⟩=some (.int .i64 l2):=(BA.cell (p:=⟨bp,_,none⟩) hbp).trans pc6;have ho3:=HA3.out.own;rw[Hlen.out]at ho3;have hg3:gi<wA.heap.size:=(ho3.lt gi rfl).2;have ex:=fun r (hr:r<7)=>(ho3.cellAt (k*7+r) (by omega)).trans (icells_get (mergeTo lo ln k) k r (by rw[Hlen.out];exact hlt) hr)
      generalize itAt (mergeTo lo ln k) k=tq at *;obtain⟨y1,y2,y3,y4,y5,y6,y7⟩:=tq;have e0:wA.cell? ⟨gi,k*7,none⟩=some (.string y1):=ex 0 (by omega);have e1:wA.cell? ⟨gi,k*7+1,none⟩=some (.bool y2):=ex 1 (by omega);have e2:wA.cell? ⟨gi,k*7+2,none⟩=some (.bool y3):=ex 2 (by omega);have e3:wA.cell? ⟨gi,k*7+3,none⟩=some (.bool y4):=ex 3 (by omega);have e4:wA.cell? ⟨gi,k*7+4,none⟩=some (.int .i64 y5):=ex 4 (by omega);have e5:wA.cell? ⟨gi,k*7+5,none⟩=some (.int .i64 y6):=ex 5 (by omega);have e6:wA.cell? ⟨gi,k*7+6,none⟩=some (.int .i64 y7):=ex 6 (by omega);have z0:=ho3.frozenAt (k*7);have z1:=ho3.frozenAt (k*7+1);have z2:=ho3.frozenAt (k*7+2);have z3:=ho3.frozenAt (k*7+3);have z4:=ho3.frozenAt (k*7+4);have z5:=ho3.frozenAt (k*7+5);have z6:=ho3.frozenAt (k*7+6);have hset:MgAt w (((((((wA.setCell ⟨gi,k*7,none⟩ (.string n2)).setCell ⟨gi,k*7+1,none⟩ (.bool o2)).setCell ⟨gi,k*7+2,none⟩ (.bool m2)).setCell ⟨gi,k*7+3,none⟩ (.bool c2')).setCell ⟨gi,k*7+4,none⟩ (.int .i64 w2')).setCell ⟨gi,k*7+5,none⟩ (.int .i64 b2)).setCell ⟨gi,k*7+6,none⟩ (.int .i64 l2)) ⟨some ao,no,co⟩ ⟨some ⟨bp,op,none⟩,nx,cx⟩ bo bn lo ln (.slice (some ⟨gi,0,none⟩) no cap) (mergeTo lo ln (k+1)):=by
       have hx:=HA3.out;rw[<- Hlen.out]at hx;have h2:=hx.setIt k ⟨n2,o2,m2,c2',w2',b2,l2⟩ (by rw[Hlen.out];exact hlt);rw[Hse.out,Hlen.out]at h2;exact h2
      have HF:=iH hset;clear hset ho3 ex pc0 pc1 pc2 pc3 pc4 pc5 pc6 x0 x1 x2 x3 x4 x5 x6 p0 hbA BA HA3 HA1 HX;go_wp2_with fail;go_roundw
      case rel=>exact⟨k+1,by omega,by go_num,HF.out⟩
      case measure=>simp[intOf];omega
   ·obtain rfl:no=k:=by omega
    have hA0:=HA.out;have hmL:mergeTo lo ln no=mergeL lo ln 0:=by simp[mergeL,newTo,Hlo.out]
    rw[hmL]at hA0;have q4:=hA0.b2.k0;have hl1:=hA0.b1.lt;have hl2:=hA0.b2.lt;have hl3:=hA0.b3.lt;have mk:=fun W=>make_ints nx (by omega) W
    have hgw:Below wr.heap.size wr ((wr.alloc (.cells (ints (List.replicate nx 0)).toArray 3)).alloc (.cells #[.slice (some ⟨wr.heap.size,0,none⟩) nx nx] 22)):=((Below.refl _ _).alloc (Nat.le_refl _) _).alloc (by simp) _;have HS:=iH (hA0.grow hgw);have kp:=(Bk.new wr 3 (ints (List.replicate nx 0))).alloc (.cells #[.slice (some ⟨wr.heap.size,0,none⟩) nx nx] 22);have kb:=Bk.new (wr.alloc (.cells (ints (List.replicate nx 0)).toArray 3)) 22 [.slice (some ⟨wr.heap.size,0,none⟩) nx nx];rw[World.size_alloc]at kb;have KP:=iH kp;have KB:=iH kb;have hgp:w.heap.size+3<=wr.heap.size:=by omega
    clear hA0 hmL hgw kp kb HA;go_wp2_with fail;generalize(wr.alloc (.cells (ints (List.replicate nx 0)).toArray 3)).alloc (.cells #[.slice (some ⟨wr.heap.size,0,none⟩) nx nx] 22)=W0 at *;have hgb:w.heap.size+3<=wr.heap.size+1:=by omega
    have hgbp:wr.heap.size+1≠wr.heap.size:=by omega
    generalize wr.heap.size+1=gb at *;generalize wr.heap.size=gp at *;clear q4 mk hl1 hl2 hl3;go_loopw [9,74] (fun x i wz=>∃k:Nat,k<=nx∧i=.int .i64 k∧MgAt w wz ⟨some ao,no,co⟩ ⟨some ax,nx,cx⟩ bo bn lo ln x (mergeL lo ln k)∧Bk wz gb 22 [.slice (some ⟨gp,0,none⟩) nx nx]∧∃pl:List Int,pl.length=nx∧Bk wz gp 3 (ints pl)) (fun _ i _=>nx-(intOf i).toNat)
    case atStart=>exact⟨0,Nat.zero_le _,rfl,HS.out,KB.out,_,by simp,KP.out⟩
    case round =>
     obtain⟨k,hk,rfl,hA,kb,pl,hpl,kp⟩:=hrel;have HA:=iH hA;have KB1:=iH kb;have KP1:=iH kp;have Hpl:=iH hpl;clear hA kb kp hpl HS KB KP;have hll:=mergeL_le lo ln k;rw[<- Hlo.out]at hll;by_cases hlt:k<nx
     ·have hkl:k<ln.length:=by have:=Hln.out;omega
      obtain⟨bp,op,hax,hbp,pc0,pc1,pc2,pc3,pc4,pc5,pc6⟩:=(Hn.out.items.below HA.out.below).at_ k hlt;cases hax;have hpm:=plain_max (Hn.out.items.name _ (itAt_mem hkl));have HA1:=iH (HA.out.grow ((Below.refl _ wr).alloc (Nat.le_refl _) (.cells #[.string (itAt ln k).name,.bool (itAt ln k).object,.bool (itAt ln k).mixed,.bool (itAt ln k).coin,.int .i64 (itAt ln k).wear,.int .i64 (itAt ln k).bnd,.int .i64 (itAt ln k).level] 42)));have lk:=HA1.out.mo.look hpm;have Hso:Hid ((idxTo lo no (itAt ln k).name).isSome=true->mergeL lo ln (k+1)=mergeL lo ln k):=fun h=>mergeL_succ_old (by rw[<- Hlo.out];exact h)
      have Hsn:Hid ((idxTo lo no (itAt ln k).name).isSome=false->mergeL lo ln (k+1)=mergeL lo ln k ++ [itAt ln k]):=fun h=>mergeL_succ_new (by rw[<- Hlo.out];exact h)
      have HX:=iH (Bk.new wr 42 [.string (itAt ln k).name,.bool (itAt ln k).object,.bool (itAt ln k).mixed,.bool (itAt ln k).coin,.int .i64 (itAt ln k).wear,.int .i64 (itAt ln k).bnd,.int .i64 (itAt ln k).level]);have k0:(0:Int)<=(k:Int):=by omega
      have k1:(k:Int)<(nx:Int):=by omega
      obtain⟨Ax9,cx9,hx9,_,_,_⟩:=row_form HA.out.own;subst hx9;clear hkl;generalize itAt ln k=tb at *;obtain⟨n2,o2,m2,c2',w2',b2,l2⟩:=tb;dsimp only at *;have hgpl:gp<wr.heap.size:=KP1.out.lt;have hgbl:gb<wr.heap.size:=KB1.out.lt;have hpc:∀X:World,Bk X gp 3 (ints pl)->X.cell? ⟨gp,k,none⟩=some (.int .i64 (wAt pl k)):=fun X hX=>(hX.cell k).trans (ints_at pl k (by rw[Hpl.out];exact hlt))
      cases hb:idxTo lo no n2 with
      | some a =>
        rw[hb]at lk Hso;simp only[Option.isSome_some,Option.getD_some]at lk;have Hs:=iH (Hso.out rfl);have y0:=KB1.out.k0;have y1:=hpc _ KP1.out;have y2:=KP1.out.frozen k;have hF:=(HA.out.setP KP1.out (by decide) hgp k (.int .i64 (a:Int))).grow ((Below.refl _ _).alloc (Nat.le_refl _) (.cells #[.string n2,.bool o2,.bool m2,.bool c2',.int .i64 w2',.int .i64 b2,.int .i64 l2] 42));have kp3:=(KP1.out.set k (.int .i64 (a:Int))).alloc (.cells #[.string n2,.bool o2,.bool m2,.bool c2',.int .i64 w2',.int .i64 b2,.int .i64 l2] 42);rw[ints_set]at kp3;have kb3:=(KB1.out.far (p:=⟨gp,k,none⟩) hgbp (.int .i64 (a:Int))).alloc (.cells #[.string n2,.bool o2,.bool m2,.bool c2',.int .i64 w2',.int .i64 b2,.int .i64 l2] 42);have HF:=iH hF;have KP3:=iH kp3;have KB3:=iH kb3;clear hF kp3 kb3 hb Hso Hsn hpc;go_wp2_with fail;go_roundw
        case rel=>exact⟨k+1,by omega,by go_num,by rw[Hs.out];exact HF.out,KB3.out,_,by rw[List.length_set];exact Hpl.out,KP3.out⟩
        case measure=>simp[intOf];omega
      | none =>
        rw[hb]at lk Hsn;simp only[Option.isSome_none,Option.getD_none]at lk;have Hs:=iH (Hsn.out rfl);have hown2:=HA1.out.own.alloc (.cells #[.string n2,.bool o2,.bool m2,.bool c2',.int .i64 w2',.int .i64 b2,.int .i64 l2] 42);have HO2:=iH hown2;have kb2:=(KB1.out.alloc (.cells #[.string n2,.bool o2,.bool m2,.bool c2',.int .i64 w2',.int .i64 b2,.int .i64 l2] 42)).alloc (.cells #[.string n2,.bool o2,.bool m2,.bool c2',.int .i64 w2',.int .i64 b2,.int .i64 l2] 42);have kp2:=(KP1.out.alloc (.cells #[.string n2,.bool o2,.bool m2,.bool c2',.int .i64 w2',.int .i64 b2,.int .i64 l2] 42)).alloc (.cells #[.string n2,.bool o2,.bool m2,.bool c2',.int .i64 w2',.int .i64 b2,.int .i64 l2] 42);have HA2:=iH (HA1.out.grow ((Below.refl _ _).alloc (Nat.le_refl _) (.cells #[.string n2,.bool o2,.bool m2,.bool c2',.int .i64 w2',.int .i64 b2,.int .i64 l2] 42)));have KB2:=iH kb2;have KP2:=iH kp2;have C1:=new7a (wr.alloc (.cells #[.string n2,.bool o2,.bool m2,.bool c2',.int .i64 w2',.int .i64 b2,.int .i64 l2] 42)) 42 (.string n2) (.bool o2) (.bool m2) (.bool c2') (.int .i64 w2') (.int .i64 b2) (.int .i64 l2);rw[World.size_alloc]at C1;have HC1:=iH C1;have hbig:w.heap.size+3<=wr.heap.size:=by omega
        clear kb2 kp2 hown2 C1 hb Hso Hsn;go_wp2_with(at_builtin;refine wpList_append_own_at _ rfl _ _ 23 rfl (w.heap.size+3) 42 i0 (.agg #[.string ⟨#[]⟩,.bool false,.bool false,.bool false,.int .i64 0,.int .i64 0,.int .i64 0]) 7 48 Tryz.underlying23 hi hz0 hz1 hz2 rfl (by decide) _ (mergeL lo ln k).length (icells (mergeL lo ln k)) rfl HO2.out ⟨wr.heap.size+1,0,none⟩ 1 1 [.string n2,.bool o2,.bool m2,.bool c2',.int .i64 w2',.int .i64 b2,.int .i64 l2] rfl rfl HC1.out (icells_one [⟨n2,o2,m2,c2',w2',b2,l2⟩]) ?c3 ?c4 ?c5 ?_)
        case c3=>unfold maxLen;omega
        case c4=>omega
        case c5=>simp;omega
        intro v' w3 hown' hgrow _ _;have h1:=row_ne HO2.out KB2.out (by decide);have h2:=row_ne HO2.out KP2.out (by decide);have hT:MgAt w w3 ⟨some ao,no,co⟩ ⟨some ⟨bp,op,none⟩,nx,cx⟩ bo bn lo ln v' (mergeL lo ln (k+1)):=by
         refine HA2.out.turn hgrow ?_;rw[Hs.out,icells_snoc,List.length_append];exact hown'
        have kb4:=KB2.out.grown hgrow (Ne.symm h1);have kp4:=KP2.out.grown hgrow (Ne.symm h2);have y0:=kb4.k0;have y1:=hpc _ kp4;have y2:=kp4.frozen k;have y3:=kp4.lt;have hF:=hT.setP kp4 (by decide) hgp k (.int .i64 ((mergeL lo ln k).length:Int));have kp5:=kp4.set k (.int .i64 ((mergeL lo ln k).length:Int));rw[ints_set]at kp5;have kb5:=kb4.far (p:=⟨gp,k,none⟩) hgbp (.int .i64 ((mergeL lo ln k).length:Int));have HF:=iH hF;have KP3:=iH kp5;have KB3:=iH kb5;clear hF kp5 kb5 hT kb4 kp4 h1 h2 hown' hgrow hpc;go_wp2_with fail;go_roundw
        case rel=>exact⟨k+1,by omega,by go_num,HF.out,KB3.out,_,by rw[List.length_set];exact Hpl.out,KP3.out⟩
        case measure=>simp[intOf];omega
     ·obtain rfl:nx=k:=by omega
      obtain⟨Ax9,cx9,hx9,_,_,_⟩:=row_form HA.out.own;subst hx9;have KR:=iH (fun F p=>rewrite_items cx (Hn.out.items.below HA.out.below) Ax9 (mergeL lo ln nx).length cx9 F p);have q0:=HA.out.b2.k0;have q1:wr.cell? ⟨w.heap.size+1,1,none⟩=some nilS:=HA.out.b2.cell 1;have q2:wr.cell? ⟨w.heap.size+1,2,none⟩=some nilS:=HA.out.b2.cell 2;have q3:wr.cell? ⟨w.heap.size+1,3,none⟩=some nilS:=HA.out.b2.cell 3;go_wp2_with fail;refine(KR.out _ _).mono ?_;rintro e w3 ⟨rfl,hb3⟩;have k3:=HA.out.b3.below hb3 HA.out.b3.lt;have z0:w3.cell? ⟨w.heap.size+1+1,0,none⟩=some nilS:=k3.cell 0;have z1:w3.cell? ⟨w.heap.size+1+1,1,none⟩=some nilS:=k3.cell 1;have z2:w3.cell? ⟨w.heap.size+1+1,2,none⟩=some nilS:=k3.cell 2;have z3:w3.cell? ⟨w.heap.size+1+1,3,none⟩=some nilS:=k3.cell 3;have f0:w3.frozen? ⟨w.heap.size+1+1,0,none⟩=false:=k3.frozen 0;have f1:w3.frozen? ⟨w.heap.size+1+1,1,none⟩=false:=k3.frozen 1;have f2:w3.frozen? ⟨w.heap.size+1+1,2,none⟩=false:=k3.frozen 2;have f3:w3.frozen? ⟨w.heap.size+1+1,3,none⟩=false:=k3.frozen 3;have zl:w.heap.size+1+1<w3.heap.size:=k3.lt;have HF:=iH (merge_end (u0:=.slice Ax9 (mergeL lo ln nx).length cx9) (u1:=nilS) (u2:=nilS) (u3:=nilS) HA.out rfl hb3);have k9:=(((k3.set 0 (.slice Ax9 (mergeL lo ln nx).length cx9)).set 1 nilS).set 2 nilS).set 3 nilS;have K9:=iH k9;clear k3 k9 hb3;go_wp2_with fail;have r0:=K9.out.cell 0;have r1:=K9.out.cell 1;have r2:=K9.out.cell 2;have r3:=K9.out.cell 3;exact bodyPost_ret (v:=.tuple #[.agg #[.slice Ax9 (mergeL lo ln nx).length cx9,nilS,nilS,nilS],.int .i64 0]) (by simp[results,Tryz.results14,go_sem,r0,r1,r2,r3]) rfl HF.out
end
end
end Go.Proofs.YtiecjoijnkghbaaGreatDoor
