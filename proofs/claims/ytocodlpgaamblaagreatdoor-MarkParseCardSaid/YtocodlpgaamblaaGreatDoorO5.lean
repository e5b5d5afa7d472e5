/- A region that draws its order, by an invariant that each operation keeps: no branching over orders. A region that draws its order: operations that only read, then one operation of any kind for which all of them must be done, then operations that only read and wait for it. It runs as its text stands. A region that draws its order: loads that hold in every world that meets a condition are taken first, and from an operation on that waits for all of them the rest is walked as it comes. What version.Merge does to items, its memory; rewrite on a catalog of items alone. The walk of version.Merge on catalogs of items alone, where nothing stands against it. The contracts of Missing, Last, Start, and of Add where an item without counterpart is held. The contract of lives: the example of the section. The walk of lives. Arguments: a slice of integers, opened; the table of kinds from the row's list; what a row's end wants. The parser's state; names. The names of a catalog's items and rules. The reference's index of a name, Rule, Item; Decimal. version.names and New on items with any names (turned from A21, A23). The reference's Item and alike. The generator of catalogs: its memory, next, some, amounts. The generator of catalogs: amounts and item. The plain law of amounts that come back. The generator of marks: its memory, next; the number of marks in a mark. The number of marks in a mark, its depth: the reference. A drawn region whose last operation does not wait for all the others by itself. The parser's state; find, name. The parser reads a name; the tests of ranges. -/
import Derived.Test.YtocodlpgaamblaaGreatDoorO1
import Derived.Test.YtocodlpgaamblaaGreatDoorO4
import Derived.RegionTactic
import Derived.StillTailTactics
import Derived.BigQuiet
import Derived.OrdersHeld
import Derived.Deep.MidRow
import Derived.Test.YtocodlpgaamblaaGreatDoorCards
import Derived.Test.YtocodlpgaamblaaGreatDoorTie
import Derived.WalkKit
import Derived.ProofKit
import Derived.OpenShut
import Derived.Deep.DeepHandedRow
import Derived.Lib.LaidTab
import Derived.Lib.ItoaMem
import Derived.Lib.ItoaLen
import Derived.Maps.AppendAt
set_option linter.unusedVariables false
set_option linter.unusedSimpArgs false
set_option maxRecDepth 100000
set_option maxHeartbeats 2000000
open Go.RowKit
namespace Go.Proofs.YtocodlpgaamblaaGreatDoor
section
set_option linter.unusedVariables false
set_option linter.unusedSimpArgs false
def earlierB (ops:Array Oper):Bool:=(List.range ops.size).all fun i=>match ops[i]? with | some o=>o.after.all fun e=>decide (e.on<i) | none=>true
theorem earlier_spec {ops:Array Oper} (h:earlierB ops=true) {i:Nat} {o:Oper} (ho:ops[i]? = some o):∀e∈o.after,e.on<i:=by
 intro e he;have hi:i<ops.size:=(Array.getElem?_eq_some_iff.1 ho).1;have h1:=List.all_eq_true.1 h i (List.mem_range.2 hi);rw[ho]at h1;simpa using Array.all_eq_true_iff_forall_mem.1 h1 e he
def leftN (l:Array Bool):Nat:=l.toList.count false
theorem leftN_set {l:Array Bool} {i:Nat} (h:l.getD i true=false):leftN (l.setIfInBounds i true)+1=leftN l:=by
 have hi:i<l.size:=by
  rcases Nat.lt_or_ge i l.size with h1|h1
  ·exact h1
  ·simp[Array.getElem?_eq_none h1]at h
 have hf':l.toList[i]'(by simpa using hi)=false:=by simpa[hi]using h
 have hpos:0<l.toList.count false:=List.count_pos_iff.2 (by rw[<- hf'];exact List.getElem_mem _);unfold leftN;rw[Array.toList_setIfInBounds,List.count_set (by simpa using hi),hf'];have e1:(if(false == false)=true then 1 else 0)=1:=rfl;have e2:(if(true == false)=true then 1 else 0)=0:=rfl;rw[e1,e2];omega
theorem wpAny_inv {P:Program} {ops:Array Oper} {Q:Exit->Act->World->Prop} (hd:earlierB ops=true) (I:(Nat->Bool)->Act->World->Prop)
 (step:∀(i:Nat) (o:Oper) (L:Nat->Bool) (a:Act) (w:World),ops[i]? = some o->L i=false->(∀e∈o.after,Region.binds .any e=true->L e.on=true)->I L a w ->
  wpOp P ops Q i (fun a' w'=>I (fun j=>L j || j == i) a' w') a w)
 (done:∀(L:Nat->Bool) (a:Act) (w:World),(∀i,i<ops.size->L i=true)->I L a w->Q .normal a w) :
 ∀(fuel:Nat) (listed:Array Bool) (a:Act) (w:World),listed.size=ops.size->leftN listed=fuel->I (fun j=>listed.getD j false) a w->wpAny P .any ops Q fuel listed a w:=by
 have allOf : ∀ (listed : Array Bool), listed.size = ops.size -> Region.ready .any ops listed = [] -> ∀ i, i < ops.size -> listed.getD i false = true := by
  intro listed hs hr i
  induction i using Nat.strongRecOn with
  | _ i ih =>
    intro hi;cases hl:listed.getD i false with
    | true=>rfl
    | false =>
      have hm:i∈Region.ready .any ops listed:=by
       rw[mem_ready];refine⟨by simpa[hs,hi]using hl,ops[i],by simp[hi],fun e he _=>?_⟩;have:=earlier_spec hd (i:=i) (o:=ops[i]) (by simp[hi]) e he;exact ih e.on this (by omega)
      rw[hr]at hm;cases hm
 intro fuel
 induction fuel with
 | zero =>
   intro listed a w hs hl hI;have hall:∀i,i<ops.size->listed.getD i false=true:=by
    intro i hi;have h0:¬ false∈listed.toList:=by
     intro hm;have:=List.count_pos_iff.2 hm;unfold leftN at hl;omega
    have hi':i<listed.size:=by omega
    cases hx:listed[i]with
    | true=>simp[hi',hx]
    | false=>exact absurd (by rw[<- hx];exact Array.mem_toList_iff.2 (Array.getElem_mem hi')) h0
   refine⟨?_,done _ a w hall hI⟩;apply List.eq_nil_iff_forall_not_mem.2;intro i hi;obtain⟨h1,o,ho,_⟩:=mem_ready.1 hi;have hi':=(Array.getElem?_eq_some_iff.1 ho).1;have h2:=hall i hi';have hi2:i<listed.size:=by omega
   simp[hi2]at h1 h2;rw[h1]at h2;cases h2
 | succ fuel ih =>
   intro listed a w hs hl hI;refine⟨fun h0=>done _ a w (allOf listed hs h0) hI,fun i hi=>?_⟩;obtain⟨h1,o,ho,h2⟩:=mem_ready.1 hi;have hi':=(Array.getElem?_eq_some_iff.1 ho).1;have hi2:i<listed.size:=by omega
   refine wpOp_mono (fun a' w' hI'=>ih (listed.setIfInBounds i true) a' w' (by simpa using hs) (by have:=leftN_set h1;omega) ?_) (step i o (fun j=>listed.getD j false) a w ho ?_ h2 hI)
   ·have he:(fun j=>(listed.setIfInBounds i true).getD j false)=fun j=>listed.getD j false || j == i:=by
     funext j;by_cases hij:i=j
     ·subst hij;simp[hi2]
     ·rw[getD_set_ne false hij];have:(j == i)=false:=by simpa using fun e=>hij e.symm
      rw[this,Bool.or_false]
    rw[he];exact hI'
   ·simpa[hi2]using h1
theorem getD_repl (m j:Nat):(Array.replicate m false).getD j false=false:=by
 rcases Nat.lt_or_ge j m with h|h <;> simp[h]
theorem wp_region_inv {P:Program} {ops:Array Oper} {Q:Exit->Act->World->Prop} {id:Nat} {a:Act} {w:World} (hm:P.follows .mixedOrders=true) (hd:earlierB ops=true) (I:(Nat->Bool)->Act->World->Prop)
 (h0:I (fun _=>false) a w.drew)
 (step:∀(i:Nat) (o:Oper) (L:Nat->Bool) (a:Act) (w:World),ops[i]? = some o->L i=false->(∀e∈o.after,Region.binds .any e=true->L e.on=true)->I L a w ->
  wpOp P ops Q i (fun a' w'=>I (fun j=>L j || j == i) a' w') a w)
 (done:∀(L:Nat->Bool) (a:Act) (w:World),(∀i,i<ops.size->L i=true)->I L a w->Q .normal a w):(Code.region id ops true).wp P Q a w:=by
 refine wp_region_any hm (wpAny_inv hd I step done ops.size _ a _ (by simp) (by simp[leftN]) ?_);have he:(fun j=>(Array.replicate ops.size false).getD j false)=fun _=>false:=by
  funext j;exact getD_repl ops.size j
 rw[he];exact h0
section
section
variable {P : Program} {ops : Array Oper} {Q : Exit -> Act -> World -> Prop} {md : Region.Mode} {S : World -> Prop} {T : Nat}
def wpAnyX (P:Program) (md:Region.Mode) (ops:Array Oper) (Q:Exit->Act->World->Prop) (S:World->Prop) (T:Nat):Nat->Array Bool->Act->World->Prop
 | 0,listed,a,w=>Region.ready md ops listed=[]∧Q .normal a w
 | fuel + 1, listed, a, w =>
   (Region.ready md ops listed=[T]∧wpAny P md ops Q (fuel+1) listed a w) ∨
   ((Region.ready md ops listed = [] -> Q .normal a w) ∧
     ∀i∈Region.ready md ops listed,wpOp P ops Q i (fun a' w'=>S w'∧wpAnyX P md ops Q S T fuel (listed.setIfInBounds i true) a' w') a w)
theorem wpAny_of_X:∀(fuel:Nat) (listed:Array Bool) (a:Act) (w:World),wpAnyX P md ops Q S T fuel listed a w->wpAny P md ops Q fuel listed a w
 | 0,_,_,_,h=>h
 | fuel+1,_,_,_,.inl h=>h.2
 | fuel+1,_,_,_,.inr h=>⟨h.1,fun i hi=>wpOp_mono (fun a' w' h'=>wpAny_of_X fuel _ a' w' h'.2) (h.2 i hi)⟩
theorem wpAnyX_first {i:Nat} {oi:Oper} {v:Value} (hi:ops[i]? = some oi) (hsel:∀(j:Nat) (o:Oper) cs b,ops[j]? = some o->o.op≠.select cs b)
 (hT:Region.waitsFor md ops T i=true) (hQ:∀c a w,Q (.panic c) (a.put oi.dst v) w->Q (.panic c) a w) :
 ∀(fuel:Nat) (listed:Array Bool) (a:Act) (w:World),
  (∀j oj,ops[j]? = some oj->j≠i->listed.getD j true=false->(∀e∈oj.after,Region.binds md e=true->e.on≠i)->oi.apart ops oj=true) ->
  i∈Region.ready md ops listed->YieldsIf P ops S oi v a->S w ->
  wpAnyX P md ops Q S T fuel (listed.setIfInBounds i true) (a.put oi.dst v) w->wpAnyX P md ops Q S T (fuel+1) listed a w:=by
 intro fuel
 induction fuel with
 | zero =>
   intro listed a w _ hr hy hS H;refine .inr ⟨fun h=>(by rw[h]at hr;cases hr),fun j hj=>?_⟩;by_cases hji:j=i
   ·subst hji;exact hy.wpOp hi hS ⟨hS,H⟩
   ·have:=ready_mono hj hji;rw[H.1]at this;cases this
 | succ fuel ih =>
   intro listed a w hfree hr hy hS H;refine .inr ⟨fun h=>(by rw[h]at hr;cases hr),fun j hj=>?_⟩;by_cases hji:j=i
   ·subst hji;exact hy.wpOp hi hS ⟨hS,H⟩
   ·obtain⟨hjun,oj,hoj,hall⟩:=mem_ready.1 hj;have hnot:∀e∈oj.after,Region.binds md e=true->e.on≠i:=fun e he hb heq=>by
     have h1:=hall e he hb;have h0:=(mem_ready.1 hr).1;rw[heq]at h1;rcases Nat.lt_or_ge i listed.size with h'|h'
     ·simp[h']at h0 h1;rw[h0]at h1;cases h1
     ·simp[Array.getElem?_eq_none h']at h1
    rcases H with H|H
    ·have h1:=ready_mono hj hji;rw[H.1]at h1;obtain rfl:j=T:=by simpa using h1
     obtain⟨o',ho',e,he,hb,hon⟩:=Region.waitsFor_spec hT;cases Option.some.inj (ho'.symm.trans hoj);exact absurd hon (hnot e he hb)
    ·have h1:=H.2 j (ready_mono hj hji);have h2:=wpOp_putIf hoj (hfree j oj hoj hji hjun hnot) (fun cs b=>hsel i oi cs b hi) (fun cs b=>hsel j oj cs b hoj) hQ hy h1;have hfree':∀k ok,ops[k]? = some ok->k≠i->(listed.setIfInBounds j true).getD k true=false ->
      (∀e∈ok.after,Region.binds md e=true->e.on≠i)->oi.apart ops ok=true:=fun k ok hk hki hun hno=>by
      refine hfree k ok hk hki ?_ hno;by_cases hjk:j=k
      ·subst hjk;exact hjun
      ·rw[getD_set_ne true hjk]at hun;exact hun
     refine wpOp_mono (fun a' w' h3=>⟨h3.2.1,ih (listed.setIfInBounds j true) a' w' hfree' (ready_mono hr (Ne.symm hji)) h3.1 h3.2.1 ?_⟩) h2;rw[Array.setIfInBounds_comm _ _ hji];exact h3.2.2
theorem X_take (i:Nat) (d:Option Tmp) {oi:Oper} {v:Value} {fuel:Nat} {listed listed':Array Bool} {a:Act} {w:World} (hi:ops[i]? = some oi) (hd:oi.dst=d) (hl:listed.setIfInBounds i true=listed')
 (hB:(Region.noSelect ops && Region.free md ops listed i && (Region.ready md ops listed).contains i && Region.waitsFor md ops T i)=true)
 (hQ:∀c a w,Q (.panic c) (a.put oi.dst v) w->Q (.panic c) a w) (hy:Region.wanted oi (yielded ops a.tmps)=true∧∀w,S w->(execOp a.eval oi).run P w=.ok (.value v) w) (hS:S w)
 (h:wpAnyX P md ops Q S T fuel listed' (a.put d v) w):wpAnyX P md ops Q S T (fuel+1) listed a w:=by
 simp only[Bool.and_eq_true]at hB;subst hd hl;exact wpAnyX_first hi (Region.noSelect_spec hB.1.1.1) hB.2 hQ fuel listed a w (Region.free_spec hi hB.1.1.2) (by simpa using hB.1.2) (.inl hy) hS h
theorem X_one (i:Nat) {o:Oper} {fuel:Nat} {listed listed':Array Bool} {a:Act} {w:World} (hr:Region.ready md ops listed=[i]) (hl:listed.setIfInBounds i true=listed') (ho:ops[i]? = some o)
 (h:∀K':Act->World->Prop,(∀a w,S w->wpAnyX P md ops Q S T fuel listed' a w->K' a w)->if Region.wanted o (yielded ops a.tmps)=true then Oper.wp P o a w K' Q else K' (a.put o.dst undef) w):wpAnyX P md ops Q S T (fuel+1) listed a w:=by
 subst hl;refine .inr ⟨fun h0=>(by rw[hr]at h0;cases h0),fun j hj=>?_⟩;rw[hr]at hj;obtain rfl:j=i:=by simpa using hj
 exact wpOp_step ho fun K hK=>h K fun a w hS hX=>hK a w ⟨hS,hX⟩
theorem X_o (i:Nat){o:Oper}{fuel:Nat}{listed:Array Bool}{a:Act}{w:World}(ho:ops[i]?=some o)
 (h:∀K':Act→World→Prop,(∀a w,S w→wpAnyX P md ops Q S T fuel (listed.setIfInBounds i true) a w→K' a w)→if Region.wanted o (yielded ops a.tmps)=true then Oper.wp P o a w K' Q else K' (a.put o.dst undef) w)(hr:Region.ready md ops listed=[i]:=by kernel_rfl):wpAnyX P md ops Q S T (fuel+1) listed a w:=X_one i hr rfl ho h
theorem tX (i:Nat)(d:Option Tmp){oi:Oper}{v:Value}{fuel:Nat}{listed:Array Bool}{a:Act}{w:World}(hi:ops[i]?=some oi)
 (hy:Region.wanted oi (yielded ops a.tmps)=true∧∀w,S w→(execOp a.eval oi).run P w=.ok (.value v) w)(hS:S w)
 (h:wpAnyX P md ops Q S T fuel (listed.setIfInBounds i true) (a.put d v) w)(hd:oi.dst=d:=by rfl)(hQ:∀c a w,Q (.panic c) (a.put oi.dst v) w→Q (.panic c) a w:=by exact fun _ _ _ h=>h)(hB:(Region.noSelect ops&&Region.free md ops listed i&&(Region.ready md ops listed).contains i&&Region.waitsFor md ops T i)=true:=by kernel_rfl):wpAnyX P md ops Q S T (fuel+1) listed a w:=X_take i d hi hd rfl hB hQ hy hS h
theorem xT (i d:Nat){oi:Oper}{v:Value}{fuel:Nat}{listed:Array Bool}{a:Act}{w:World}(hS:S w)(h:wpAnyX P md ops Q S T fuel (listed.setIfInBounds i true) (a.put (some d) v) w)(hi:ops[i]?=some oi:=by rfl)
 (hw:Region.wanted oi (yielded ops a.tmps)=true:=by rfl)(hy:∀w,S w->(execOp a.eval oi).run P w=.ok (.value v) w:=by (intro w' hS';(go_simp;try with_reducible rfl)))(hd:oi.dst=some d:=by rfl)(hQ:∀c a w,Q (.panic c) (a.put oi.dst v) w->Q (.panic c) a w:=by exact fun _ _ _ h=>h)(hB:(Region.noSelect ops&&Region.free md ops listed i&&(Region.ready md ops listed).contains i&&Region.waitsFor md ops T i)=true:=by kernel_rfl):wpAnyX P md ops Q S T (fuel+1) listed a w:=X_take i (some d) hi hd rfl hB hQ ⟨hw,hy⟩ hS h
theorem xS (i d:Nat){oi:Oper}{v:Value}{fuel:Nat}{listed:Array Bool}{a a':Act}{w:World}(hS:S w)(h:wpAnyX P md ops Q S T fuel (listed.setIfInBounds i true) a' w)(hi:ops[i]?=some oi:=by rfl)
 (hw:Region.wanted oi (yielded ops a.tmps)=true:=by rfl)(hy:∀w,S w->(execOp a.eval oi).run P w=.ok (.value v) w:=by (intro w' hS';(go_simp;try with_reducible rfl)))(ha:a.put (some d) v=a':=by (simp only[Act.put,Pa,Pb,Pc];rfl))(hd:oi.dst=some d:=by rfl)(hQ:∀c a w,Q (.panic c) (a.put oi.dst v) w->Q (.panic c) a w:=by exact fun _ _ _ h=>h)(hB:(Region.noSelect ops&&Region.free md ops listed i&&(Region.ready md ops listed).contains i&&Region.waitsFor md ops T i)=true:=by kernel_rfl):wpAnyX P md ops Q S T (fuel+1) listed a w:=X_take i (some d) hi hd rfl hB hQ ⟨hw,hy⟩ hS (ha ▸ h)
theorem X_tail {fuel:Nat} {listed:Array Bool} {a:Act} {w:World} (hr:Region.ready md ops listed=[T]) (h:wpAny P md ops Q (fuel+1) listed a w):wpAnyX P md ops Q S T (fuel+1) listed a w:=.inl ⟨hr,h⟩
theorem A_one (i:Nat) {o:Oper} {fuel:Nat} {listed listed':Array Bool} {a:Act} {w:World} (hr:Region.ready md ops listed=[i]) (hl:listed.setIfInBounds i true=listed') (ho:ops[i]? = some o)
 (h:∀K':Act->World->Prop,(∀a w,wpAny P md ops Q fuel listed' a w->K' a w)->if Region.wanted o (yielded ops a.tmps)=true then Oper.wp P o a w K' Q else K' (a.put o.dst undef) w):wpAny P md ops Q (fuel+1) listed a w:=by
 subst hl;refine⟨fun h0=>(by rw[hr]at h0;cases h0),fun j hj=>?_⟩;rw[hr]at hj;obtain rfl:j=i:=by simpa using hj
 exact wpOp_step ho h
theorem A_done {listed:Array Bool} {a:Act} {w:World} (hr:Region.ready md ops listed=[]) (h:Q .normal a w):wpAny P md ops Q 0 listed a w:=⟨hr,h⟩
theorem wp_region_X (S:World->Prop) (T:Nat) {id n:Nat} {a:Act} {w:World} (hn:ops.size=n) (hm:P.follows .mixedOrders=true) (hS:S w.drew)
 (h:S w.drew->wpAnyX P .any ops Q S T n (Array.replicate n false) a w.drew):(Code.region id ops true).wp P Q a w:=by
 subst hn;exact wp_region_any hm (wpAny_of_X _ _ _ _ (h hS))
end
end
end
structure NmV (w : World) (A : Option Addr) (n : Nat) (l : List ByteArray) : Prop where
 row:TRow w 9 A (l.map Value.string)
 len:n=l.length
 small:n<=100000
theorem NmV.below {w w':World} {A:Option Addr} {n:Nat} {l:List ByteArray} (h:NmV w A n l) (hb:Below w.heap.size w w'):NmV w' A n l:=⟨h.row.keep (.below hb),h.len,h.small⟩
theorem NmV.keep {w w':World} {A:Option Addr} {n:Nat} {l:List ByteArray} (h:NmV w A n l) (hb:Keep 9 w w'):NmV w' A n l:=⟨h.row.keep hb,h.len,h.small⟩
theorem NmV.at_ {w:World} {A:Option Addr} {n:Nat} {l:List ByteArray} (h:NmV w A n l) (k:Nat) (hk:k<l.length):∃b off,A=some ⟨b,off,none⟩∧b<w.heap.size∧w.cell? ⟨b,off+k,none⟩=some (.string l[k]):=by
 have e:∀l:List ByteArray,l.map Value.string=l.flatMap fun s=>[Value.string s]:=by
  intro l
  induction l with
  | nil=>rfl
  | cons x xs ih=>rw[List.flatMap_cons,<- ih];rfl
 have hr:=h.row;rw[e]at hr;obtain⟨b,off,hA,hb,hc⟩:=TRow.at_ (f:=fun s=>[Value.string s]) (n:=1) (fun _=>rfl) hr k hk (by omega);exact⟨b,off,hA,hb,by simpa using hc 0 _ rfl⟩
def ixOf (l:List ByteArray) (s:ByteArray):Int:=match nameIx l s with | some k=>k | none=>-1
theorem nameIx_some {l:List ByteArray} {s:ByteArray} {k:Nat} (hk:k<l.length) (h:∀j (hj:j<l.length),j<k->l[j]≠s) (he:l[k]=s):nameIx l s=some k:=by
 induction l generalizing k with
 | nil=>simp at hk
 | cons x xs ih =>
   simp only[nameIx];cases k with
   | zero=>simp at he;simp[he]
   | succ k =>
     have h0:=h 0 (by simp) (by omega);simp at h0;rw[if_neg h0,ih (k:=k) (by simpa using hk) (fun j hj hjk=>by
      have:=h (j+1) (by simp;omega) (by omega)
      simpa using this) (by simpa using he)]
     rfl
theorem nameIx_none {l:List ByteArray} {s:ByteArray} (h:∀j (hj:j<l.length),l[j]≠s):nameIx l s=none:=by
 induction l with
 | nil=>rfl
 | cons x xs ih =>
   have h0:=h 0 (by simp);simp at h0;simp only[nameIx];rw[if_neg h0,ih fun j hj=>by
    have:=h (j+1) (by simp;omega)
    simpa using this]
   rfl
theorem eqL (a b:ByteArray):(a.toList == b.toList)=decide (a=b):=by
 by_cases h:a=b
 ·subst h;simp
 ·have:(a.toList == b.toList)=false:=by
   simp only[beq_eq_false_iff_ne,ne_eq,ByteArray.toList_eq];exact fun e=>h (bytes_inj (by simpa using e))
  rw[this];simp[h]
theorem index_any {w:World} {A:Option Addr} {n c:Nat} {l:List ByteArray} (s:ByteArray) (h:NmV w A n l):Calls Tryz.prog 124 #[.slice A n c,.string s] w fun e w'=>e=.returned (.int .i64 (ixOf l s))∧w'=w:=by
 have Hn:=iH h.len;have H:=iH h;have hs:=h.small;clear h;go_enter Tryz.func124,Tryz.ntmps124;go_wp2_with fail;go_loopw [8] (fun i wr=>∃k:Nat,k<=n∧i=.int .i64 k∧(∀j (hj:j<l.length),j<k->l[j]≠s)∧wr=w) (fun i _=>n-(intOf i).toNat)
 case atStart=>exact⟨0,Nat.zero_le _,rfl,fun _ _ h=>absurd h (by omega),rfl⟩
 case round =>
  obtain⟨k,hk,rfl,hR,rfl⟩:=hrel;have HR:=iH hR;clear hR;by_cases hlt:k<n
  ·have hkl:k<l.length:=by have:=Hn.out;omega
   obtain⟨b,off,rfl,hbb,c0⟩:=H.out.at_ k hkl;have e:=eqL s l[k];have Hs:=iH (fun(hne:l[k]≠s) j (hj:j<l.length) (hjk:j<k+1)=>show l[j]≠s from by
    by_cases e:j=k
    ·subst e;exact hne
    ·exact HR.out j hj (by omega))
   have Hy:=iH (fun(he:l[k]=s)=>nameIx_some hkl HR.out he);generalize l[k]=y at *;clear hkl HR;by_cases hq:y=s
   ·have e2:(s.toList == y.toList)=true:=by rw[e];simp[hq]
    have Hz:=iH (Hy.out hq);clear hq Hs Hy e;go_wp2;go_ret;exact⟨by unfold ixOf;rw[Hz.out];rfl,rfl⟩
   ·have e2:(s.toList == y.toList)=false:=by rw[e];simp[Ne.symm hq]
    have Hz:=iH (Hs.out hq);clear hq Hs Hy e;go_wp2;go_roundw
    case rel=>exact⟨k+1,by omega,by go_num,Hz.out,trivial⟩
    case measure=>simp[intOf];omega
  ·have hkn:k=n:=by omega
   have HT:Hid (nameIx l s=none):=nameIx_none fun j hj=>HR.out j hj (by have:=Hn.out;omega)
   clear hkn HR;go_wp2;go_ret;exact⟨by unfold ixOf;rw[HT.out];rfl,rfl⟩
def kindNs:List ByteArray:=[⟨#[115,112,97,119,110]⟩,⟨#[115,105,110,107]⟩,⟨#[116,114,97,100,101]⟩,⟨#[102,101,101]⟩,⟨#[99,114,97,102,116]⟩,⟨#[105,109,112,111,114,116]⟩,⟨#[101,120,112,111,114,116]⟩,⟨#[114,101,99,97,108,108]⟩,⟨#[99,108,97,105,109]⟩,⟨#[114,101,118,111,107,101]⟩,⟨#[99,111,110,118,101,114,116]⟩]
def NmQ (w:World) (l:List ByteArray) (e:Ending) (w':World):Prop:=∃A n c,e=.returned (.slice A n c)∧NmV w' A n l∧Below w.heap.size w w'
theorem kinds_any (w:World):Calls Tryz.prog 81 #[] w (NmQ w kindNs):=by
 go_enter Tryz.func81,Tryz.ntmps81;go_wp2;go_ret;refine⟨_,_,_,rfl,⟨.inr ⟨w.heap.size,0,_,_,rfl,heap_alloc_new w _,fun j u hu=>?_⟩,rfl,by decide⟩,(Below.refl _ _).alloc (Nat.le_refl _) _⟩;rw[Nat.zero_add,<- List.getElem?_toArray]at *;exact hu
theorem itemNames_any {w:World} {m:CatM} (h:ItsV w m.si m.items):Calls Tryz.prog 50 #[m.val] w (NmQ w (m.items.map It.name)):=by
 have Hn:=iH h.len;have H:=iH h;have hs:=h.small;clear h;obtain⟨i0,hi,hz0,hz1,hz2⟩:=info_parts info9;obtain⟨items,rules,tables,taxes,si,sr,st,sx⟩:=m;dsimp only[CatM.val,catS]at *;obtain⟨A0,n0,c0⟩:=si;obtain⟨A1,n1,c1⟩:=sr;obtain⟨A2,n2,c2⟩:=st;obtain⟨A3,n3,c3⟩:=sx;dsimp only at *;have y:Below w.heap.size w (w.alloc (.cells #[.slice A0 n0 c0,.slice A1 n1 c1,.slice A2 n2 c2,.slice A3 n3 c3] 28)):=(Below.refl _ _).alloc (Nat.le_refl _) _;go_enter Tryz.func50,Tryz.ntmps50;go_wp2_with fail;go_loopw [3,9] (fun v i wr=>∃k:Nat,k<=n0∧i=.int .i64 k∧wr.ownsRow w.heap.size 9 1 v k (((items.take k).map It.name).map Value.string)∧Below w.heap.size w wr) (fun _ i _=>n0-(intOf i).toNat)
 case atStart=>exact⟨0,Nat.zero_le _,rfl,World.ownsRow_nil _ _ _ _,y⟩
 case round =>
  obtain⟨k,hk,rfl,hown,hb⟩:=hrel;have HO:=iH hown;have HB:=iH hb;have hsz:=hb.size;by_cases hlt:k<n0
  ·have hkl:k<items.length:=by have:=Hn.out;omega
   obtain⟨b,off,rfl,hbb,d0,d1,d2,d3,d4,d5,d6⟩:=(H.out.below hb).at_ k hkl;have HS:Hid (((items.take (k+1)).map It.name).map Value.string=((items.take k).map It.name).map Value.string ++ [.string (It.name items[k])]):=by
    show _=_;rw[List.take_succ_eq_append_getElem hkl,List.map_append,List.map_append];rfl
   clear hown hb;generalize items[k]=x at *;clear hkl;generalize((items.take k).map It.name).map Value.string=X at *;go_wp2_with(at_builtin;refine wpList_append_own_at _ rfl _ _ 39 rfl w.heap.size 9 i0 (.string ⟨#[]⟩) 1 16 Tryz.underlying39 hi hz0 hz1 hz2 rfl (by decide) _ k X rfl ((HO.out.alloc _).alloc _) ⟨wr.heap.size+1,0,none⟩ 1 1 [.string (It.name x)] rfl rfl ?c1 (one1s _) ?c3 ?c4 ?c5 ?_)
   case c1=>simpa using new1 (wr.alloc (.cells #[.string x.name,.bool x.object,.bool x.mixed,.bool x.coin,.int .i64 x.wear,.int .i64 x.bnd,.int .i64 x.level] 76)) 9 (.string (It.name x))
   case c3=>unfold maxLen;omega
   case c4=>omega
   case c5=>simp;omega
   intro v' w1 hown' hgrow _ _;have hb1:Below w.heap.size w w1:=((HB.out.alloc hsz _).alloc (by simp;omega) _).grown hgrow (by simp;omega) (row_base HO.out);have HO1:=iH hown';clear hown' hgrow;go_wp2_with fail;go_roundw
   case rel=>exact⟨k+1,by omega,by go_num,by rw[HS.out];exact HO1.out,hb1⟩
   case measure=>simp[intOf];omega
  ·have hkn:k=n0:=by omega
   have hT:items.take k=items:=List.take_of_length_le (by have:=Hn.out;omega);rw[hT]at HO;have hQ:∃A c,u3=.slice A n0 c:=by
    rw[hkn]at HO;rcases HO.out.2 with ⟨hv,h0⟩|⟨g,cap,cur,hv,_⟩
    ·exact⟨none,0,by rw[hv,h0]⟩
    ·exact⟨_,_,hv⟩
   obtain⟨A,c,rfl⟩:=hQ;have hL:=Hn.out;rw[hkn]at HO;have HQ:Hid (NmQ w (items.map It.name) (.returned (.slice A n0 c)) wr):=⟨A,n0,c,rfl,⟨TRow.of_own HO.out,by simpa using hL,hs⟩,HB.out⟩;clear hkn hT HO hb hown hL;go_wp2;go_ret;exact HQ.out
theorem ruleNames_any {w:World} {m:CatM} (h:RulesV w m.sr m.rules):Calls Tryz.prog 51 #[m.val] w (NmQ w (m.rules.map RuM.name)):=by
 have Hn:=iH h.len;have H:=iH h;have hs:=h.small;clear h;obtain⟨i0,hi,hz0,hz1,hz2⟩:=info_parts info9;obtain⟨items,rules,tables,taxes,si,sr,st,sx⟩:=m;dsimp only[CatM.val,catS]at *;obtain⟨A0,n0,c0⟩:=si;obtain⟨A1,n1,c1⟩:=sr;obtain⟨A2,n2,c2⟩:=st;obtain⟨A3,n3,c3⟩:=sx;dsimp only at *;have y:Below w.heap.size w (w.alloc (.cells #[.slice A0 n0 c0,.slice A1 n1 c1,.slice A2 n2 c2,.slice A3 n3 c3] 28)):=(Below.refl _ _).alloc (Nat.le_refl _) _;go_enter Tryz.func51,Tryz.ntmps51;go_wp2_with fail;go_loopw [3,9] (fun v i wr=>∃k:Nat,k<=n1∧i=.int .i64 k∧wr.ownsRow w.heap.size 9 1 v k (((rules.take k).map RuM.name).map Value.string)∧Below w.heap.size w wr) (fun _ i _=>n1-(intOf i).toNat)
 case atStart=>exact⟨0,Nat.zero_le _,rfl,World.ownsRow_nil _ _ _ _,y⟩
 case round =>
  obtain⟨k,hk,rfl,hown,hb⟩:=hrel;have HO:=iH hown;have HB:=iH hb;have hsz:=hb.size;by_cases hlt:k<n1
  ·have hkl:k<rules.length:=by have:=Hn.out;omega
   obtain⟨b,off,rfl,hbb,d0,d1,d2,d3,d4,d5,d6,d7,d8⟩:=(H.out.below hb).at_ k hkl;have HS:Hid (((rules.take (k+1)).map RuM.name).map Value.string=((rules.take k).map RuM.name).map Value.string ++ [.string (RuM.name rules[k])]):=by
    show _=_;rw[List.take_succ_eq_append_getElem hkl,List.map_append,List.map_append];rfl
   clear hown hb;generalize rules[k]=x at *;clear hkl;generalize((rules.take k).map RuM.name).map Value.string=X at *;go_wp2_with(at_builtin;refine wpList_append_own_at _ rfl _ _ 39 rfl w.heap.size 9 i0 (.string ⟨#[]⟩) 1 16 Tryz.underlying39 hi hz0 hz1 hz2 rfl (by decide) _ k X rfl ((HO.out.alloc _).alloc _) ⟨wr.heap.size+1,0,none⟩ 1 1 [.string (RuM.name x)] rfl rfl ?c1 (one1s _) ?c3 ?c4 ?c5 ?_)
   case c1=>simpa using new1 (wr.alloc (.cells #[.string x.name,.bool x.spawn,.int .i64 x.level,.int .i64 x.time,.int .i64 x.chance,.int .i64 x.of_,.slice x.st.A x.st.n x.st.c,.slice x.sg.A x.sg.n x.sg.c,.slice x.sb.A x.sb.n x.sb.c] 80)) 9 (.string (RuM.name x))
   case c3=>unfold maxLen;omega
   case c4=>omega
   case c5=>simp;omega
   intro v' w1 hown' hgrow _ _;have hb1:Below w.heap.size w w1:=((HB.out.alloc hsz _).alloc (by simp;omega) _).grown hgrow (by simp;omega) (row_base HO.out);have HO1:=iH hown';clear hown' hgrow;go_wp2_with fail;go_roundw
   case rel=>exact⟨k+1,by omega,by go_num,by rw[HS.out];exact HO1.out,hb1⟩
   case measure=>simp[intOf];omega
  ·have hkn:k=n1:=by omega
   have hT:rules.take k=rules:=List.take_of_length_le (by have:=Hn.out;omega);rw[hT]at HO;have hQ:∃A c,u3=.slice A n1 c:=by
    rw[hkn]at HO;rcases HO.out.2 with ⟨hv,h0⟩|⟨g,cap,cur,hv,_⟩
    ·exact⟨none,0,by rw[hv,h0]⟩
    ·exact⟨_,_,hv⟩
   obtain⟨A,c,rfl⟩:=hQ;have hL:=Hn.out;rw[hkn]at HO;have HQ:Hid (NmQ w (rules.map RuM.name) (.returned (.slice A n1 c)) wr):=⟨A,n1,c,rfl,⟨TRow.of_own HO.out,by simpa using hL,hs⟩,HB.out⟩;clear hkn hT HO hb hown hL;go_wp2;go_ret;exact HQ.out
theorem rindex_any {w:World} {A:Option Addr} {n c:Nat} {l:List ByteArray} (s:ByteArray) (h:NmV w A n l):Calls Tryz.prog 127 #[.slice A n c,.string s] w fun e w'=>e=.returned (.int .i64 (ixOf l s))∧w'=w:=by
 have Hn:=iH h.len;have H:=iH h;have hs:=h.small;clear h;go_enter Tryz.func127,Tryz.ntmps127;go_wp2_with fail;go_loopw [5] (fun i wr=>∃k:Nat,k<=n∧i=.int .i64 k∧(∀j (hj:j<l.length),j<k->l[j]≠s)∧wr=w) (fun i _=>n-(intOf i).toNat)
 case atStart=>exact⟨0,Nat.zero_le _,rfl,fun _ _ h=>absurd h (by omega),rfl⟩
 case round =>
  obtain⟨k,hk,rfl,hR,rfl⟩:=hrel;have HR:=iH hR;clear hR;by_cases hlt:k<n
  ·have hkl:k<l.length:=by have:=Hn.out;omega
   obtain⟨b,off,rfl,hbb,c0⟩:=H.out.at_ k hkl;have e:=eqL l[k] s;have Hs:=iH (fun(hne:l[k]≠s) j (hj:j<l.length) (hjk:j<k+1)=>show l[j]≠s from by
    by_cases e:j=k
    ·subst e;exact hne
    ·exact HR.out j hj (by omega))
   have Hy:=iH (fun(he:l[k]=s)=>nameIx_some hkl HR.out he);generalize l[k]=y at *;clear hkl HR;by_cases hq:y=s
   ·have e2:(y.toList == s.toList)=true:=by rw[e];simp[hq]
    have Hz:=iH (Hy.out hq);clear hq Hs Hy e;go_wp2;go_ret;exact⟨by unfold ixOf;rw[Hz.out];rfl,rfl⟩
   ·have e2:(y.toList == s.toList)=false:=by rw[e];simp[hq]
    have Hz:=iH (Hs.out hq);clear hq Hs Hy e;go_wp2;go_roundw
    case rel=>exact⟨k+1,by omega,by go_num,Hz.out,trivial⟩
    case measure=>simp[intOf];omega
  ·have hkn:k=n:=by omega
   have HT:Hid (nameIx l s=none):=nameIx_none fun j hj=>HR.out j hj (by have:=Hn.out;omega)
   clear hkn HR;go_wp2;go_ret;exact⟨by unfold ixOf;rw[HT.out];rfl,rfl⟩
def FindQ (w:World) (l:List ByteArray) (s:ByteArray) (e:Ending) (w':World):Prop:=e=.returned (.tuple #[.int .i64 (((nameIx l s).getD 0:Nat):Int),.bool (nameIx l s).isSome])∧Below w.heap.size w w'
theorem rrule_any {w:World} {m:CatM} (h:RulesV w m.sr m.rules) (s:ByteArray):Calls Tryz.prog 67 #[m.val,.string s] w (FindQ w (m.rules.map RuM.name) s):=by
 obtain⟨its,rus,tbs,txs,si,sr,st,sx⟩:=m;dsimp only at *;obtain⟨A,n,c⟩:=sr;have Hn:=iH h.len;have hs:=h.small;dsimp only at Hn hs;have hb0:Below w.heap.size w (w.alloc (catSO si ⟨A,n,c⟩ st sx)):=(Below.refl _ _).alloc (Nat.le_refl _) _;have H:=iH (h.below hb0);have HX:=iH hb0;have e0:(w.alloc (catSO si ⟨A,n,c⟩ st sx)).cell? ⟨w.heap.size,1,none⟩=some (.slice A n c):=(Bk.new w 28 (catSL si ⟨A,n,c⟩ st sx)).cell 1;have hl:w.heap.size<(w.alloc (catSO si ⟨A,n,c⟩ st sx)).heap.size:=by simp
 clear h hb0;generalize hW:w.alloc (catSO si ⟨A,n,c⟩ st sx)=W at H HX e0 hl;have HL:Hid (rus.length=rus.length):=iH rfl;go_enter Tryz.func67,Tryz.ntmps67;go_wp2_with fail;(try rw[hW]);clear hW HL
 go_loop [6] (fun i=>∃k:Nat,k<=n∧i=.int .i64 k∧(∀j (hj:j<rus.length),j<k->rus[j].name≠s)) (fun i=>n-(intOf i).toNat)
 case atStart=>exact⟨0,Nat.zero_le _,rfl,fun _ _ h=>absurd h (by omega)⟩
 case round =>
  obtain⟨k,hk,rfl,hR⟩:=hrel;have HR:=iH hR;clear hR;by_cases hlt:k<n
  ·have hkl:k<rus.length:=by have:=Hn.out;omega
   obtain⟨b,off,hA,hbb,c0,-⟩:=H.out.at_ k hkl;dsimp only at hA;subst hA;have e:=eqL rus[k].name s;have Hs:=iH (fun(hne:rus[k].name≠s) j (hj:j<rus.length) (hjk:j<k+1)=>show rus[j].name≠s from by
    by_cases e:j=k
    ·subst e;exact hne
    ·exact HR.out j hj (by omega))
   have Hy:Hid (rus[k].name=s->nameIx (rus.map RuM.name) s=some k):=fun he=>nameIx_some (by simpa using hkl) (fun j hj hjk=>by
    have:=HR.out j (by simpa using hj) hjk
    simpa using this) (by simpa using he)
   generalize rus[k].name=y at *;clear hkl HR;by_cases hq:y=s
   ·have e2:(y.toList == s.toList)=true:=by rw[e];simp[hq]
    have Hz:=iH (Hy.out hq);clear hq Hs Hy e;go_wp2;exact bodyPost_ret (v:=.tuple #[.int .i64 (k:Int),.bool true]) (by simp[results,Tryz.results67,go_sem]) rfl ⟨by rw[Hz.out];rfl,HX.out⟩
   ·have e2:(y.toList == s.toList)=false:=by rw[e];simp[hq]
    have Hz:=iH (Hs.out hq);clear hq Hs Hy e;go_wp2
    go_round
    case rel=>exact⟨k+1,by omega,by go_num,Hz.out⟩
    case measure=>simp[intOf];omega
  ·have hkn:k=n:=by omega
   have HT:Hid (nameIx (rus.map RuM.name) s=none):=nameIx_none fun j hj=>by
    have:=HR.out j (by simpa using hj) (by have:=Hn.out;simp at hj;omega);simpa using this
   clear hkn HR;go_wp2;exact bodyPost_ret (v:=.tuple #[.int .i64 0,.bool false]) (by simp[results,Tryz.results67,go_sem]) rfl ⟨by rw[HT.out];rfl,HX.out⟩
theorem ritemN_any {w:World} {m:CatM} (h:ItsV w m.si m.items) (s:ByteArray):Calls Tryz.prog 69 #[m.val,.string s] w (FindQ w (m.items.map It.name) s):=by
 obtain⟨its,rus,tbs,txs,si,sr,st,sx⟩:=m;dsimp only at *;obtain⟨A,n,c⟩:=si;have Hn:=iH h.len;have hs:=h.small;dsimp only at Hn hs;have hb0:Below w.heap.size w (w.alloc (catSO ⟨A,n,c⟩ sr st sx)):=(Below.refl _ _).alloc (Nat.le_refl _) _;have H:=iH (h.below hb0);have HX:=iH hb0;have e0:(w.alloc (catSO ⟨A,n,c⟩ sr st sx)).cell? ⟨w.heap.size,0,none⟩=some (.slice A n c):=(Bk.new w 28 (catSL ⟨A,n,c⟩ sr st sx)).cell 0;have hl:w.heap.size<(w.alloc (catSO ⟨A,n,c⟩ sr st sx)).heap.size:=by simp
 clear h hb0;generalize hW:w.alloc (catSO ⟨A,n,c⟩ sr st sx)=W at H HX e0 hl;have HL:Hid (its.length=its.length):=iH rfl;go_enter Tryz.func69,Tryz.ntmps69;go_wp2_with fail;(try rw[hW]);clear hW HL
 go_loop [6] (fun i=>∃k:Nat,k<=n∧i=.int .i64 k∧(∀j (hj:j<its.length),j<k->its[j].name≠s)) (fun i=>n-(intOf i).toNat)
 case atStart=>exact⟨0,Nat.zero_le _,rfl,fun _ _ h=>absurd h (by omega)⟩
 case round =>
  obtain⟨k,hk,rfl,hR⟩:=hrel;have HR:=iH hR;clear hR;by_cases hlt:k<n
  ·have hkl:k<its.length:=by have:=Hn.out;omega
   obtain⟨b,off,hA,hbb,c0,-⟩:=H.out.at_ k hkl;dsimp only at hA;subst hA;have e:=eqL its[k].name s;have Hs:=iH (fun(hne:its[k].name≠s) j (hj:j<its.length) (hjk:j<k+1)=>show its[j].name≠s from by
    by_cases e:j=k
    ·subst e;exact hne
    ·exact HR.out j hj (by omega))
   have Hy:Hid (its[k].name=s->nameIx (its.map It.name) s=some k):=fun he=>nameIx_some (by simpa using hkl) (fun j hj hjk=>by
    have:=HR.out j (by simpa using hj) hjk
    simpa using this) (by simpa using he)
   generalize its[k].name=y at *;clear hkl HR;by_cases hq:y=s
   ·have e2:(y.toList == s.toList)=true:=by rw[e];simp[hq]
    have Hz:=iH (Hy.out hq);clear hq Hs Hy e;go_wp2;exact bodyPost_ret (v:=.tuple #[.int .i64 (k:Int),.bool true]) (by simp[results,Tryz.results69,go_sem]) rfl ⟨by rw[Hz.out];rfl,HX.out⟩
   ·have e2:(y.toList == s.toList)=false:=by rw[e];simp[hq]
    have Hz:=iH (Hs.out hq);clear hq Hs Hy e;go_wp2
    go_round
    case rel=>exact⟨k+1,by omega,by go_num,Hz.out⟩
    case measure=>simp[intOf];omega
  ·have hkn:k=n:=by omega
   have HT:Hid (nameIx (its.map It.name) s=none):=nameIx_none fun j hj=>by
    have:=HR.out j (by simpa using hj) (by have:=Hn.out;simp at hj;omega);simpa using this
   clear hkn HR;go_wp2;exact bodyPost_ret (v:=.tuple #[.int .i64 0,.bool false]) (by simp[results,Tryz.results69,go_sem]) rfl ⟨by rw[HT.out];rfl,HX.out⟩
def ddI (u:Nat):List UInt8:=if u=0 then[] else Lib.decDigits u
theorem ddI_step {u:Nat} (h:u≠0):ddI u=ddI (u / 10) ++ [UInt8.ofNat (48+u % 10)]:=by
 unfold ddI;rw[if_neg h,Lib.decDigits];by_cases h10:u<10
 ·rw[dif_pos h10,if_pos (by omega),Nat.mod_eq_of_lt h10];rfl
 ·rw[dif_neg h10,if_neg (by omega)]
theorem digit_cut:∀d:Fin 10,((⟨#[48,49,50,51,52,53,54,55,56,57]⟩:ByteArray).extract d.val (d.val+1)).data.toList=[UInt8.ofNat (48+d.val)]:=by decide +kernel
theorem bytes_of {s:ByteArray} {l:List UInt8} (h:s.data.toList=l):s=⟨l.toArray⟩:=bytes_inj (by simpa using h)
theorem dec_round {v d:Nat} (hv:v≠0) (hd:v % 10=d) (b:ByteArray) {L:List UInt8} (h:ddI v ++ b.data.toList=L):ddI (v / 10) ++ ((⟨#[48,49,50,51,52,53,54,55,56,57]⟩:ByteArray).extract d (d+1) ++ b).data.toList=L:=by
 have hd10:d<10:=by omega
 have e:=digit_cut ⟨d,hd10⟩;dsimp only at e;rw[ByteArray.data_append,Array.toList_append,e,<- h,ddI_step hv,hd,List.append_assoc]
theorem decimal_pos (n:Nat) (h0:1<=n) (h1:n<=9223372036854775807) (w:World):Calls Tryz.prog 48 #[.int .i64 n] w fun e w'=>e=.returned (.string ⟨(Lib.itoa n).toArray⟩)∧w=w':=by
 have hn0:(1:Int)<=(n:Int):=by omega
 have hn1:(n:Int)<=9223372036854775807:=by omega
 have e0:((n:Int) == 0)=false:=by simp;omega
 have HR:Hid (Lib.itoa n=ddI n):=iH (by rw[Lib.itoa_nonneg];unfold ddI;rw[if_neg (by omega)]);have HL:=iH (Lib.itoa_length_le n (by omega) (by omega));generalize Lib.itoa n=R at *;go_enter Tryz.func48,Tryz.ntmps48;go_wp2_with fail
 go_loop [4,5] (fun s k=>∃(b:ByteArray) (q:Nat),s=.string b∧k=.int .i64 q∧q<=9223372036854775807∧ddI q ++ b.data.toList=R) (fun _ k=>(intOf k).toNat)
 case atStart=>exact⟨⟨#[]⟩,n,rfl,rfl,h1,by rw[HR.out];simp⟩
 case round =>
  obtain⟨b,q,rfl,rfl,hq,hR⟩:=hrel;by_cases hz:q=0
  ·subst hz;have HB:Hid (b=⟨R.toArray⟩):=iH (bytes_of (by rw[<- hR];simp[ddI]));clear hR;go_wp2;go_ret;exact⟨by rw[HB.out];rfl,rfl⟩
  ·have q0:(1:Int)<=(q:Int):=by omega
   have q1:(q:Int)<=9223372036854775807:=by omega
   have e1:((q:Int) == 0)=false:=by simp;omega
   have e2:((q:Int) != 0)=true:=by simp;omega
   obtain⟨d,hd⟩:∃d:Nat,(q:Int) % 10=d:=⟨((q:Int) % 10).toNat,by omega⟩;have d0:(0:Int)<=(d:Int):=by omega
   have d1:(d:Int)<10:=by omega
   have hd1:d<10:=by omega
   have Hq:Hid ((((q / 10:Nat):Int))=(q:Int) / 10):=by show _=_;omega
   have HD:=iH (dec_round hz (d:=d) (by omega) b hR);have hbs:b.size<=21:=by
    have h1:=congrArg List.length hR;have h2:=HL.out;simp only[List.length_append,Array.length_toList]at h1;show b.data.size<=21;omega
   clear hR hz;go_wp2
   go_round
   case rel=>exact⟨_,q / 10,rfl,by go_num,by omega,HD.out⟩
   case measure=>simp[intOf];omega
theorem decimal_neg (n:Nat) (h0:1<=n) (h1:n<=9223372036854775808) (w:World):Calls Tryz.prog 48 #[.int .i64 (-(n:Int))] w fun e w'=>e=.returned (.string ⟨(Lib.itoa (-(n:Int))).toArray⟩)∧w=w':=by
 have HR:Hid (Lib.itoa (-(n:Int))=45 :: ddI n):=iH (by rw[Lib.itoa_neg n h0];unfold ddI;rw[if_neg (by omega)]);have HL:=iH (Lib.itoa_length_le (-(n:Int)) (by omega) (by omega));generalize Lib.itoa (-(n:Int))=R at *;obtain⟨z,hz⟩:∃z:Int,z = -(n:Int):=⟨_,rfl⟩;rw[<- hz];have hn0:z<0:=by omega
 have hn1 : -9223372036854775808<=z:=by omega
 have e0:(z == 0)=false:=by simp;omega
 have HZ:=iH hz;clear hz;go_enter Tryz.func48,Tryz.ntmps48;go_wp2_with fail
 go_loop [4,5] (fun s k=>∃(b:ByteArray) (q:Int) (u:Nat),s=.string b∧k=.int .i64 q∧q = -(u:Int)∧u<=9223372036854775808∧45 :: (ddI u ++ b.data.toList)=R) (fun _ k=>(intOf k).natAbs)
 case atStart=>exact⟨⟨#[]⟩,z,n,rfl,rfl,HZ.out,h1,by rw[HR.out];simp⟩
 case round =>
  obtain⟨b,q,u,rfl,rfl,hqu,hq,hR⟩:=hrel;have hbs:b.size<=21:=by
   have h1:=congrArg List.length hR;have h2:=HL.out;simp only[List.length_cons,List.length_append,Array.length_toList]at h1;show b.data.size<=21;omega
  by_cases hz:u=0
  ·subst hz;have hq0:q=0:=by omega
   subst hq0;have HB:Hid ((⟨#[45]⟩:ByteArray) ++ b=⟨R.toArray⟩):=iH (bytes_of (by rw[<- hR];simp[ddI,ByteArray.data_append]));clear hR hqu;go_wp2;go_ret;exact⟨by rw[HB.out];rfl,rfl⟩
  ·have q0:q<0:=by omega
   have q1 : -9223372036854775808<=q:=by omega
   have e1:(q == 0)=false:=by simp;omega
   have e2:(q != 0)=true:=by simp;omega
   obtain⟨d,hd⟩:∃d:Nat,u % 10=d:=⟨_,rfl⟩;have HD:=iH (dec_round hz hd b (L:=ddI u ++ b.data.toList) rfl);have HU:=iH hqu;have HRr:=iH hR;have hm:(u:Int) % 10=(d:Int):=by omega
   have d1:(d:Int)<10:=by omega
   clear hR hz hd;by_cases hd0:d=0
   ·subst hd0;go_wp2
    go_round
    case rel=>exact⟨_,-((u / 10:Nat):Int),u / 10,rfl,by go_num,rfl,by omega,by rw[<- HRr.out,<- HD.out]⟩
    case measure=>simp[intOf];omega
   ·have d0:(1:Int)<=(d:Int):=by omega
    go_wp2
    go_round
    case rel=>exact⟨_,-((u / 10:Nat):Int),u / 10,rfl,by go_num,rfl,by omega,by rw[<- HRr.out,<- HD.out]⟩
    case measure=>simp[intOf];omega
theorem decimal_any (n:Int) (hn:In64 n) (w:World):Calls Tryz.prog 48 #[.int .i64 n] w fun e w'=>e=.returned (.string ⟨(Lib.itoa n).toArray⟩)∧w=w':=by
 by_cases h0:n=0
 ·subst h0;have HR:Hid ((⟨(Lib.itoa 0).toArray⟩:ByteArray)=⟨#[48]⟩):=iH (by
   have:Lib.itoa 0=[48]:=by
    show Lib.itoa ((0:Nat):Int)=_
    rw[Lib.itoa_nonneg,Lib.decDigits_one (by decide)];rfl
   rw[this])
  generalize(⟨(Lib.itoa 0).toArray⟩:ByteArray)=R at *;go_enter Tryz.func48,Tryz.ntmps48;go_wp2;go_ret;exact⟨by rw[HR.out];rfl,rfl⟩
 ·rcases Int.lt_or_gt_of_ne h0 with h | h
  ·obtain⟨u,rfl⟩:∃u:Nat,n = -(u:Int):=⟨n.natAbs,by omega⟩;exact decimal_neg u (by omega) (by have:=hn.1;omega) w
  ·obtain⟨u,rfl⟩:∃u:Nat,n=(u:Int):=⟨n.natAbs,by omega⟩;exact decimal_pos u (by omega) (by have:=hn.2;omega) w
set_option linter.unusedVariables false
set_option linter.unusedSimpArgs false
structure ItsR (w : World) (A : Option Addr) (n : Nat) (l : List It) : Prop where
 row:Row w w.heap.size A (icells l)
 len:n=l.length
 small:n<=1000000
 name:∀t∈l,t.name.size<=8192
theorem ItsR.below {w w':World} {A:Option Addr} {n:Nat} {l:List It} (h:ItsR w A n l) (hb:Below w.heap.size w w'):ItsR w' A n l:=⟨(h.row.below hb).more hb.size,h.len,h.small,h.name⟩
theorem ItsR.at_ {w:World} {A:Option Addr} {n:Nat} {l:List It} (h:ItsR w A n l) (k:Nat) (hk:k<n):∃b off,A=some ⟨b,off,none⟩∧b<w.heap.size ∧
 w.cell? ⟨b,off+k*7,none⟩=some (.string (itAt l k).name)∧w.cell? ⟨b,off+k*7+1,none⟩=some (.bool (itAt l k).object)∧w.cell? ⟨b,off+k*7+2,none⟩=some (.bool (itAt l k).mixed) ∧
 w.cell? ⟨b,off+k*7+3,none⟩=some (.bool (itAt l k).coin)∧w.cell? ⟨b,off+k*7+4,none⟩=some (.int .i64 (itAt l k).wear)∧w.cell? ⟨b,off+k*7+5,none⟩=some (.int .i64 (itAt l k).bnd)∧w.cell? ⟨b,off+k*7+6,none⟩=some (.int .i64 (itAt l k).level):=by
 have hl:k<l.length:=by have:=h.len;omega
 obtain⟨b,off,hA,hb,hc⟩:=h.row.at_ 0 (by rw[icells_length];omega);have g:=fun r hr=>icells_get l k r hl hr
 refine⟨b,off,hA,hb,?_,?_,?_,?_,?_,?_,?_⟩
 ·exact hc _ _ (g 0 (by omega))
 ·rw[Nat.add_assoc];exact hc _ _ (g 1 (by omega))
 ·rw[Nat.add_assoc];exact hc _ _ (g 2 (by omega))
 ·rw[Nat.add_assoc];exact hc _ _ (g 3 (by omega))
 ·rw[Nat.add_assoc];exact hc _ _ (g 4 (by omega))
 ·rw[Nat.add_assoc];exact hc _ _ (g 5 (by omega))
 ·rw[Nat.add_assoc];exact hc _ _ (g 6 (by omega))
section
set_option linter.unusedVariables false
set_option linter.unusedSimpArgs false
section
def GOk (w:World) (g:Nat):Prop:=∃(A:Option Addr) (n c:Nat) (zs:List Int) (i:Int),Bk w g 73 [.slice A n c,.int .i64 i]∧IntsV w A n zs∧(∀b off,A=some ⟨b,off,none⟩->b<g)∧In64 i
section
variable {w w' V W W' X : World} {g : Nat}
theorem GOk.lt (h:GOk w g):g<w.heap.size:=by obtain⟨A,n,c,zs,i,h1,_⟩:=h;exact h1.lt
theorem GOk.below (h:GOk w g) (hb:Below w.heap.size w w'):GOk w' g:=by
 obtain⟨A,n,c,zs,i,h1,h2,h3,h4⟩:=h;exact⟨A,n,c,zs,i,h1.below hb h1.lt,h2.below hb,h3,h4⟩
theorem row_far {A:Option Addr} {xs:List Value} {b B:Nat} (h:Row w B A xs) (hg:w.grownBy w' (some b)) (hf:∀b' off,A=some ⟨b',off,none⟩->b'≠b) (hB:B<=w.heap.size):Row w' B A xs:=by
 rcases h with rfl|⟨b',off,rfl,hb,hc⟩
 ·exact .inl rfl
 ·exact .inr ⟨b',off,rfl,hb,fun j u hu=>(World.cell?_of_block (w:=w) (hg.block b' (by omega) (fun e=>hf b' off rfl (Option.some.inj e)))).trans (hc j u hu)⟩
theorem GOk.keep {b:Nat} (h:GOk w g) (hg:w.grownBy w' (some b)) (hb:g<b):GOk w' g:=by
 obtain⟨A,n,c,zs,i,h1,h2,h3,h4⟩:=h;exact⟨A,n,c,zs,i,h1.grown hg (by simp;omega),⟨(row_far h2.row hg (fun b' off e=>by have:=h3 b' off e;omega) (Nat.le_refl _)).more hg.size,h2.len,h2.wf⟩,h3,h4⟩
theorem GOk.row {v:Value} (h:GOk w g) (hg:w.grownBy w' v.ownBlock) (hb:∀b,v.ownBlock=some b->g<b):GOk w' g:=by
 cases hv:v.ownBlock with
 | none=>rw[hv]at hg;exact h.below ⟨hg.os,hg.tape,hg.output,hg.size,fun b hb=>hg.block b hb (by simp)⟩
 | some b=>rw[hv]at hg;exact h.keep hg (hb b hv)
theorem grown_trans {a b c:World} {row:Option Nat} (h:a.grownBy b row) (k:b.grownBy c row):a.grownBy c row :=
 ⟨k.os.trans h.os,k.tape.trans h.tape,k.output.trans h.output,Nat.le_trans h.size k.size,fun i hi hne=>(k.block i (Nat.lt_of_lt_of_le hi h.size) hne).trans (h.block i hi hne)⟩
structure GSt (V W : World) (g : Nat) : Prop where
 gr:V.grownBy W (some g)
 ok:GOk W g
 lt:g<V.heap.size
theorem GSt.refl (h:GOk V g):GSt V V g:=⟨⟨rfl,rfl,rfl,Nat.le_refl _,fun _ _ _=>rfl⟩,h,h.lt⟩
theorem GSt.trans (h:GSt V W g) (k:GSt W X g):GSt V X g:=⟨grown_trans h.gr k.gr,k.ok,h.lt⟩
theorem GSt.size (h:GSt V W g):V.heap.size<=W.heap.size:=h.gr.size
theorem GSt.below (h:GSt V W g) (hb:Below W.heap.size W W'):GSt V W' g:=⟨grown_trans h.gr (grown_of_below hb _),h.ok.below hb,h.lt⟩
theorem GSt.alloc (h:GSt V W g) (o:Obj):GSt V (W.alloc o) g:=h.below ((Below.refl _ _).alloc (Nat.le_refl _) o)
theorem GSt.grow {row:Option Nat} (h:GSt V W g) (hg:W.grownBy W' row) (hr:∀b,row=some b->V.heap.size<=b):GSt V W' g:=by
 have hlt:=h.lt;refine⟨⟨hg.os.trans h.gr.os,hg.tape.trans h.gr.tape,hg.output.trans h.gr.output,Nat.le_trans h.gr.size hg.size,fun i hi hne=>(hg.block i (Nat.lt_of_lt_of_le hi h.gr.size) (fun e=>?_)).trans (h.gr.block i hi hne)⟩,?_,hlt⟩
 ·have:=hr i e.symm;omega
 ·cases row with
  | none=>exact h.ok.below ⟨hg.os,hg.tape,hg.output,hg.size,fun b hb=>hg.block b hb (by simp)⟩
  | some b=>exact h.ok.keep hg (by have:=hr b rfl;omega)
theorem GSt.set (h:GSt V W g) (b k:Nat) (u:Value) (hb:V.heap.size<=b):GSt V (W.setCell ⟨b,k,none⟩ u) g:=h.grow (grown_setCell W b k u) (fun b' e=>by cases e;exact hb)
theorem GSt.bk (h:GSt V W g) {b:Nat} {t:TypeId} {xs:List Value} (k:Bk V b t xs) (hne:b≠g):Bk W b t xs:=k.grown h.gr (by simpa using hne)
theorem GSt.keep (h:GSt V W g) (hg:GOk V g) (t:TypeId) (ht:t≠73):Keep t V W:=by
 obtain⟨A,n,c,zs,i,h1,_⟩:=hg;refine .grown h.gr fun cur fl e=>?_
 unfold Bk at h1;rw[h1]at e;cases e;exact ht rfl
theorem GSt.own (h:GSt V W g) {base e size n:Nat} {v:Value} {xs:List Value} (k:V.ownsRow base e size v n xs) (hne:v.ownBlock≠some g):W.ownsRow base e size v n xs:=k.kept h.gr (.inr hne)
def NextG (V:World) (g:Nat) (m:Int) (e:Ending) (W:World):Prop:=∃x,e=.returned (.int .i64 x)∧0<=x∧x<m∧GSt V W g
theorem in64_wrap (x:Int):In64 (IntKind.i64.wrap x):=by rw[IntKind.wrap_i64];unfold In64;omega
theorem pick_q {A:Option Addr} {n c:Nat} {zs:List Int} (i m:Int) (h:IntsV w A n zs) (hi:In64 i) (hm:1<=m) (hm2:m<=9223372036854775807) (k:Nat) :
 Calls Tryz.prog 66 #[.slice A n c,.int .i64 i,.int .i64 m] (w.drewN k) fun e w'=>e=.returned (.int .i64 (pick zs i m))∧w'=w.drewN k :=
 (pick_any A n c zs _ i m (w.drewN k) h.row h.len h.wf hi.1 hi.2 hm hm2).mono fun _ _ ⟨a,b⟩=>⟨a,b.symm⟩
theorem next_g (m:Int) (h:GOk w g) (m0:1<=m) (m1:m<=9223372036854775807):Calls Tryz.prog 37 #[.pointer (some ⟨g,0,none⟩),.int .i64 m] w (NextG w g m):=by
 obtain⟨A,n,c,zs,i,h1,h2,h3,h4⟩:=h;have hlt:=h1.lt;have⟨c0,c1,_⟩:=h1.p2;have f1:=h1.frozen 1;obtain⟨i2,hi2⟩:∃i2,IntKind.i64.wrap (i+1)=i2:=⟨_,rfl⟩;obtain⟨i3,hi3⟩:∃i3,IntKind.i64.wrap (i2-1)=i3:=⟨_,rfl⟩;have in3:In64 i3:=by rw[<- hi3];exact in64_wrap _
 have hg:=grown_setCell w g 1 (.int .i64 i2);have hI:IntsV (w.setCell ⟨g,1,none⟩ (.int .i64 i2)) A n zs:=⟨(row_far h2.row hg (fun b' off e=>by have:=h3 b' off e;omega) (Nat.le_refl _)).more hg.size,h2.len,h2.wf⟩;have HG:Hid (GSt w (w.setCell ⟨g,1,none⟩ (.int .i64 i2)) g):=⟨hg,⟨A,n,c,zs,i2,h1.set 1 _,hI,h3,by rw[<- hi2];exact in64_wrap _⟩,hlt⟩;have HK:Hid (Bk (w.setCell ⟨g,1,none⟩ (.int .i64 i2)) g 73 [.slice A n c,.int .i64 i2]):=h1.set 1 _;have HI:=iH hI;have Hin:=iH in3;clear h1 h2 h3 h4 hg hI in3;go_enter Tryz.func37,Tryz.ntmps37;go_wp2_with fail;obtain⟨W,hW⟩:∃W,w.setCell ⟨g,1,none⟩ (.int .i64 i2)=W:=⟨_,rfl⟩;rw[hW]at HG HK HI⊢;clear hW c0 c1 f1;have⟨d0,d1,_⟩:=HK.out.p2;have K:=iH (fun q=>pick_q (c:=c) i3 m HI.out Hin.out m0 m1 q);have p0:=pick_lo zs i3 m m0;have p1:=pick_hi zs i3 m m0;generalize pick zs i3 m=x at *;go_quiet ((go_at_call 66;exact Calls.quiet_of_same (K.out _)));go_wp2;go_ret;exact⟨x,rfl,p0,p1,HG.out.below (bel_drewN (Below.refl _ _) _)⟩
def poolN (pool:List ByteArray) (turn n:Nat):List ByteArray:=(List.range n).map fun i=>pool[(i+turn) % pool.length]?.getD ⟨#[]⟩
theorem poolN_succ (pool:List ByteArray) (turn n:Nat):poolN pool turn (n+1)=poolN pool turn n ++ [pool[(n+turn) % pool.length]?.getD ⟨#[]⟩]:=by simp[poolN,List.range_succ]
@[simp] theorem poolN_length (pool : List ByteArray) (turn n : Nat) : (poolN pool turn n).length = n := by simp [poolN]
def SomeG (V:World) (g:Nat) (pool:List ByteArray) (most:Nat) (e:Ending) (W:World):Prop :=
 ∃v turn n,e=.returned v∧turn<pool.length∧1<=n∧n<=most∧W.ownsRow V.heap.size 9 1 v n (strs (poolN pool turn n))∧GSt V W g
theorem some_g {b:Nat} (c:Nat) {pool:List ByteArray} (most:Nat) (h:GOk w g) (hp:Bk w b 9 (strs pool)) (hb:b≠g) (h0:0<pool.length) (h1:pool.length<=1000) (m0:1<=most) (m1:most<=1000) :
 Calls Tryz.prog 33 #[.pointer (some ⟨g,0,none⟩),.slice (some ⟨b,0,none⟩) pool.length c,.int .i64 most] w (SomeG w g pool most):=by
 obtain⟨i0,hinf,hz0,hz1,hz2⟩:=info_parts info9;obtain⟨np,hnp⟩:∃np,pool.length=np:=⟨_,rfl⟩;have Hnp:=iH hnp;rw[hnp]at h0 h1⊢;have H:=iH h;have HP:=iH hp;clear h hp hnp;go_enter Tryz.func33,Tryz.ntmps33;go_wp2_with fail;(with_reducible refine(next_g (np:Int) H.out (by omega) (by omega)).mono ?_);rintro e w1 ⟨x,rfl,x0,x1,hs1⟩;obtain⟨turn,rfl⟩:=Int.eq_ofNat_of_zero_le x0;have HS1:=iH hs1;clear hs1 x0;go_wp2_with fail;(with_reducible refine(next_g (most:Int) HS1.out.ok (by omega) (by omega)).mono ?_);rintro e w2 ⟨y,rfl,y0,y1,hs2⟩;obtain⟨y,rfl⟩:=Int.eq_ofNat_of_zero_le y0;have HS2:=iH (HS1.out.trans hs2);clear hs2 HS1 y0;have HP2:=iH (HS2.out.bk HP.out hb);go_wp2_with fail;go_loopw [9,10] (fun v i wr=>∃k:Nat,k<=1+y∧i=.int .i64 k∧wr.ownsRow w.heap.size 9 1 v k (strs (poolN pool turn k))∧Bk wr b 9 (strs pool)∧GSt w wr g) (fun _ i _=>1+y-(intOf i).toNat)
 case atStart=>exact⟨0,by omega,rfl,World.ownsRow_nil _ _ _ _,HP2.out,HS2.out⟩
 case round =>
  obtain⟨k,hk,rfl,hown,hbk,hst⟩:=hrel;have HO:=iH hown;have HB:=iH hbk;have HS:=iH hst;have hsz:=hst.size;have hbl:=HP.out.lt;clear hown hbk hst;by_cases hlt:k<1+y
  ·obtain⟨j,hj⟩:∃j,(k+turn) % np=j:=⟨_,rfl⟩;have hjn:j<np:=by rw[<- hj];exact Nat.mod_lt _ h0
   have e1:((k:Int)+(turn:Int)) % (np:Int)=(j:Int):=by rw[<- hj];simp
   have HT:=iH (poolN_succ pool turn k);rw[Hnp.out,hj]at HT;have hjp:j<pool.length:=by rw[Hnp.out];exact hjn
   have c0:wr.cell? ⟨b,j,none⟩=some (.string pool[j]):=(HB.out.cell j).trans (by simp[strs,hjp]);have e2:pool[j]?.getD ⟨#[]⟩=pool[j]:=by simp[hjp]
   rw[e2]at HT;generalize pool[j]=s at *;have hbw:=HB.out.lt;clear hj hjp e2;go_wp2_with(at_builtin;refine wpList_append_own_at _ rfl _ _ 39 rfl w.heap.size 9 i0 (.string ⟨#[]⟩) 1 16 Tryz.underlying39 hinf hz0 hz1 hz2 rfl (by decide) _ k (strs (poolN pool turn k)) rfl (HO.out.alloc _) ⟨wr.heap.size,0,none⟩ 1 1 [.string s] rfl rfl (new1 _ _ _) (one1s _) (by unfold maxLen;omega) (by omega) (by simp;omega) ?_);intro v' w3 hown' hgrow _ _;have hbase:=row_base HO.out;have HB3:=iH ((HB.out.alloc (.cells #[.string s] 9)).grown hgrow (fun e=>by have:=hbase b e.symm;omega));have HS3:=iH ((HS.out.alloc (.cells #[.string s] 9)).grow hgrow hbase);have HO3:=iH hown';clear hown' hgrow;go_wp2;go_roundw
   case rel=>exact⟨k+1,by omega,by go_num,by rw[HT.out,strs_snoc];exact HO3.out,HB3.out,HS3.out⟩
   case measure=>simp[intOf];omega
  ·obtain rfl:1+y=k:=by omega
   have ht:turn<pool.length:=by rw[Hnp.out];omega
   go_wp2;go_ret;exact⟨_,turn,1+y,rfl,ht,by omega,by omega,HO.out,HS.out⟩
end
end
section
def Am (n:Nat) (l:List P2):Prop:=l.Pairwise (fun a b=>a.1<b.1)∧∀p∈l,0<=p.1∧p.1<n∧1<=p.2∧p.2<=4
theorem Am.snoc {k:Nat} {l:List P2} (h:Am k l) {x:Int} (h1:1<=x) (h2:x<=4):Am (k+1) (l ++ [((k:Int),x)]):=by
 refine⟨List.pairwise_append.2 ⟨h.1,by simp,fun a ha b hb=>?_⟩,fun p hp=>?_⟩
 ·rw[List.mem_singleton.1 hb];have:=h.2 a ha;dsimp only;omega
 ·rcases List.mem_append.1 hp with hp | hp
  ·have:=h.2 p hp;omega
  ·rw[List.mem_singleton.1 hp];dsimp only;omega
theorem Am.mono {k n:Nat} {l:List P2} (h:Am k l) (hkn:k<=n):Am n l:=⟨h.1,fun p hp=>by have:=h.2 p hp;omega⟩
theorem Am.sort {n:Nat} {l:List P2} (h:Am n l):sortB n l=true:=by
 have key : ∀ k, k <= l.length -> sortTo n l k = true := by
  intro k
  induction k with
  | zero=>intro _;rfl
  | succ k ih =>
    intro hk;have hkl:k<l.length:=by omega
    have e1:itemK l k=l[k].1:=by simp[itemK,hkl]
    have hm:=h.2 l[k] (List.getElem_mem hkl);have e2:lastAt l k<itemK l k:=by
     rw[e1];unfold lastAt;split
     ·omega
     ·have:=List.pairwise_iff_getElem.1 h.1 (k-1) k (by omega) hkl (by omega);simpa[show k-1<l.length by omega]using this
    simp only[sortTo,ih (by omega),decide_eq_true e2];rw[e1,decide_eq_true hm.2.1];rfl
 exact key _ (Nat.le_refl _)
theorem Am.units {n:Nat} {l:List P2} (h:Am n l):l.all unitP=true:=by
 rw[List.all_eq_true];intro p hp;have:=h.2 p hp;simp only[unitP,Bool.and_eq_true,decide_eq_true_eq];omega
theorem info132:(Tryz.prog.info? 132).map (fun i=>(i.zero,i.size,i.bytes))=some (some (.agg #[.int .i64 0,.int .i64 0]),2,16):=by kernel_rfl
theorem new2 (w:World) (t:TypeId) (a b:Value):∀j u,([a,b]:List Value)[j]? = some u->(w.alloc (.cells #[a,b] t)).cell? ((⟨w.heap.size,0,none⟩:Addr).add j)=some u:=by
 intro j u hj
 match j,hj with
 | 0,hj=>simp at hj;subst hj;simp[Addr.add]
 | 1,hj=>simp at hj;subst hj;simp[Addr.add]
 | j+2,hj=>simp at hj
theorem one2 (x y:Int):∀u∈([.int .i64 x,.int .i64 y]:List Value),u.oneCell'=true:=by
 intro u hu;simp only[List.mem_cons,List.not_mem_nil,or_false]at hu;rcases hu with rfl|rfl <;> rfl
def AmtsG (V:World) (g n most:Nat) (e:Ending) (W:World):Prop :=
 ∃v l,e=.returned v∧W.ownsRow V.heap.size 132 2 v l.length (pcells l)∧Am n l∧l.length<=most∧GSt V W g
theorem amounts_g {w : World} {g : Nat} (n most : Nat) (h : GOk w g) (hn : n <= 1000) (hm : most <= 1000) :
 Calls Tryz.prog 36 #[.pointer (some ⟨g,0,none⟩),.int .i64 n,.int .i64 most] w (AmtsG w g n most):=by
 obtain⟨i0,hinf,hz0,hz1,hz2⟩:=info_parts info132;have H:=iH h;clear h;go_enter Tryz.func36,Tryz.ntmps36;go_wp2_with fail;go_loopw [7,8,9] (fun v lf i wr=>∃(k:Nat) (l:List P2),k<=n∧l.length<=most∧i=.int .i64 k∧lf=.int .i64 ((most-l.length:Nat):Int)∧wr.ownsRow w.heap.size 132 2 v l.length (pcells l)∧Am k l∧GSt w wr g) (fun _ _ i _=>n-(intOf i).toNat)
 case atStart=>exact⟨0,[],by omega,by simp,rfl,by simp,World.ownsRow_nil _ _ _ _,⟨by simp,by simp⟩,GSt.refl H.out⟩
 case round =>
  obtain⟨k,l,hk,hl,rfl,rfl,hown,hA,hst⟩:=hrel;have HO:=iH hown;have HA:=iH hA;have HS:=iH hst;have hsz:=hst.size;clear hown hA hst;obtain⟨m,hm2⟩:∃m,l.length=m:=⟨_,rfl⟩;have Hm:=iH hm2;rw[hm2]at hl HO⊢;clear hm2;obtain⟨lf,hlf⟩:∃lf,most-m=lf:=⟨_,rfl⟩;have Hlf:=iH hlf;rw[hlf];have hlf2:lf<=1000:=by omega
  clear hlf;by_cases hlt:k<n
  ·by_cases hpos:0<lf
   ·have a1:decide ((0:Int)<(lf:Int))=true:=decide_eq_true (by omega);go_wp2_with fail;(with_reducible refine(next_g 3 HS.out.ok (by omega) (by omega)).mono ?_);rintro e w1 ⟨x,rfl,x0,x1,hs1⟩;have HS1:=iH (HS.out.trans hs1);have hgne:u7.ownBlock≠some g:=fun e=>by have h1:=row_base HO.out g e;have h2:=HS.out.lt;omega
    have HO1:=iH (hs1.own HO.out hgne);clear hs1;by_cases hx:x=0
    ·subst hx;go_wp2_with fail;(with_reducible refine(next_g 4 HS1.out.ok (by omega) (by omega)).mono ?_);rintro e w2 ⟨y,rfl,y0,y1,hs2⟩;have HS2:=iH (HS1.out.trans hs2);have HO2:=iH (hs2.own HO1.out hgne);have hsz2:=HS2.out.size;clear hs2;go_wp2_with(at_builtin;refine wpList_append_own_at _ rfl _ _ 78 rfl w.heap.size 132 i0 (.agg #[.int .i64 0,.int .i64 0]) 2 16 Tryz.underlying78 hinf hz0 hz1 hz2 rfl (by decide) _ m (pcells l) rfl (HO2.out.alloc _) ⟨w2.heap.size,0,none⟩ 1 1 [.int .i64 (k:Int),.int .i64 (1+y)] rfl rfl (new2 _ _ _ _) (one2 _ _) (by unfold maxLen;omega) (by omega) (by simp;omega) ?_);intro v' w3 hown' hgrow _ _;have HS3:=iH ((HS2.out.alloc (.cells #[.int .i64 (k:Int),.int .i64 (1+y)] 132)).grow hgrow (row_base HO2.out));have HO3:=iH hown';clear hown' hgrow;have e1:(lf:Int)-1=((lf-1:Nat):Int):=by omega
     go_wp2;go_roundw
     case rel =>
      refine⟨k+1,l ++ [((k:Int),1+y)],by omega,?_,by go_num,?_,?_,HA.out.snoc (by omega) (by omega),HS3.out⟩
      ·have:=Hm.out;have:=Hlf.out;simp;omega
      ·have h1:=Hm.out;have h2:=Hlf.out
       first
        | (congr 2;simp;omega)
        | (simp;omega)
      ·have h1:=Hm.out;rw[pcells_snoc,List.length_append,h1];exact HO3.out
     case measure=>simp[intOf];omega
    ·have e1:(x == 0)=false:=by simpa using hx
     go_wp2;go_roundw
     case rel=>exact⟨k+1,l,by omega,by have:=Hm.out;omega,by go_num,by rw[Hm.out,Hlf.out],by rw[Hm.out];exact HO1.out,HA.out.mono (by omega),HS1.out⟩
     case measure=>simp[intOf];omega
   ·have a1:decide ((0:Int)<(lf:Int))=false:=decide_eq_false (by omega);have a2:decide (0<lf)=false:=decide_eq_false hpos;go_wp2;go_ret;exact⟨_,l,rfl,by rw[Hm.out];exact HO.out,HA.out.mono hk,by have:=Hm.out;omega,HS.out⟩
  ·go_wp2;go_ret;exact⟨_,l,rfl,by rw[Hm.out];exact HO.out,HA.out.mono hk,by have:=Hm.out;omega,HS.out⟩
def ItemG (V:World) (g:Nat) (nm:ByteArray) (e:Ending) (W:World):Prop :=
 ∃t:It,e=.returned t.val∧t.name=nm∧itFormedB t=true∧itRangeB t=true∧GSt V W g
structure ItAt (V W : World) (g : Nat) (t : It) : Prop where
 st:GSt V W g
 res:Bk W V.heap.size 76 [.string ⟨#[]⟩,.bool false,.bool false,.bool false,.int .i64 0,.int .i64 0,.int .i64 0]
 bx:Bk W (V.heap.size+1) 76 t.cells
section
variable {V W W' : World} {g : Nat} {t t' : It}
theorem ItAt.next (h:ItAt V W g t) (k:GSt W W' g):ItAt V W' g t:=by
 have:=h.st.lt;exact⟨h.st.trans k,k.bk h.res (by omega),k.bk h.bx (by omega)⟩
theorem ItAt.set (h:ItAt V W g t) (j:Nat) (u:Value) (hu:t.cells.set j u=t'.cells):ItAt V (W.setCell ⟨V.heap.size+1,j,none⟩ u) g t' :=
 ⟨h.st.set _ _ _ (by omega),h.res.far (by simp) _,by rw[<- hu];exact h.bx.set j u⟩
end
theorem ItAt.done {V W:World} {g:Nat} {t:It} (h:ItAt V W g t) (f:itFormedB t=true) (r:itRangeB t=true) :
 ItemG V g t.name (.returned t.val) (((((((W.setCell ⟨V.heap.size,0,none⟩ (.string t.name)).setCell ⟨V.heap.size,1,none⟩ (.bool t.object)).setCell ⟨V.heap.size,2,none⟩ (.bool t.mixed)).setCell ⟨V.heap.size,3,none⟩ (.bool t.coin)).setCell ⟨V.heap.size,4,none⟩ (.int .i64 t.wear)).setCell ⟨V.heap.size,5,none⟩ (.int .i64 t.bnd)).setCell ⟨V.heap.size,6,none⟩ (.int .i64 t.level)) ∧
 (((((((W.setCell ⟨V.heap.size,0,none⟩ (.string t.name)).setCell ⟨V.heap.size,1,none⟩ (.bool t.object)).setCell ⟨V.heap.size,2,none⟩ (.bool t.mixed)).setCell ⟨V.heap.size,3,none⟩ (.bool t.coin)).setCell ⟨V.heap.size,4,none⟩ (.int .i64 t.wear)).setCell ⟨V.heap.size,5,none⟩ (.int .i64 t.bnd)).setCell ⟨V.heap.size,6,none⟩ (.int .i64 t.level)).heap[V.heap.size]? = some (.cells #[.string t.name,.bool t.object,.bool t.mixed,.bool t.coin,.int .i64 t.wear,.int .i64 t.bnd,.int .i64 t.level] 76 (0,0)):=by
 refine⟨⟨t,rfl,rfl,f,r,?_⟩,?_⟩
 ·exact((((((h.st.set _ _ _ (by omega)).set _ _ _ (by omega)).set _ _ _ (by omega)).set _ _ _ (by omega)).set _ _ _ (by omega)).set _ _ _ (by omega)).set _ _ _ (by omega)
 ·exact((((((h.res.set 0 _).set 1 _).set 2 _).set 3 _).set 4 _).set 5 _).set 6 _
theorem item_g {w:World} {g:Nat} (nm:ByteArray) (i:Nat) (h:GOk w g) (hi:i<=1000):Calls Tryz.prog 34 #[.pointer (some ⟨g,0,none⟩),.string nm,.int .i64 i] w (ItemG w g nm):=by
 have hA:ItAt w ((w.alloc (.cells #[.string ⟨#[]⟩,.bool false,.bool false,.bool false,.int .i64 0,.int .i64 0,.int .i64 0] 76)).alloc (.cells #[.string nm,.bool false,.bool false,.bool false,.int .i64 0,.int .i64 0,.int .i64 0] 76)) g ⟨nm,false,false,false,0,0,0⟩:=by
  have kx:=Bk.new (w.alloc (.cells #[.string ⟨#[]⟩,.bool false,.bool false,.bool false,.int .i64 0,.int .i64 0,.int .i64 0] 76)) 76 [.string nm,.bool false,.bool false,.bool false,.int .i64 0,.int .i64 0,.int .i64 0];rw[World.size_alloc]at kx;exact⟨((GSt.refl h).alloc _).alloc _,(Bk.new w 76 [.string ⟨#[]⟩,.bool false,.bool false,.bool false,.int .i64 0,.int .i64 0,.int .i64 0]).alloc _,kx⟩
 have HA:=iH hA;clear h hA;go_enter Tryz.func34,Tryz.ntmps34;go_wp2_with fail;(with_reducible refine(next_g 5 HA.out.st.ok (by omega) (by omega)).mono ?_);rintro e w1 ⟨x,rfl,x0,x1,hs1⟩;have HA1:=iH (HA.out.next hs1);clear hs1 HA;by_cases hx0:x=0
 ·subst hx0;have x:=HA1.out.bx.k2;have y:=HA1.out.bx.frozen 2;have z:=HA1.out.bx.lt;have HA2:=iH (HA1.out.set (t':=⟨nm,false,true,false,0,0,0⟩) 2 (.bool true) rfl);go_upto_region 11 with fail;obtain⟨W2,hW2⟩:∃W2,w1.setCell ⟨w.heap.size+1,2,none⟩ (.bool true)=W2:=⟨_,rfl⟩;rw[hW2]at HA2⊢;clear hW2 x y z HA1;have x:=HA2.out.bx.k3;have y:=HA2.out.bx.frozen 3;have z:=HA2.out.bx.lt;have HA9:=iH (HA2.out.set (t':=⟨nm,false,true,((i:Int) == 0),0,0,0⟩) 3 (.bool ((i:Int) == 0)) rfl);go_upto_region 12 with fail;obtain⟨W9,hW9⟩:∃W9,W2.setCell ⟨w.heap.size+1,3,none⟩ (.bool ((i:Int) == 0))=W9:=⟨_,rfl⟩;rw[hW9]at HA9⊢;clear hW9 x y z HA2;have x0:=HA9.out.bx.k0;have r0:=HA9.out.res.k0;have f0:=HA9.out.res.frozen 0;have x1:=HA9.out.bx.k1;have r1:=HA9.out.res.k1;have f1:=HA9.out.res.frozen 1;have x2:=HA9.out.bx.k2;have r2:=HA9.out.res.k2;have f2:=HA9.out.res.frozen 2;have x3:=HA9.out.bx.k3;have r3:=HA9.out.res.k3;have f3:=HA9.out.res.frozen 3;have x4:=HA9.out.bx.k4;have r4:=HA9.out.res.k4;have f4:=HA9.out.res.frozen 4;have x5:=HA9.out.bx.k5;have r5:=HA9.out.res.k5;have f5:=HA9.out.res.frozen 5;have x6:=HA9.out.bx.k6;have r6:=HA9.out.res.k6;have f6:=HA9.out.res.frozen 6;have hl9:=HA9.out.bx.lt;have HD:=iH (HA9.out.done (by rfl) (by rfl));generalize((i:Int) == 0)=ci at *;go_wp2;have t1:=HD.out.2;refine bodyPost_ret (v:=.agg #[.string nm,.bool false,.bool true,.bool ci,.int .i64 0,.int .i64 0,.int .i64 0]) (by simp[results,Tryz.results34,go_sem,World.cell?,t1]) rfl HD.out.1
 have e0:(x == 0)=false:=by simpa using hx0
 by_cases hx1:x=1;rotate_left
 ·have e1:(x == 1)=false:=by simpa using hx1
  go_upto_region 11 with fail;have x:=HA1.out.bx.k3;have y:=HA1.out.bx.frozen 3;have z:=HA1.out.bx.lt;have HA9:=iH (HA1.out.set (t':=⟨nm,false,false,((i:Int) == 0),0,0,0⟩) 3 (.bool ((i:Int) == 0)) rfl);go_upto_region 12 with fail;obtain⟨W9,hW9⟩:∃W9,w1.setCell ⟨w.heap.size+1,3,none⟩ (.bool ((i:Int) == 0))=W9:=⟨_,rfl⟩;rw[hW9]at HA9⊢;clear hW9 x y z HA1;have x0:=HA9.out.bx.k0;have r0:=HA9.out.res.k0;have f0:=HA9.out.res.frozen 0;have x1:=HA9.out.bx.k1;have r1:=HA9.out.res.k1;have f1:=HA9.out.res.frozen 1;have x2:=HA9.out.bx.k2;have r2:=HA9.out.res.k2;have f2:=HA9.out.res.frozen 2;have x3:=HA9.out.bx.k3;have r3:=HA9.out.res.k3;have f3:=HA9.out.res.frozen 3;have x4:=HA9.out.bx.k4;have r4:=HA9.out.res.k4;have f4:=HA9.out.res.frozen 4;have x5:=HA9.out.bx.k5;have r5:=HA9.out.res.k5;have f5:=HA9.out.res.frozen 5;have x6:=HA9.out.bx.k6;have r6:=HA9.out.res.k6;have f6:=HA9.out.res.frozen 6;have hl9:=HA9.out.bx.lt;have HD:=iH (HA9.out.done (by rfl) (by rfl));generalize((i:Int) == 0)=ci at *;go_wp2;have t1:=HD.out.2;refine bodyPost_ret (v:=.agg #[.string nm,.bool false,.bool false,.bool ci,.int .i64 0,.int .i64 0,.int .i64 0]) (by simp[results,Tryz.results34,go_sem,World.cell?,t1]) rfl HD.out.1
 subst hx1;by_cases hi0:0<i;rotate_left
 ·have e1:decide ((0:Int)<(i:Int))=false:=decide_eq_false (by omega);have e2:decide (0<i)=false:=decide_eq_false hi0;have x:=HA1.out.bx.k1;have y:=HA1.out.bx.frozen 1;have z:=HA1.out.bx.lt;have HA2:=iH (HA1.out.set (t':=⟨nm,false,false,false,0,0,0⟩) 1 (.bool false) rfl);go_upto_region 7 with fail;obtain⟨W2,hW2⟩:∃W2,w1.setCell ⟨w.heap.size+1,1,none⟩ (.bool false)=W2:=⟨_,rfl⟩;rw[hW2]at HA2⊢;clear hW2 x y z HA1;have ob:=HA2.out.bx.k1;have obl:=HA2.out.bx.lt;go_upto_region 11 with fail;clear ob obl;have x:=HA2.out.bx.k3;have y:=HA2.out.bx.frozen 3;have z:=HA2.out.bx.lt;have HA9:=iH (HA2.out.set (t':=⟨nm,false,false,((i:Int) == 0),0,0,0⟩) 3 (.bool ((i:Int) == 0)) rfl);go_upto_region 12 with fail;obtain⟨W9,hW9⟩:∃W9,W2.setCell ⟨w.heap.size+1,3,none⟩ (.bool ((i:Int) == 0))=W9:=⟨_,rfl⟩;rw[hW9]at HA9⊢;clear hW9 x y z HA2;have x0:=HA9.out.bx.k0;have r0:=HA9.out.res.k0;have f0:=HA9.out.res.frozen 0;have x1:=HA9.out.bx.k1;have r1:=HA9.out.res.k1;have f1:=HA9.out.res.frozen 1;have x2:=HA9.out.bx.k2;have r2:=HA9.out.res.k2;have f2:=HA9.out.res.frozen 2;have x3:=HA9.out.bx.k3;have r3:=HA9.out.res.k3;have f3:=HA9.out.res.frozen 3;have x4:=HA9.out.bx.k4;have r4:=HA9.out.res.k4;have f4:=HA9.out.res.frozen 4;have x5:=HA9.out.bx.k5;have r5:=HA9.out.res.k5;have f5:=HA9.out.res.frozen 5;have x6:=HA9.out.bx.k6;have r6:=HA9.out.res.k6;have f6:=HA9.out.res.frozen 6;have hl9:=HA9.out.bx.lt;have HD:=iH (HA9.out.done (by rfl) (by rfl));generalize((i:Int) == 0)=ci at *;go_wp2;have t1:=HD.out.2;refine bodyPost_ret (v:=.agg #[.string nm,.bool false,.bool false,.bool ci,.int .i64 0,.int .i64 0,.int .i64 0]) (by simp[results,Tryz.results34,go_sem,World.cell?,t1]) rfl HD.out.1
 have e1:decide ((0:Int)<(i:Int))=true:=decide_eq_true (by omega);have e2:decide (0<i)=true:=decide_eq_true hi0;have x:=HA1.out.bx.k1;have y:=HA1.out.bx.frozen 1;have z:=HA1.out.bx.lt;have HA2:=iH (HA1.out.set (t':=⟨nm,true,false,false,0,0,0⟩) 1 (.bool true) rfl);go_upto_region 7 with fail;obtain⟨W2,hW2⟩:∃W2,w1.setCell ⟨w.heap.size+1,1,none⟩ (.bool true)=W2:=⟨_,rfl⟩;rw[hW2]at HA2⊢;clear hW2 x y z HA1;have ob:=HA2.out.bx.k1;have obl:=HA2.out.bx.lt;go_wp2_with fail;clear ob obl;(with_reducible refine(next_g 9 HA2.out.st.ok (by omega) (by omega)).mono ?_);rintro e w3 ⟨a,rfl,a0,a1,hs3⟩;have HA3:=iH (HA2.out.next hs3);clear hs3 HA2;have x:=HA3.out.bx.k4;have y:=HA3.out.bx.frozen 4;have z:=HA3.out.bx.lt;have HA4:=iH (HA3.out.set (t':=⟨nm,true,false,false,1+a,0,0⟩) 4 (.int .i64 (1+a)) rfl);go_upto_region 9 with fail;obtain⟨W4,hW4⟩:∃W4,w3.setCell ⟨w.heap.size+1,4,none⟩ (.int .i64 (1+a))=W4:=⟨_,rfl⟩;rw[hW4]at HA4⊢;clear hW4 x y z HA3;go_wp2_with fail;(with_reducible refine(next_g 3 HA4.out.st.ok (by omega) (by omega)).mono ?_);rintro e w5 ⟨b,rfl,b0,b1,hs5⟩;have HA5:=iH (HA4.out.next hs5);clear hs5 HA4;have x:=HA5.out.bx.k5;have y:=HA5.out.bx.frozen 5;have z:=HA5.out.bx.lt;have HA6:=iH (HA5.out.set (t':=⟨nm,true,false,false,1+a,b,0⟩) 5 (.int .i64 b) rfl);go_upto_region 10 with fail;obtain⟨W6,hW6⟩:∃W6,w5.setCell ⟨w.heap.size+1,5,none⟩ (.int .i64 b)=W6:=⟨_,rfl⟩;rw[hW6]at HA6⊢;clear hW6 x y z HA5;go_wp2_with fail;(with_reducible refine(next_g 4 HA6.out.st.ok (by omega) (by omega)).mono ?_);rintro e w7 ⟨d,rfl,d0,d1,hs7⟩;have HA7:=iH (HA6.out.next hs7);clear hs7 HA6;have x:=HA7.out.bx.k6;have y:=HA7.out.bx.frozen 6;have z:=HA7.out.bx.lt;have HA8:=iH (HA7.out.set (t':=⟨nm,true,false,false,1+a,b,d⟩) 6 (.int .i64 d) rfl);go_upto_region 11 with fail;obtain⟨W8,hW8⟩:∃W8,w7.setCell ⟨w.heap.size+1,6,none⟩ (.int .i64 d)=W8:=⟨_,rfl⟩;rw[hW8]at HA8⊢;clear hW8 x y z HA7;have ei:((i:Int) == 0)=false:=by simp;omega
 have Hei:=iH ei;clear ei;have x:=HA8.out.bx.k3;have y:=HA8.out.bx.frozen 3;have z:=HA8.out.bx.lt;have HA9:=iH (HA8.out.set (t':=⟨nm,true,false,((i:Int) == 0),1+a,b,d⟩) 3 (.bool ((i:Int) == 0)) rfl);go_upto_region 12 with fail;obtain⟨W9,hW9⟩:∃W9,W8.setCell ⟨w.heap.size+1,3,none⟩ (.bool ((i:Int) == 0))=W9:=⟨_,rfl⟩;rw[hW9]at HA9⊢;clear hW9 x y z HA8;have x0:=HA9.out.bx.k0;have r0:=HA9.out.res.k0;have f0:=HA9.out.res.frozen 0;have x1:=HA9.out.bx.k1;have r1:=HA9.out.res.k1;have f1:=HA9.out.res.frozen 1;have x2:=HA9.out.bx.k2;have r2:=HA9.out.res.k2;have f2:=HA9.out.res.frozen 2;have x3:=HA9.out.bx.k3;have r3:=HA9.out.res.k3;have f3:=HA9.out.res.frozen 3;have x4:=HA9.out.bx.k4;have r4:=HA9.out.res.k4;have f4:=HA9.out.res.frozen 4;have x5:=HA9.out.bx.k5;have r5:=HA9.out.res.k5;have f5:=HA9.out.res.frozen 5;have x6:=HA9.out.bx.k6;have r6:=HA9.out.res.k6;have f6:=HA9.out.res.frozen 6;have hl9:=HA9.out.bx.lt;have HD:=iH (HA9.out.done (by have q1:decide (0<=b)=true:=decide_eq_true b0;have q2:decide (b<=2)=true:=decide_eq_true (by omega);simp only[itFormedB,if_true,Hei.out,q1,q2];rfl) (by have q1:decide (1<=1+a)=true:=decide_eq_true (by omega);have q2:decide (1+a<=1048576)=true:=decide_eq_true (by omega);have q3:decide (0<=d)=true:=decide_eq_true d0;have q4:decide (d<=100)=true:=decide_eq_true (by omega);simp only[itRangeB,q1,q2,q3,q4];rfl));generalize((i:Int) == 0)=ci at *;go_wp2;have t1:=HD.out.2;refine bodyPost_ret (v:=.agg #[.string nm,.bool true,.bool false,.bool ci,.int .i64 (1+a),.int .i64 b,.int .i64 d]) (by simp[results,Tryz.results34,go_sem,World.cell?,t1]) rfl HD.out.1
end
end
set_option linter.unusedVariables false
set_option linter.unusedSimpArgs false
inductive SubA : List P2 -> List P2 -> Prop where
 | nil:SubA [] []
 | skip {t b:List P2} (p:P2):SubA t b->SubA (t ++ [p]) b
 | take {t b:List P2} (x N m:Int):SubA t b->1<=m->m<=N->SubA (t ++ [(x,N)]) (b ++ [(x,m)])
theorem SubA.len {t b:List P2} (h:SubA t b):b.length<=t.length:=by
 induction h with
 | nil=>exact Nat.le_refl _
 | skip p _ ih=>simp;omega
 | take x N m _ _ _ ih=>simp;omega
theorem SubA.empty (t:List P2):SubA t []:=by
 have:∀k,k<=t.length->SubA (t.take k) []:=by
  intro k
  induction k with
  | zero=>intro _;exact .nil
  | succ k ih=>intro hk;rw[List.take_succ_eq_append_getElem (by omega)];exact .skip _ (ih (by omega))
 have h:=this t.length (Nat.le_refl _)
 rwa [List.take_length]at h
theorem Am.init {n:Nat} {l:List P2} {p:P2} (h:Am n (l ++ [p])):Am n l:=⟨(List.pairwise_append.1 h.1).1,fun q hq=>h.2 q (List.mem_append_left _ hq)⟩
theorem SubA.am {n:Nat} {t b:List P2} (h:SubA t b):Am n t->Am n b∧∀q∈b,∃p∈t,p.1=q.1∧q.2<=p.2:=by
 induction h with
 | nil=>intro h;exact⟨h,by simp⟩
 | skip p _ ih =>
   intro h;obtain⟨h1,h2⟩:=ih h.init;refine⟨h1,fun q hq=>?_⟩;obtain⟨p',hp',e⟩:=h2 q hq;exact⟨p',List.mem_append_left _ hp',e⟩
 | take x N m _ h1 h2 ih =>
   intro h;obtain⟨i1,i2⟩:=ih h.init;have hx:=h.2 (x,N) (by simp);dsimp only at hx;refine⟨⟨List.pairwise_append.2 ⟨i1.1,by simp,fun a ha c hc=>?_⟩,fun p hp=>?_⟩,fun q hq=>?_⟩
   ·rw[List.mem_singleton.1 hc];obtain⟨p',hp',e,_⟩:=i2 a ha;have:=(List.pairwise_append.1 h.1).2.2 p' hp' (x,N) (by simp);rw[<- e];exact this
   ·rcases List.mem_append.1 hp with hp | hp
    ·exact i1.2 p hp
    ·rw[List.mem_singleton.1 hp];dsimp only;omega
   ·rcases List.mem_append.1 hq with hq | hq
    ·obtain⟨p',hp',e⟩:=i2 q hq;exact⟨p',List.mem_append_left _ hp',e⟩
    ·rw[List.mem_singleton.1 hq];exact⟨(x,N),by simp,rfl,h2⟩
theorem unitsW_at {n:Nat} {l:List P2} (h:Am n l) {j:Nat} (hj:j<l.length):∀k,k<=l.length->unitsW l l[j].1 k=if j<k then l[j].2 else 0:=by
 intro k
 induction k with
 | zero=>intro _;simp[unitsW]
 | succ k ih =>
   intro hk;have hkl:k<l.length:=by omega
   have e1:itemK l k=l[k].1:=by simp[itemK,hkl]
   have e2:nK l k=l[k].2:=by simp[nK,hkl]
   have hm:=h.2 l[k] (List.getElem_mem hkl);simp only[unitsW,ih (by omega),e1,e2];rcases Nat.lt_trichotomy j k with h1|h1|h1
   ·have:=List.pairwise_iff_getElem.1 h.1 j k hj hkl h1;rw[if_neg (by omega),if_pos h1,if_pos (by omega)]
   ·subst h1;rw[if_pos rfl,if_neg (by omega),if_pos (by omega),Int.zero_add];exact IntWalk.i64_in _ (by omega)
   ·have:=List.pairwise_iff_getElem.1 h.1 k j hkl hj h1;rw[if_neg (by omega),if_neg (by omega),if_neg (by omega)]
theorem unitsW_mem {n:Nat} {l:List P2} (h:Am n l) {p:P2} (hp:p∈l):unitsW l p.1 l.length=p.2:=by
 obtain⟨j,hj,rfl⟩:=List.getElem_of_mem hp;rw[unitsW_at h hj _ (Nat.le_refl _),if_pos hj]
theorem SubA.cont {n:Nat} {t b:List P2} (h:SubA t b) (ht:Am n t):contB t b=true:=by
 obtain⟨hb,hs⟩:=h.am ht;have key:∀k,k<=b.length->contTo t b k=true:=by
  intro k
  induction k with
  | zero=>intro _;rfl
  | succ k ih =>
    intro hk;have hkl:k<b.length:=by omega
    have e1:itemK b k=b[k].1:=by simp[itemK,hkl]
    obtain⟨p,hp,e,hle⟩:=hs b[k] (List.getElem_mem hkl);have u1:=unitsW_mem hb (List.getElem_mem hkl);have u2:=unitsW_mem ht hp;rw[e]at u2;simp only[contTo,ih (by omega),Bool.true_and,e1,u1,u2,decide_eq_true_eq];exact hle
 exact key _ (Nat.le_refl _)
section
def KOk (w:World) (g:Nat):Prop:=∃(A:Option Addr) (n c:Nat) (zs:List Int) (i:Int),Bk w g 97 [.slice A n c,.int .i64 i]∧IntsV w A n zs∧(∀b off,A=some ⟨b,off,none⟩->b<g)∧In64 i
section
variable {w w' V W W' X : World} {g : Nat}
theorem KOk.lt (h:KOk w g):g<w.heap.size:=by obtain⟨A,n,c,zs,i,h1,_⟩:=h;exact h1.lt
theorem KOk.below (h:KOk w g) (hb:Below w.heap.size w w'):KOk w' g:=by
 obtain⟨A,n,c,zs,i,h1,h2,h3,h4⟩:=h;exact⟨A,n,c,zs,i,h1.below hb h1.lt,h2.below hb,h3,h4⟩
theorem KOk.keep {b:Nat} (h:KOk w g) (hg:w.grownBy w' (some b)) (hb:g<b):KOk w' g:=by
 obtain⟨A,n,c,zs,i,h1,h2,h3,h4⟩:=h;exact⟨A,n,c,zs,i,h1.grown hg (by simp;omega),⟨(row_far h2.row hg (fun b' off e=>by have:=h3 b' off e;omega) (Nat.le_refl _)).more hg.size,h2.len,h2.wf⟩,h3,h4⟩
theorem KOk.row {v:Value} (h:KOk w g) (hg:w.grownBy w' v.ownBlock) (hb:∀b,v.ownBlock=some b->g<b):KOk w' g:=by
 cases hv:v.ownBlock with
 | none=>rw[hv]at hg;exact h.below ⟨hg.os,hg.tape,hg.output,hg.size,fun b hb=>hg.block b hb (by simp)⟩
 | some b=>rw[hv]at hg;exact h.keep hg (hb b hv)
structure KSt (V W : World) (g : Nat) : Prop where
 gr:V.grownBy W (some g)
 ok:KOk W g
 lt:g<V.heap.size
theorem KSt.refl (h:KOk V g):KSt V V g:=⟨⟨rfl,rfl,rfl,Nat.le_refl _,fun _ _ _=>rfl⟩,h,h.lt⟩
theorem KSt.trans (h:KSt V W g) (k:KSt W X g):KSt V X g:=⟨grown_trans h.gr k.gr,k.ok,h.lt⟩
theorem KSt.size (h:KSt V W g):V.heap.size<=W.heap.size:=h.gr.size
theorem KSt.below (h:KSt V W g) (hb:Below W.heap.size W W'):KSt V W' g:=⟨grown_trans h.gr (grown_of_below hb _),h.ok.below hb,h.lt⟩
theorem KSt.alloc (h:KSt V W g) (o:Obj):KSt V (W.alloc o) g:=h.below ((Below.refl _ _).alloc (Nat.le_refl _) o)
theorem KSt.grow {row:Option Nat} (h:KSt V W g) (hg:W.grownBy W' row) (hr:∀b,row=some b->V.heap.size<=b):KSt V W' g:=by
 have hlt:=h.lt;refine⟨⟨hg.os.trans h.gr.os,hg.tape.trans h.gr.tape,hg.output.trans h.gr.output,Nat.le_trans h.gr.size hg.size,fun i hi hne=>(hg.block i (Nat.lt_of_lt_of_le hi h.gr.size) (fun e=>?_)).trans (h.gr.block i hi hne)⟩,?_,hlt⟩
 ·have:=hr i e.symm;omega
 ·cases row with
  | none=>exact h.ok.below ⟨hg.os,hg.tape,hg.output,hg.size,fun b hb=>hg.block b hb (by simp)⟩
  | some b=>exact h.ok.keep hg (by have:=hr b rfl;omega)
theorem KSt.set (h:KSt V W g) (b k:Nat) (u:Value) (hb:V.heap.size<=b):KSt V (W.setCell ⟨b,k,none⟩ u) g:=h.grow (grown_setCell W b k u) (fun b' e=>by cases e;exact hb)
theorem KSt.bk (h:KSt V W g) {b:Nat} {t:TypeId} {xs:List Value} (k:Bk V b t xs) (hne:b≠g):Bk W b t xs:=k.grown h.gr (by simpa using hne)
theorem KSt.keep (h:KSt V W g) (hg:KOk V g) (t:TypeId) (ht:t≠97):Keep t V W:=by
 obtain⟨A,n,c,zs,i,h1,_⟩:=hg;refine .grown h.gr fun cur fl e=>?_
 unfold Bk at h1;rw[h1]at e;cases e;exact ht rfl
theorem KSt.own (h:KSt V W g) {base e size n:Nat} {v:Value} {xs:List Value} (k:V.ownsRow base e size v n xs) (hne:v.ownBlock≠some g):W.ownsRow base e size v n xs:=k.kept h.gr (.inr hne)
def NextK (V:World) (g:Nat) (m:Int) (e:Ending) (W:World):Prop:=∃x,e=.returned (.int .i64 x)∧0<=x∧x<m∧KSt V W g
theorem next_k (m:Int) (h:KOk w g) (m0:1<=m) (m1:m<=9223372036854775807):Calls Tryz.prog 59 #[.pointer (some ⟨g,0,none⟩),.int .i64 m] w (NextK w g m):=by
 obtain⟨A,n,c,zs,i,h1,h2,h3,h4⟩:=h;have hlt:=h1.lt;have⟨c0,c1,_⟩:=h1.p2;have f1:=h1.frozen 1;obtain⟨i2,hi2⟩:∃i2,IntKind.i64.wrap (i+1)=i2:=⟨_,rfl⟩;obtain⟨i3,hi3⟩:∃i3,IntKind.i64.wrap (i2-1)=i3:=⟨_,rfl⟩;have in3:In64 i3:=by rw[<- hi3];exact in64_wrap _
 have hg:=grown_setCell w g 1 (.int .i64 i2);have hI:IntsV (w.setCell ⟨g,1,none⟩ (.int .i64 i2)) A n zs:=⟨(row_far h2.row hg (fun b' off e=>by have:=h3 b' off e;omega) (Nat.le_refl _)).more hg.size,h2.len,h2.wf⟩;have HG:Hid (KSt w (w.setCell ⟨g,1,none⟩ (.int .i64 i2)) g):=⟨hg,⟨A,n,c,zs,i2,h1.set 1 _,hI,h3,by rw[<- hi2];exact in64_wrap _⟩,hlt⟩;have HK:Hid (Bk (w.setCell ⟨g,1,none⟩ (.int .i64 i2)) g 97 [.slice A n c,.int .i64 i2]):=h1.set 1 _;have HI:=iH hI;have Hin:=iH in3;clear h1 h2 h3 h4 hg hI in3;go_enter Tryz.func59,Tryz.ntmps59;go_wp2_with fail;obtain⟨W,hW⟩:∃W,w.setCell ⟨g,1,none⟩ (.int .i64 i2)=W:=⟨_,rfl⟩;rw[hW]at HG HK HI⊢;clear hW c0 c1 f1;have⟨d0,d1,_⟩:=HK.out.p2;have K:=iH (fun q=>pick_q (c:=c) i3 m HI.out Hin.out m0 m1 q);have p0:=pick_lo zs i3 m m0;have p1:=pick_hi zs i3 m m0;generalize pick zs i3 m=x at *;go_quiet ((go_at_call 66;exact Calls.quiet_of_same (K.out _)));go_wp2;go_ret;exact⟨x,rfl,p0,p1,HG.out.below (bel_drewN (Below.refl _ _) _)⟩
end
end
theorem sizeL_app (l:List Mk) (k:Mk):Mk.sizeL (l ++ [k])=Mk.sizeL l+k.size:=by
 induction l with
 | nil=>simp[Mk.sizeL]
 | cons x xs ih=>simp[Mk.sizeL,ih];omega
theorem sizeL_le (l:List Mk) (j:Nat):Mk.sizeL (l.take j)<=Mk.sizeL l:=by
 induction l generalizing j with
 | nil=>simp
 | cons x xs ih =>
   cases j with
   | zero=>simp[Mk.sizeL]
   | succ j=>simp only[List.take_succ_cons,Mk.sizeL];have:=ih j;omega
theorem depthL_app (l:List Mk) (k:Mk):Mk.depthL (l ++ [k])=max (Mk.depthL l) k.depth:=by
 induction l with
 | nil=>simp[Mk.depthL]
 | cons x xs ih=>simp[Mk.depthL,ih,Nat.max_assoc]
theorem core_size (M:MkM):M.core.size=1+Mk.sizeL (M.ks.map MkM.core):=by cases M;simp[MkM.core,Mk.size,coreL_map];omega
theorem core_depth (M:MkM):M.core.depth=Mk.depthL (M.ks.map MkM.core)+1:=by cases M;simp[MkM.core,Mk.depth,coreL_map]
theorem kid_size {M t:MkM} (h:t∈M.ks):t.core.size<M.core.size:=by
 rw[core_size M];have:=Mk.size_mem (List.mem_map_of_mem (f:=MkM.core) h);omega
mutual
theorem depth_size:∀m:Mk,m.depth<=m.size
 | .node op a b ks=>by have:=depthL_size ks;simp only[Mk.depth,Mk.size];omega
theorem depthL_size:∀l:List Mk,Mk.depthL l<=Mk.sizeL l
 | []=>Nat.le_refl _
 | k :: ks=>by have:=depth_size k;have:=depthL_size ks;simp only[Mk.depthL,Mk.sizeL];omega
end
theorem size_any:∀(M:MkM) (w:World) (P:Nat->Prop),M.Ok w 35 P->M.core.size<=1000000000->Calls Tryz.prog 41 #[.agg #[.string M.op,.int .i64 M.a,.int .i64 M.b,.slice M.s.A M.s.n M.s.c]] w fun e w'=>e=.returned (.int .i64 (M.core.size:Nat))∧Below w.heap.size w w':=by
 intro M
 induction M using MkM.ind with
 | h M ih =>
   intro w P h hsm;have y:Below w.heap.size w (w.alloc (.cells #[.string M.op,.int .i64 M.a,.int .i64 M.b,.slice M.s.A M.s.n M.s.c] 35)):=(Below.refl _ _).alloc (Nat.le_refl _) _;have Hn:=iH h.len;have H:=iH h;have hs:=h.small;have HI:=iH ih;have HS:=iH hsm;have hT:=core_size M;have HKS:Hid (∀t∈M.ks,t.core.size<M.core.size):=fun t ht=>kid_size ht
   generalize M.core.size=T at *;have HT:=iH hT;obtain⟨mop,ma,mbb,l,s⟩:=M;dsimp only[MkM.ks,MkM.s,MkM.op,MkM.a,MkM.b]at *;obtain⟨A,n,c⟩:=s;dsimp only at *;have B0:=iH (Bk.new w 35 [.string mop,.int .i64 ma,.int .i64 mbb,.slice A n c]);clear h ih hT hsm;go_enter Tryz.func41,Tryz.ntmps41;go_wp2_with fail;go_loopw [3,4] (fun v i wr=>∃k x:Nat,k<=n∧i=.int .i64 k∧x=1+Mk.sizeL ((l.take k).map MkM.core)∧v=.int .i64 x∧Below w.heap.size w wr∧Bk wr w.heap.size 35 [.string mop,.int .i64 ma,.int .i64 mbb,.slice A n c]) (fun _ i _=>n-(intOf i).toNat)
   case atStart=>exact⟨0,1,Nat.zero_le _,rfl,rfl,rfl,y,B0.out⟩
   case round =>
    obtain⟨k,x,hk,rfl,hx,rfl,hb,hbx⟩:=hrel;have HB:=iH hb;have HX:=iH hbx;have hsz:=hb.size;have hxl:=hbx.lt;have b3:=hbx.k3;have hxT:x<=T:=by
     have h1:=sizeL_le (l.map MkM.core) k;rw[<- List.map_take]at h1;have h2:=HT.out;omega
    have hxb:x<=1000000000:=Nat.le_trans hxT HS.out;by_cases hlt:k<n
    ·have hkl:k<l.length:=by have:=Hn.out;omega
     obtain⟨b,off,rfl,hbb,c0,c1,c2,c3⟩:=(H.out.bel hb).at_ k hkl;dsimp only[MkM.ks,MkM.s]at c0 c1 c2 c3;have hmem:=List.getElem_mem hkl;have HX2:Hid (x+l[k].core.size=1+Mk.sizeL ((l.take (k+1)).map MkM.core)):=by
      show _=_;rw[List.take_succ_eq_append_getElem hkl,List.map_append,List.map_cons,List.map_nil,sizeL_app,hx];omega
     have hks:=HKS.out _ hmem;have HC:=iH (HI.out l[k] hmem wr P ((H.out.bel hb).each l[k] hmem) (by have:=HS.out;omega));have hzb:l[k].core.size<=1000000000:=by have:=HS.out;omega
     clear hmem hx hb hbx hks;generalize l[k]=t at *;generalize t.core.size=z at *;clear hkl;have hwz:IntKind.i64.wrap ((x:Int)+(z:Int))=((x+z:Nat):Int):=by simp[IntKind.wrap_i64];omega
     go_wp2_with fail;refine HC.out.mono ?_;rintro e w1 ⟨rfl,hb1⟩;have HB3:=iH (HB.out.trans (hb1.mono HB.out.size));have HX3:=iH (HX.out.below hb1 HX.out.lt);clear HC hb1 HB HX;generalize hxz:x+z=xz at *;go_wp2;go_roundw
     case rel=>exact⟨k+1,xz,by omega,by go_num,HX2.out,rfl,HB3.out,HX3.out⟩
     case measure=>simp[intOf];omega
    ·have hkn:k=n:=by omega
     have HF:Hid (x=T):=by
      show x=T;rw[hx,HT.out,hkn,List.take_of_length_le (by have:=Hn.out;omega)]
     clear hx hkn;go_wp2;go_ret;exact⟨by rw[HF.out];rfl,HB.out⟩
theorem depth_any:∀(M:MkM) (w:World) (P:Nat->Prop),M.Ok w 35 P->M.core.size<=1000000000->Calls Tryz.prog 57 #[.agg #[.string M.op,.int .i64 M.a,.int .i64 M.b,.slice M.s.A M.s.n M.s.c]] w fun e w'=>e=.returned (.int .i64 (M.core.depth:Nat))∧Below w.heap.size w w':=by
 intro M
 induction M using MkM.ind with
 | h M ih =>
   intro w P h hsm;have y:Below w.heap.size w (w.alloc (.cells #[.string M.op,.int .i64 M.a,.int .i64 M.b,.slice M.s.A M.s.n M.s.c] 35)):=(Below.refl _ _).alloc (Nat.le_refl _) _;have Hn:=iH h.len;have H:=iH h;have hs:=h.small;have HI:=iH ih;have HS:=iH hsm;have hT:=core_depth M;have HKS:Hid (∀t∈M.ks,t.core.size<M.core.size):=fun t ht=>kid_size ht
   have hdT:=depth_size M.core;generalize M.core.depth=T at *;have HT:=iH hT;generalize M.core.size=T2 at *;obtain⟨mop,ma,mbb,l,s⟩:=M;dsimp only[MkM.ks,MkM.s,MkM.op,MkM.a,MkM.b]at *;obtain⟨A,n,c⟩:=s;dsimp only at *;have B0:=iH (Bk.new w 35 [.string mop,.int .i64 ma,.int .i64 mbb,.slice A n c]);clear h ih hT hsm;go_enter Tryz.func57,Tryz.ntmps57;go_wp2_with fail;go_loopw [3,4] (fun v i wr=>∃k x:Nat,k<=n∧i=.int .i64 k∧x=Mk.depthL ((l.take k).map MkM.core)∧x<=1000000000∧v=.int .i64 x∧Below w.heap.size w wr∧Bk wr w.heap.size 35 [.string mop,.int .i64 ma,.int .i64 mbb,.slice A n c]) (fun _ i _=>n-(intOf i).toNat)
   case atStart=>exact⟨0,0,Nat.zero_le _,rfl,rfl,by decide,rfl,y,B0.out⟩
   case round =>
    obtain⟨k,x,hk,rfl,hx,hxb,rfl,hb,hbx⟩:=hrel;have HB:=iH hb;have HX:=iH hbx;have hsz:=hb.size;have hxl:=hbx.lt;have b3:=hbx.k3;by_cases hlt:k<n
    ·have hkl:k<l.length:=by have:=Hn.out;omega
     obtain⟨b,off,rfl,hbb,c0,c1,c2,c3⟩:=(H.out.bel hb).at_ k hkl;dsimp only[MkM.ks,MkM.s]at c0 c1 c2 c3;have hmem:=List.getElem_mem hkl;have HX2:Hid (max x l[k].core.depth=Mk.depthL ((l.take (k+1)).map MkM.core)):=by
      show _=_;rw[List.take_succ_eq_append_getElem hkl,List.map_append,List.map_cons,List.map_nil,depthL_app,hx]
     have hks:=HKS.out _ hmem;have HC:=iH (HI.out l[k] hmem wr P ((H.out.bel hb).each l[k] hmem) (by have:=HS.out;omega));have hzb:l[k].core.depth<=1000000000:=by have:=HS.out;have:=depth_size l[k].core;omega
     clear hmem hx hb hbx hks;generalize l[k]=t at *;generalize t.core.depth=z at *;clear hkl;go_wp2_with fail;refine HC.out.mono ?_;rintro e w1 ⟨rfl,hb1⟩;have HB3:=iH (HB.out.trans (hb1.mono HB.out.size));have HX3:=iH (HX.out.below hb1 HX.out.lt);clear HC hb1 HB HX;go_wp2;go_roundw
     case rel=>exact⟨k+1,max x z,by omega,by go_num,HX2.out,by omega,by go_num,HB3.out,HX3.out⟩
     case measure=>simp[intOf];omega
    ·have hkn:k=n:=by omega
     have HF:Hid (T=x+1):=by
      show T=_;rw[hx,HT.out,hkn,List.take_of_length_le (by have:=Hn.out;omega)]
     have hw1:IntKind.i64.wrap ((x:Int)+1)=((x+1:Nat):Int):=by simp[IntKind.wrap_i64];omega
     clear hx hkn;go_wp2;go_ret;exact⟨by rw[HF.out];go_num,HB.out⟩
section
section
variable {P : Program} {ops : Array Oper} {Q : Exit -> Act -> World -> Prop} {md : Region.Mode} {S : World -> Prop} {T : Nat}
theorem wpAnyX_firstU {i:Nat} {oi:Oper} {v:Value} (hi:ops[i]? = some oi) (hsel:∀(j:Nat) (o:Oper) cs b,ops[j]? = some o->o.op≠.select cs b)
 (hT:ops[T]? = none) (hQ:∀c a w,Q (.panic c) (a.put oi.dst v) w->Q (.panic c) a w) :
 ∀(fuel:Nat) (listed:Array Bool) (a:Act) (w:World),
  (∀j oj,ops[j]? = some oj->j≠i->listed.getD j true=false->(∀e∈oj.after,Region.binds md e=true->e.on≠i)->oi.apart ops oj=true) ->
  i∈Region.ready md ops listed->YieldsIf P ops S oi v a->S w ->
  wpAnyX P md ops Q S T fuel (listed.setIfInBounds i true) (a.put oi.dst v) w->wpAnyX P md ops Q S T (fuel+1) listed a w:=by
 intro fuel
 induction fuel with
 | zero =>
   intro listed a w _ hr hy hS H;refine .inr ⟨fun h=>(by rw[h]at hr;cases hr),fun j hj=>?_⟩;by_cases hji:j=i
   ·subst hji;exact hy.wpOp hi hS ⟨hS,H⟩
   ·have:=ready_mono hj hji;rw[H.1]at this;cases this
 | succ fuel ih =>
   intro listed a w hfree hr hy hS H;refine .inr ⟨fun h=>(by rw[h]at hr;cases hr),fun j hj=>?_⟩;by_cases hji:j=i
   ·subst hji;exact hy.wpOp hi hS ⟨hS,H⟩
   ·obtain⟨hjun,oj,hoj,hall⟩:=mem_ready.1 hj;have hnot:∀e∈oj.after,Region.binds md e=true->e.on≠i:=fun e he hb heq=>by
     have h1:=hall e he hb;have h0:=(mem_ready.1 hr).1;rw[heq]at h1;rcases Nat.lt_or_ge i listed.size with h'|h'
     ·simp[h']at h0 h1;rw[h0]at h1;cases h1
     ·simp[Array.getElem?_eq_none h']at h1
    rcases H with H|H
    ·have h1:=ready_mono hj hji;rw[H.1]at h1;obtain rfl:j=T:=by simpa using h1
     rw[hT]at hoj;cases hoj
    ·have h1:=H.2 j (ready_mono hj hji);have h2:=wpOp_putIf hoj (hfree j oj hoj hji hjun hnot) (fun cs b=>hsel i oi cs b hi) (fun cs b=>hsel j oj cs b hoj) hQ hy h1;have hfree':∀k ok,ops[k]? = some ok->k≠i->(listed.setIfInBounds j true).getD k true=false ->
      (∀e∈ok.after,Region.binds md e=true->e.on≠i)->oi.apart ops ok=true:=fun k ok hk hki hun hno=>by
      refine hfree k ok hk hki ?_ hno;by_cases hjk:j=k
      ·subst hjk;exact hjun
      ·rw[getD_set_ne true hjk]at hun;exact hun
     refine wpOp_mono (fun a' w' h3=>⟨h3.2.1,ih (listed.setIfInBounds j true) a' w' hfree' (ready_mono hr (Ne.symm hji)) h3.1 h3.2.1 ?_⟩) h2;rw[Array.setIfInBounds_comm _ _ hji];exact h3.2.2
theorem X_takeU (i:Nat) (d:Option Tmp) {oi:Oper} {v:Value} {fuel:Nat} {listed listed':Array Bool} {a:Act} {w:World} (hi:ops[i]? = some oi) (hd:oi.dst=d) (hl:listed.setIfInBounds i true=listed')
 (hB:(Region.noSelect ops && Region.free md ops listed i && (Region.ready md ops listed).contains i)=true) (hT:ops[T]? = none)
 (hQ:∀c a w,Q (.panic c) (a.put oi.dst v) w->Q (.panic c) a w) (hy:Region.wanted oi (yielded ops a.tmps)=true∧∀w,S w->(execOp a.eval oi).run P w=.ok (.value v) w) (hS:S w)
 (h:wpAnyX P md ops Q S T fuel listed' (a.put d v) w):wpAnyX P md ops Q S T (fuel+1) listed a w:=by
 simp only[Bool.and_eq_true]at hB;subst hd hl;exact wpAnyX_firstU hi (Region.noSelect_spec hB.1.1) hT hQ fuel listed a w (Region.free_spec hi hB.1.2) (by simpa using hB.2) (.inl hy) hS h
theorem tU (i:Nat)(d:Option Tmp){oi:Oper}{v:Value}{fuel:Nat}{listed:Array Bool}{a:Act}{w:World}(hi:ops[i]?=some oi)
 (hy:Region.wanted oi (yielded ops a.tmps)=true∧∀w,S w→(execOp a.eval oi).run P w=.ok (.value v) w)(hS:S w)
 (h:wpAnyX P md ops Q S T fuel (listed.setIfInBounds i true) (a.put d v) w)(hd:oi.dst=d:=by rfl)(hT:ops[T]?=none:=by rfl)(hQ:∀c a w,Q (.panic c) (a.put oi.dst v) w→Q (.panic c) a w:=by exact fun _ _ _ h=>h)(hB:(Region.noSelect ops&&Region.free md ops listed i&&(Region.ready md ops listed).contains i)=true:=by kernel_rfl):wpAnyX P md ops Q S T (fuel+1) listed a w:=X_takeU i d hi hd rfl hB hT hQ hy hS h
theorem uT (i d:Nat){oi:Oper}{v:Value}{fuel:Nat}{listed:Array Bool}{a:Act}{w:World}(hS:S w)(h:wpAnyX P md ops Q S T fuel (listed.setIfInBounds i true) (a.put (some d) v) w)(hi:ops[i]?=some oi:=by rfl)
 (hw:Region.wanted oi (yielded ops a.tmps)=true:=by rfl)(hy:∀w,S w->(execOp a.eval oi).run P w=.ok (.value v) w:=by (intro w' hS';(go_simp;try with_reducible rfl)))(hd:oi.dst=some d:=by rfl)(hT:ops[T]?=none:=by rfl)(hQ:∀c a w,Q (.panic c) (a.put oi.dst v) w->Q (.panic c) a w:=by exact fun _ _ _ h=>h)(hB:(Region.noSelect ops&&Region.free md ops listed i&&(Region.ready md ops listed).contains i)=true:=by kernel_rfl):wpAnyX P md ops Q S T (fuel+1) listed a w:=X_takeU i (some d) hi hd rfl hB hT hQ ⟨hw,hy⟩ hS h
theorem uS (i d:Nat){oi:Oper}{v:Value}{fuel:Nat}{listed:Array Bool}{a a':Act}{w:World}(hS:S w)(h:wpAnyX P md ops Q S T fuel (listed.setIfInBounds i true) a' w)(hi:ops[i]?=some oi:=by rfl)
 (hw:Region.wanted oi (yielded ops a.tmps)=true:=by rfl)(hy:∀w,S w->(execOp a.eval oi).run P w=.ok (.value v) w:=by (intro w' hS';(go_simp;try with_reducible rfl)))(ha:a.put (some d) v=a':=by (simp only[Act.put,Pa,Pb,Pc];rfl))(hd:oi.dst=some d:=by rfl)(hT:ops[T]?=none:=by rfl)(hQ:∀c a w,Q (.panic c) (a.put oi.dst v) w->Q (.panic c) a w:=by exact fun _ _ _ h=>h)(hB:(Region.noSelect ops&&Region.free md ops listed i&&(Region.ready md ops listed).contains i)=true:=by kernel_rfl):wpAnyX P md ops Q S T (fuel+1) listed a w:=X_takeU i (some d) hi hd rfl hB hT hQ ⟨hw,hy⟩ hS (ha ▸ h)
theorem X_done {listed:Array Bool} {a:Act} {w:World} (hr:Region.ready md ops listed=[]) (h:Q .normal a w):wpAnyX P md ops Q S T 0 listed a w:=⟨hr,h⟩
end
end
section
structure Gr2 (r p : Nat) (w w' : World) : Prop where
 os:w'.os=w.os
 tape:w'.tape=w.tape
 output:w'.output=w.output
 size:w.heap.size<=w'.heap.size
 block:∀i,i<w.heap.size->i≠r->i≠p->w'.heap[i]? = w.heap[i]?
section
variable {r p : Nat} {a b c w w' : World}
theorem Gr2.refl (r p:Nat) (w:World):Gr2 r p w w:=⟨rfl,rfl,rfl,Nat.le_refl _,fun _ _ _ _=>rfl⟩
theorem Gr2.trans (h:Gr2 r p a b) (k:Gr2 r p b c):Gr2 r p a c:=⟨k.os.trans h.os,k.tape.trans h.tape,k.output.trans h.output,Nat.le_trans h.size k.size,fun i hi h1 h2=>(k.block i (Nat.lt_of_lt_of_le hi h.size) h1 h2).trans (h.block i hi h1 h2)⟩
theorem Gr2.of_r (h:w.grownBy w' (some r)):Gr2 r p w w':=⟨h.os,h.tape,h.output,h.size,fun i hi h1 _=>h.block i hi (by simpa using h1)⟩
theorem Gr2.of_p (h:w.grownBy w' (some p)):Gr2 r p w w':=⟨h.os,h.tape,h.output,h.size,fun i hi _ h2=>h.block i hi (by simpa using h2)⟩
theorem Gr2.of_below (h:Below w.heap.size w w'):Gr2 r p w w':=⟨h.os,h.tape,h.output,h.size,fun i hi _ _=>h.block i hi⟩
theorem Gr2.below {B:Nat} (h:Gr2 r p b c) (k:Below B a b) (hr:B<=r) (hp:B<=p) (hB:B<=b.heap.size):Below B a c:=k.trans ⟨h.os,h.tape,h.output,h.size,fun i hi=>h.block i (by omega) (by omega) (by omega)⟩
theorem Gr2.keep {t:TypeId} (h:Gr2 r p w w') (hr:∀cur fl,w.heap[r]? ≠ some (.cells cur t fl)) (hp:∀cur fl,w.heap[p]? ≠ some (.cells cur t fl)):Keep t w w':=fun i cur fl hi=>by
 have h1:i≠r:=fun e=>hr cur fl (e ▸ hi)
 have h2:i≠p:=fun e=>hp cur fl (e ▸ hi)
 exact(h.block i (Array.getElem?_eq_some_iff.1 hi).1 h1 h2).trans hi
theorem Bk.gr2 {g:Nat} {t:TypeId} {xs:List Value} (k:Bk w g t xs) (h:Gr2 r p w w') (h1:g≠r) (h2:g≠p):Bk w' g t xs:=(h.block g k.lt h1 h2).trans k
theorem Bk.not {g:Nat} {t t':TypeId} {xs:List Value} (k:Bk w g t xs) (hne:t≠t'):∀cur fl,w.heap[g]? ≠ some (.cells cur t' fl):=fun cur fl e=>by
 unfold Bk at k;rw[k]at e;cases e;exact hne rfl
theorem MkM.Ok.gr2 {t:TypeId} {P:Nat->Prop} {m:MkM} (h:m.Ok w t P) (hg:Gr2 r p w w') (hP:∀b,P b->b≠r∧b≠p):m.Ok w' t P:=by
 induction h with
 | mk op a b ks s row len small hop ha hb _ ih =>
   refine .mk op a b ks s ?_ len small hop ha hb ih;rcases row with h|⟨b,off,cur,fl,hA,hPb,hb,hc⟩
   ·exact .inl h
   ·exact .inr ⟨b,off,cur,fl,hA,hPb,(hg.block b (Array.getElem?_eq_some_iff.1 hb).1 (hP b hPb).1 (hP b hPb).2).trans hb,hc⟩
end
def pCells (rb:Nat) (m:CatM) (st:PSt):List Value:=[.pointer (some ⟨rb,0,none⟩),.slice m.si.A m.si.n m.si.c,.slice m.sr.A m.sr.n m.sr.c,.slice m.st.A m.st.n m.st.c,.slice m.sx.A m.sx.n m.sx.c,.string ⟨#[]⟩,.int .i64 0,.int .i64 0,.slice none 0 0,.int .i64 st.2,.int .i64 st.1]
structure PAt (W : World) (rb pb : Nat) (m : CatM) (ts : List Tok) (len : Int) (st : PSt) : Prop where
 rd:RdAt W rb ts len
 pk:Bk W pb 142 (pCells rb m st)
 its:ItsV W m.si m.items
 rus:RulesV W m.sr m.rules
 lt:rb<pb
 toks:∀t∈ts,t.text.size<=8192∧In64 t.num
section
variable {W W' : World} {rb pb : Nat} {m : CatM} {ts ts' : List Tok} {len : Int} {st st' : PSt}
theorem RdAt.not {t':TypeId} (h:RdAt W rb ts len) (hne:176≠t'):∀cur fl,W.heap[rb]? ≠ some (.cells cur t' fl):=by
 obtain⟨A,c,h1,_⟩:=h;exact h1.not hne
theorem PAt.turned (h:PAt W rb pb m ts len st) (g:Gr2 rb pb W W') (hrd:RdAt W' rb ts' len) (hpk:Bk W' pb 142 (pCells rb m st')) (hts:∀t∈ts',t∈ts):PAt W' rb pb m ts' len st' :=
 ⟨hrd,hpk,h.its.keep (g.keep (h.rd.not (by decide)) (h.pk.not (by decide))),h.rus.keep (g.keep (h.rd.not (by decide)) (h.pk.not (by decide))) (g.keep (h.rd.not (by decide)) (h.pk.not (by decide))),h.lt,fun t ht=>h.toks t (hts t ht)⟩
theorem PAt.read (h:PAt W rb pb m ts len st) (g:W.grownBy W' (some rb)) (hrd:RdAt W' rb ts' len) (hts:∀t∈ts',t∈ts):PAt W' rb pb m ts' len st :=
 h.turned (.of_r g) hrd (h.pk.grown g (by have:=h.lt;simp;omega)) hts
theorem PAt.below (h:PAt W rb pb m ts len st) (hb:Below W.heap.size W W'):PAt W' rb pb m ts len st :=
 h.turned (.of_below hb) (h.rd.below hb) (h.pk.below hb h.pk.lt) fun _ ht=>ht
theorem PAt.r0 (h:PAt W rb pb m ts len st):W.cell? ⟨pb,0,none⟩=some (.pointer (some ⟨rb,0,none⟩)):=h.pk.cell 0
theorem PAt.plt (h:PAt W rb pb m ts len st):pb<W.heap.size:=h.pk.lt
theorem PAt.rlt (h:PAt W rb pb m ts len st):rb<W.heap.size:=h.rd.lt
end
theorem isB_any (ts:List Tok) (k:Int):isB ts k ⟨#[]⟩=kindB ts k:=by
 cases ts with
 | nil=>rfl
 | cons t r=>simp[isB,kindB,ByteArray.toList_eq]
theorem isB_word (ts:List Tok) (k:Int) {s:ByteArray} (hs:s≠⟨#[]⟩):isB ts k s=headB ts k s:=by
 cases ts with
 | nil=>rfl
 | cons t r =>
   have:s.toList.isEmpty=false:=by
    cases q:s.toList.isEmpty
    ·rfl
    ·exfalso;rw[List.isEmpty_iff,ByteArray.toList_eq]at q;exact hs (bytes_inj (by simpa using q))
   simp[isB,headB,this,eqL]
theorem find_any {W:World} {rb pb:Nat} {m:CatM} {ts:List Tok} {len:Int} {st:PSt} (a e:Int) (h:PAt W rb pb m ts len st):Calls Tryz.prog 145 #[.pointer (some ⟨pb,0,none⟩),.int .i64 a,.int .i64 e] W fun en w'=>en=.returned (.tuple #[])∧PAt w' rb pb m ts len (st.note e a)∧Gr2 rb pb W w':=by
 have H:=iH h;have hl:=h.plt;have c10:W.cell? ⟨pb,10,none⟩=some (.int .i64 st.1):=h.pk.cell 10;have f9:=h.pk.frozen 9;have f10:=h.pk.frozen 10;have c9:W.cell? ⟨pb,9,none⟩=some (.int .i64 st.2):=h.pk.cell 9;obtain⟨s1,s2⟩:=st;dsimp only at *;clear h;cases q:(s1 == 0)
 ·have q':(s1 == 0)=false:=q;have hn:(PSt.note (s1,s2) e a)=(s1,s2):=by simp only[PSt.note];rw[if_neg (by simpa using q)]
  have HN:=iH hn;clear hn q;go_enter Tryz.func145,Tryz.ntmps145;go_wp2
  go_end0
  exact⟨rfl,by rw[HN.out];exact H.out,.refl _ _ _⟩
 ·have hn:(PSt.note (s1,s2) e a)=(e,a):=by simp only[PSt.note];rw[if_pos (by simpa using q)]
  have HB:Hid (Bk ((W.setCell ⟨pb,9,none⟩ (.int .i64 a)).setCell ⟨pb,10,none⟩ (.int .i64 e)) pb 142 (pCells rb m (e,a))):=(H.out.pk.set 9 (.int .i64 a)).set 10 (.int .i64 e);have HG:Hid (W.grownBy ((W.setCell ⟨pb,9,none⟩ (.int .i64 a)).setCell ⟨pb,10,none⟩ (.int .i64 e)) (some pb)):=grown_trans2 (grown_setCell W pb 9 _) (grown_setCell _ pb 10 _);have HR:=iH (H.out.rd.keep (W':=(W.setCell ⟨pb,9,none⟩ (.int .i64 a)).setCell ⟨pb,10,none⟩ (.int .i64 e)) fun i hi=>HG.out.block i (Nat.lt_of_le_of_lt hi H.out.rlt) (by have:=H.out.lt;simp;omega));have q':s1=0:=by simpa using q
  subst q';have HN:=iH hn;clear hn q;go_enter Tryz.func145,Tryz.ntmps145;go_wp2
  go_end0
  exact⟨rfl,by rw[HN.out];exact H.out.turned (.of_p HG.out) HR.out HB.out fun _ ht=>ht,.of_p HG.out⟩
end
def nameV (l:List ByteArray) (s:ByteArray):Int:=match nameIx l s with | some i=>i | none=>0
def nameSt (l:List ByteArray) (t:Tok) (st:PSt):PSt:=match nameIx l t.text with | some _=>st | none=>st.note 6 t.at_
theorem name_no {W:World} {rb pb:Nat} {m:CatM} {ts:List Tok} {len:Int} {st:PSt} {A:Option Addr} {n c:Nat} (h:PAt W rb pb m ts len st) (hk:kindB ts 0=false):Calls Tryz.prog 143 #[.pointer (some ⟨pb,0,none⟩),.slice A n c] W fun e w'=>e=failV ts len∧Gr2 rb pb W w':=by
 have K:=iH (word_no ⟨#[]⟩ h.rd (by rw[isB_any];exact hk));have r0:=h.r0;have hl:=h.plt;clear h hk;go_enter Tryz.func143,Tryz.ntmps143;go_wp2_with fail;refine K.out.mono ?_;rintro e w1 ⟨rfl,hg⟩;exact⟨rfl,rfl,.of_r hg⟩
theorem name_ok {W:World} {rb pb:Nat} {m:CatM} {t:Tok} {r:List Tok} {len:Int} {st:PSt} {A:Option Addr} {n c:Nat} {l:List ByteArray} (h:PAt W rb pb m (t :: r) len st) (hN:NmV W A n l) (hk:t.kind=0) :
 Calls Tryz.prog 143 #[.pointer (some ⟨pb,0,none⟩),.slice A n c] W fun e w'=>e=.returned (.int .i64 (nameV l t.text))∧PAt w' rb pb m r len (nameSt l t st)∧Gr2 rb pb W w':=by
 have K:=iH (word_yes ⟨#[]⟩ h.rd (by rw[isB_any];simp[kindB,hk]));have r0:=h.r0;have hl:=h.plt;have H:=iH h;have HN:=iH hN;clear h hk hN;go_enter Tryz.func143,Tryz.ntmps143;go_wp2_with fail;refine K.out.mono ?_;rintro e w1 ⟨rfl,hr,hg⟩;have H1:=H.out.read hg hr (fun _ ht=>List.mem_cons_of_mem _ ht);have y:Below w1.heap.size w1 (w1.alloc (.cells #[.int .i64 t.kind,.string t.text,.int .i64 t.num,.int .i64 t.at_] 186)):=(Below.refl _ _).alloc (Nat.le_refl _) _;have H2:=iH (H1.below y);have HG:=iH ((Gr2.of_r (p:=pb) hg).trans (.of_below y));have KI:=iH (index_any (c:=c) t.text ((HN.out.keep (.grown hg (H.out.rd.not (by decide)))).below y));clear K hr hg H1;go_wp2_with fail;refine KI.out.mono ?_;rintro e w2 ⟨rfl,rfl⟩;have HF:=iH (find_any t.at_ 6 H2.out);clear KI y;have e1:ixOf l t.text=(match nameIx l t.text with | some k=>(k:Int) | none=>-1):=rfl;have e2:nameV l t.text=(match nameIx l t.text with | some k=>(k:Int) | none=>0):=rfl;have e3:nameSt l t st=(match nameIx l t.text with | some _=>st | none=>st.note 6 t.at_):=rfl;have E3:=iH e3;have E2:=iH e2;rw[e1];clear e1 e2 e3;cases q:nameIx l t.text with
 | some k =>
   rw[q]at E3 E2;have E3':=E3.out;have E2':=E2.out;dsimp only at E3' E2'⊢;have E4:=iH E3';have E5:=iH E2';clear E2 E2';clear E3 E3' q HF;go_wp2;go_ret;exact⟨by rw[E5.out];rfl,by rw[E4.out];exact H2.out,HG.out⟩
 | none =>
   rw[q]at E3 E2;have E3':=E3.out;have E2':=E2.out;dsimp only at E3' E2'⊢;have E4:=iH E3';have E5:=iH E2';clear E2 E2';clear E3 E3' q;go_wp2_with fail;refine HF.out.mono ?_;rintro e w3 ⟨rfl,hp,hg3⟩;have HP:=iH hp;have HG3:=iH (HG.out.trans hg3);clear HF hp hg3;go_wp2;go_ret;exact⟨by rw[E5.out];rfl,by rw[E4.out];exact HP.out,HG3.out⟩
def RgOk (q:Nat) (f:Int->Int->Bool):Prop:=∀(op:ByteArray) (a b:Int) (A:Option Addr) (n c:Nat) (w:World),Calls Tryz.prog q #[.agg #[.string op,.int .i64 a,.int .i64 b,.slice A n c]] w fun e w'=>e=.returned (.bool (f a b))∧Below w.heap.size w w'
theorem rg_account:RgOk 93 fun a _=>decide (0<=a) && decide (a<=1073741824):=by
 intro op a b A n c w;cases q:decide (0<=a)
 ·have q':decide (0<=a)=false:=q;go_enter Tryz.func93,Tryz.ntmps93;go_wp2;go_ret;exact⟨by congr 2;(first | (rw[q];simp) | skip);(first | (rw[q2];simp) | skip),(Below.refl _ _).alloc (Nat.le_refl _) _⟩
 ·have q':decide (0<=a)=true:=q;go_enter Tryz.func93,Tryz.ntmps93;go_wp2;go_ret;exact⟨by congr 2;(first | (rw[q];simp) | skip);(first | (rw[q2];simp) | skip),(Below.refl _ _).alloc (Nat.le_refl _) _⟩
theorem rg_range:RgOk 98 fun a b=>decide (0<=a) && decide (a<=b) && decide (b<=1099511627776):=by
 intro op a b A n c w;cases q:decide (0<=a)
 ·have q':decide (0<=a)=false:=q;go_enter Tryz.func98,Tryz.ntmps98;go_wp2;go_ret;exact⟨by congr 2;(first | (rw[q];simp) | skip);(first | (rw[q2];simp) | skip),(Below.refl _ _).alloc (Nat.le_refl _) _⟩
 ·have q':decide (0<=a)=true:=q;cases q2:decide (a<=b)
  ·have q2':decide (a<=b)=false:=q2;go_enter Tryz.func98,Tryz.ntmps98;go_wp2;go_ret;exact⟨by congr 2;rw[q,q2];simp,(Below.refl _ _).alloc (Nat.le_refl _) _⟩
  ·have q2':decide (a<=b)=true:=q2;go_enter Tryz.func98,Tryz.ntmps98;go_wp2;go_ret;exact⟨by congr 2;rw[q,q2];simp,(Below.refl _ _).alloc (Nat.le_refl _) _⟩
theorem rg_always:RgOk 96 fun _ _=>true:=by
 intro op a b A n c w;go_enter Tryz.func96,Tryz.ntmps96;go_wp2;go_ret;exact⟨rfl,by first | exact Below.refl _ _ | exact(Below.refl _ _).alloc (Nat.le_refl _) _⟩
theorem rg_kind:RgOk 91 fun a _=>decide (0<=a) && decide (a<=10):=by
 intro op a b A n c w;cases q:decide (0<=a)
 ·have q':decide (0<=a)=false:=q;go_enter Tryz.func91,Tryz.ntmps91;go_wp2;go_ret;exact⟨by congr 2;(first | (rw[q];simp) | skip);(first | (rw[q2];simp) | skip),(Below.refl _ _).alloc (Nat.le_refl _) _⟩
 ·have q':decide (0<=a)=true:=q;go_enter Tryz.func91,Tryz.ntmps91;go_wp2;go_ret;exact⟨by congr 2;(first | (rw[q];simp) | skip);(first | (rw[q2];simp) | skip),(Below.refl _ _).alloc (Nat.le_refl _) _⟩
theorem rg_more:RgOk 103 fun a _=>decide (0<=a) && decide (a<=1099511627776):=by
 intro op a b A n c w;cases q:decide (0<=a)
 ·have q':decide (0<=a)=false:=q;go_enter Tryz.func103,Tryz.ntmps103;go_wp2;go_ret;exact⟨by congr 2;(first | (rw[q];simp) | skip);(first | (rw[q2];simp) | skip),(Below.refl _ _).alloc (Nat.le_refl _) _⟩
 ·have q':decide (0<=a)=true:=q;go_enter Tryz.func103,Tryz.ntmps103;go_wp2;go_ret;exact⟨by congr 2;(first | (rw[q];simp) | skip);(first | (rw[q2];simp) | skip),(Below.refl _ _).alloc (Nat.le_refl _) _⟩
end Go.Proofs.YtocodlpgaamblaaGreatDoor
