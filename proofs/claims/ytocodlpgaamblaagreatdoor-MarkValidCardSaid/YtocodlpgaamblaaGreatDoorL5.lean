/- A region that draws its order, by an invariant that each operation keeps: no branching over orders. A region that draws its order: operations that only read, then one operation of any kind for which all of them must be done, then operations that only read and wait for it. It runs as its text stands. A region that draws its order: loads that hold in every world that meets a condition are taken first, and from an operation on that waits for all of them the rest is walked as it comes. What version.Merge does to items, its memory; rewrite on a catalog of items alone. The walk of version.Merge on catalogs of items alone, where nothing stands against it. The contracts of Missing, Last, Start, and of Add where an item without counterpart is held. The contract of lives: the example of the section. The walk of lives. Arguments: a slice of integers, opened; the table of kinds from the row's list; what a row's end wants. The parser's state; names. The names of a catalog's items and rules. The parser's state; find, name. The parser reads a name; the tests of ranges. -/
import Derived.Test.YtocodlpgaamblaaGreatDoorL1
import Derived.Test.YtocodlpgaamblaaGreatDoorL4
import Derived.RegionTactic
import Derived.StillTailTactics
import Derived.BigQuiet
import Derived.OrdersHeld
import Derived.Deep.MidRow
import Derived.Test.YtocodlpgaamblaaGreatDoorCards
import Derived.Test.YtocodlpgaamblaaGreatDoorTie
import Derived.WalkKit
import Derived.ProofKit
import Derived.OpenShut
import Derived.Deep.DeepHandedRow
import Derived.Lib.LaidTab
set_option linter.unusedVariables false
set_option linter.unusedSimpArgs false
set_option maxRecDepth 100000
set_option maxHeartbeats 1000000
open Go.RowKit
namespace Go.Proofs.YtocodlpgaamblaaGreatDoor
section
set_option linter.unusedVariables false
set_option linter.unusedSimpArgs false
def earlierB (ops:Array Oper):Bool:=(List.range ops.size).all fun i=>match ops[i]? with | some o=>o.after.all fun e=>decide (e.on<i) | none=>true
theorem earlier_spec {ops:Array Oper} (h:earlierB ops=true) {i:Nat} {o:Oper} (ho:ops[i]? = some o):∀e∈o.after,e.on<i:=by
 intro e he;have hi:i<ops.size:=(Array.getElem?_eq_some_iff.1 ho).1;have h1:=List.all_eq_true.1 h i (List.mem_range.2 hi);rw[ho]at h1;simpa using Array.all_eq_true_iff_forall_mem.1 h1 e he
def leftN (l:Array Bool):Nat:=l.toList.count false
theorem leftN_set {l:Array Bool} {i:Nat} (h:l.getD i true=false):leftN (l.setIfInBounds i true)+1=leftN l:=by
 have hi:i<l.size:=by
  rcases Nat.lt_or_ge i l.size with h1|h1
  ·exact h1
  ·simp[Array.getElem?_eq_none h1]at h
 have hf':l.toList[i]'(by simpa using hi)=false:=by simpa[hi]using h
 have hpos:0<l.toList.count false:=List.count_pos_iff.2 (by rw[<- hf'];exact List.getElem_mem _);unfold leftN;rw[Array.toList_setIfInBounds,List.count_set (by simpa using hi),hf'];have e1:(if(false == false)=true then 1 else 0)=1:=rfl;have e2:(if(true == false)=true then 1 else 0)=0:=rfl;rw[e1,e2];omega
theorem wpAny_inv {P:Program} {ops:Array Oper} {Q:Exit->Act->World->Prop} (hd:earlierB ops=true) (I:(Nat->Bool)->Act->World->Prop)
 (step:∀(i:Nat) (o:Oper) (L:Nat->Bool) (a:Act) (w:World),ops[i]? = some o->L i=false->(∀e∈o.after,Region.binds .any e=true->L e.on=true)->I L a w ->
  wpOp P ops Q i (fun a' w'=>I (fun j=>L j || j == i) a' w') a w)
 (done:∀(L:Nat->Bool) (a:Act) (w:World),(∀i,i<ops.size->L i=true)->I L a w->Q .normal a w) :
 ∀(fuel:Nat) (listed:Array Bool) (a:Act) (w:World),listed.size=ops.size->leftN listed=fuel->I (fun j=>listed.getD j false) a w->wpAny P .any ops Q fuel listed a w:=by
 have allOf : ∀ (listed : Array Bool), listed.size = ops.size -> Region.ready .any ops listed = [] -> ∀ i, i < ops.size -> listed.getD i false = true := by
  intro listed hs hr i
  induction i using Nat.strongRecOn with
  | _ i ih =>
    intro hi;cases hl:listed.getD i false with
    | true=>rfl
    | false =>
      have hm:i∈Region.ready .any ops listed:=by
       rw[mem_ready];refine⟨by simpa[hs,hi]using hl,ops[i],by simp[hi],fun e he _=>?_⟩;have:=earlier_spec hd (i:=i) (o:=ops[i]) (by simp[hi]) e he;exact ih e.on this (by omega)
      rw[hr]at hm;cases hm
 intro fuel
 induction fuel with
 | zero =>
   intro listed a w hs hl hI;have hall:∀i,i<ops.size->listed.getD i false=true:=by
    intro i hi;have h0:¬ false∈listed.toList:=by
     intro hm;have:=List.count_pos_iff.2 hm;unfold leftN at hl;omega
    have hi':i<listed.size:=by omega
    cases hx:listed[i]with
    | true=>simp[hi',hx]
    | false=>exact absurd (by rw[<- hx];exact Array.mem_toList_iff.2 (Array.getElem_mem hi')) h0
   refine⟨?_,done _ a w hall hI⟩;apply List.eq_nil_iff_forall_not_mem.2;intro i hi;obtain⟨h1,o,ho,_⟩:=mem_ready.1 hi;have hi':=(Array.getElem?_eq_some_iff.1 ho).1;have h2:=hall i hi';have hi2:i<listed.size:=by omega
   simp[hi2]at h1 h2;rw[h1]at h2;cases h2
 | succ fuel ih =>
   intro listed a w hs hl hI;refine⟨fun h0=>done _ a w (allOf listed hs h0) hI,fun i hi=>?_⟩;obtain⟨h1,o,ho,h2⟩:=mem_ready.1 hi;have hi':=(Array.getElem?_eq_some_iff.1 ho).1;have hi2:i<listed.size:=by omega
   refine wpOp_mono (fun a' w' hI'=>ih (listed.setIfInBounds i true) a' w' (by simpa using hs) (by have:=leftN_set h1;omega) ?_) (step i o (fun j=>listed.getD j false) a w ho ?_ h2 hI)
   ·have he:(fun j=>(listed.setIfInBounds i true).getD j false)=fun j=>listed.getD j false || j == i:=by
     funext j;by_cases hij:i=j
     ·subst hij;simp[hi2]
     ·rw[getD_set_ne false hij];have:(j == i)=false:=by simpa using fun e=>hij e.symm
      rw[this,Bool.or_false]
    rw[he];exact hI'
   ·simpa[hi2]using h1
theorem getD_repl (m j:Nat):(Array.replicate m false).getD j false=false:=by
 rcases Nat.lt_or_ge j m with h|h <;> simp[h]
theorem wp_region_inv {P:Program} {ops:Array Oper} {Q:Exit->Act->World->Prop} {id:Nat} {a:Act} {w:World} (hm:P.follows .mixedOrders=true) (hd:earlierB ops=true) (I:(Nat->Bool)->Act->World->Prop)
 (h0:I (fun _=>false) a w.drew)
 (step:∀(i:Nat) (o:Oper) (L:Nat->Bool) (a:Act) (w:World),ops[i]? = some o->L i=false->(∀e∈o.after,Region.binds .any e=true->L e.on=true)->I L a w ->
  wpOp P ops Q i (fun a' w'=>I (fun j=>L j || j == i) a' w') a w)
 (done:∀(L:Nat->Bool) (a:Act) (w:World),(∀i,i<ops.size->L i=true)->I L a w->Q .normal a w):(Code.region id ops true).wp P Q a w:=by
 refine wp_region_any hm (wpAny_inv hd I step done ops.size _ a _ (by simp) (by simp[leftN]) ?_);have he:(fun j=>(Array.replicate ops.size false).getD j false)=fun _=>false:=by
  funext j;exact getD_repl ops.size j
 rw[he];exact h0
section
section
variable {P : Program} {ops : Array Oper} {Q : Exit -> Act -> World -> Prop} {md : Region.Mode} {S : World -> Prop} {T : Nat}
def wpAnyX (P:Program) (md:Region.Mode) (ops:Array Oper) (Q:Exit->Act->World->Prop) (S:World->Prop) (T:Nat):Nat->Array Bool->Act->World->Prop
 | 0,listed,a,w=>Region.ready md ops listed=[]∧Q .normal a w
 | fuel + 1, listed, a, w =>
   (Region.ready md ops listed=[T]∧wpAny P md ops Q (fuel+1) listed a w) ∨
   ((Region.ready md ops listed = [] -> Q .normal a w) ∧
     ∀i∈Region.ready md ops listed,wpOp P ops Q i (fun a' w'=>S w'∧wpAnyX P md ops Q S T fuel (listed.setIfInBounds i true) a' w') a w)
theorem wpAny_of_X:∀(fuel:Nat) (listed:Array Bool) (a:Act) (w:World),wpAnyX P md ops Q S T fuel listed a w->wpAny P md ops Q fuel listed a w
 | 0,_,_,_,h=>h
 | fuel+1,_,_,_,.inl h=>h.2
 | fuel+1,_,_,_,.inr h=>⟨h.1,fun i hi=>wpOp_mono (fun a' w' h'=>wpAny_of_X fuel _ a' w' h'.2) (h.2 i hi)⟩
theorem wpAnyX_first {i:Nat} {oi:Oper} {v:Value} (hi:ops[i]? = some oi) (hsel:∀(j:Nat) (o:Oper) cs b,ops[j]? = some o->o.op≠.select cs b)
 (hT:Region.waitsFor md ops T i=true) (hQ:∀c a w,Q (.panic c) (a.put oi.dst v) w->Q (.panic c) a w) :
 ∀(fuel:Nat) (listed:Array Bool) (a:Act) (w:World),
  (∀j oj,ops[j]? = some oj->j≠i->listed.getD j true=false->(∀e∈oj.after,Region.binds md e=true->e.on≠i)->oi.apart ops oj=true) ->
  i∈Region.ready md ops listed->YieldsIf P ops S oi v a->S w ->
  wpAnyX P md ops Q S T fuel (listed.setIfInBounds i true) (a.put oi.dst v) w->wpAnyX P md ops Q S T (fuel+1) listed a w:=by
 intro fuel
 induction fuel with
 | zero =>
   intro listed a w _ hr hy hS H;refine .inr ⟨fun h=>(by rw[h]at hr;cases hr),fun j hj=>?_⟩;by_cases hji:j=i
   ·subst hji;exact hy.wpOp hi hS ⟨hS,H⟩
   ·have:=ready_mono hj hji;rw[H.1]at this;cases this
 | succ fuel ih =>
   intro listed a w hfree hr hy hS H;refine .inr ⟨fun h=>(by rw[h]at hr;cases hr),fun j hj=>?_⟩;by_cases hji:j=i
   ·subst hji;exact hy.wpOp hi hS ⟨hS,H⟩
   ·obtain⟨hjun,oj,hoj,hall⟩:=mem_ready.1 hj;have hnot:∀e∈oj.after,Region.binds md e=true->e.on≠i:=fun e he hb heq=>by
     have h1:=hall e he hb;have h0:=(mem_ready.1 hr).1;rw[heq]at h1;rcases Nat.lt_or_ge i listed.size with h'|h'
     ·simp[h']at h0 h1;rw[h0]at h1;cases h1
     ·simp[Array.getElem?_eq_none h']at h1
    rcases H with H|H
    ·have h1:=ready_mono hj hji;rw[H.1]at h1;obtain rfl:j=T:=by simpa using h1
     obtain⟨o',ho',e,he,hb,hon⟩:=Region.waitsFor_spec hT;cases Option.some.inj (ho'.symm.trans hoj);exact absurd hon (hnot e he hb)
    ·have h1:=H.2 j (ready_mono hj hji);have h2:=wpOp_putIf hoj (hfree j oj hoj hji hjun hnot) (fun cs b=>hsel i oi cs b hi) (fun cs b=>hsel j oj cs b hoj) hQ hy h1;have hfree':∀k ok,ops[k]? = some ok->k≠i->(listed.setIfInBounds j true).getD k true=false ->
      (∀e∈ok.after,Region.binds md e=true->e.on≠i)->oi.apart ops ok=true:=fun k ok hk hki hun hno=>by
      refine hfree k ok hk hki ?_ hno;by_cases hjk:j=k
      ·subst hjk;exact hjun
      ·rw[getD_set_ne true hjk]at hun;exact hun
     refine wpOp_mono (fun a' w' h3=>⟨h3.2.1,ih (listed.setIfInBounds j true) a' w' hfree' (ready_mono hr (Ne.symm hji)) h3.1 h3.2.1 ?_⟩) h2;rw[Array.setIfInBounds_comm _ _ hji];exact h3.2.2
theorem X_take (i:Nat) (d:Option Tmp) {oi:Oper} {v:Value} {fuel:Nat} {listed listed':Array Bool} {a:Act} {w:World} (hi:ops[i]? = some oi) (hd:oi.dst=d) (hl:listed.setIfInBounds i true=listed')
 (hB:(Region.noSelect ops && Region.free md ops listed i && (Region.ready md ops listed).contains i && Region.waitsFor md ops T i)=true)
 (hQ:∀c a w,Q (.panic c) (a.put oi.dst v) w->Q (.panic c) a w) (hy:Region.wanted oi (yielded ops a.tmps)=true∧∀w,S w->(execOp a.eval oi).run P w=.ok (.value v) w) (hS:S w)
 (h:wpAnyX P md ops Q S T fuel listed' (a.put d v) w):wpAnyX P md ops Q S T (fuel+1) listed a w:=by
 simp only[Bool.and_eq_true]at hB;subst hd hl;exact wpAnyX_first hi (Region.noSelect_spec hB.1.1.1) hB.2 hQ fuel listed a w (Region.free_spec hi hB.1.1.2) (by simpa using hB.1.2) (.inl hy) hS h
theorem X_one (i:Nat) {o:Oper} {fuel:Nat} {listed listed':Array Bool} {a:Act} {w:World} (hr:Region.ready md ops listed=[i]) (hl:listed.setIfInBounds i true=listed') (ho:ops[i]? = some o)
 (h:∀K':Act->World->Prop,(∀a w,S w->wpAnyX P md ops Q S T fuel listed' a w->K' a w)->if Region.wanted o (yielded ops a.tmps)=true then Oper.wp P o a w K' Q else K' (a.put o.dst undef) w):wpAnyX P md ops Q S T (fuel+1) listed a w:=by
 subst hl;refine .inr ⟨fun h0=>(by rw[hr]at h0;cases h0),fun j hj=>?_⟩;rw[hr]at hj;obtain rfl:j=i:=by simpa using hj
 exact wpOp_step ho fun K hK=>h K fun a w hS hX=>hK a w ⟨hS,hX⟩
theorem X_o (i:Nat){o:Oper}{fuel:Nat}{listed:Array Bool}{a:Act}{w:World}(ho:ops[i]?=some o)
 (h:∀K':Act→World→Prop,(∀a w,S w→wpAnyX P md ops Q S T fuel (listed.setIfInBounds i true) a w→K' a w)→if Region.wanted o (yielded ops a.tmps)=true then Oper.wp P o a w K' Q else K' (a.put o.dst undef) w)(hr:Region.ready md ops listed=[i]:=by kernel_rfl):wpAnyX P md ops Q S T (fuel+1) listed a w:=X_one i hr rfl ho h
theorem tX (i:Nat)(d:Option Tmp){oi:Oper}{v:Value}{fuel:Nat}{listed:Array Bool}{a:Act}{w:World}(hi:ops[i]?=some oi)
 (hy:Region.wanted oi (yielded ops a.tmps)=true∧∀w,S w→(execOp a.eval oi).run P w=.ok (.value v) w)(hS:S w)
 (h:wpAnyX P md ops Q S T fuel (listed.setIfInBounds i true) (a.put d v) w)(hd:oi.dst=d:=by rfl)(hQ:∀c a w,Q (.panic c) (a.put oi.dst v) w→Q (.panic c) a w:=by exact fun _ _ _ h=>h)(hB:(Region.noSelect ops&&Region.free md ops listed i&&(Region.ready md ops listed).contains i&&Region.waitsFor md ops T i)=true:=by kernel_rfl):wpAnyX P md ops Q S T (fuel+1) listed a w:=X_take i d hi hd rfl hB hQ hy hS h
theorem X_tail {fuel:Nat} {listed:Array Bool} {a:Act} {w:World} (hr:Region.ready md ops listed=[T]) (h:wpAny P md ops Q (fuel+1) listed a w):wpAnyX P md ops Q S T (fuel+1) listed a w:=.inl ⟨hr,h⟩
theorem A_one (i:Nat) {o:Oper} {fuel:Nat} {listed listed':Array Bool} {a:Act} {w:World} (hr:Region.ready md ops listed=[i]) (hl:listed.setIfInBounds i true=listed') (ho:ops[i]? = some o)
 (h:∀K':Act->World->Prop,(∀a w,wpAny P md ops Q fuel listed' a w->K' a w)->if Region.wanted o (yielded ops a.tmps)=true then Oper.wp P o a w K' Q else K' (a.put o.dst undef) w):wpAny P md ops Q (fuel+1) listed a w:=by
 subst hl;refine⟨fun h0=>(by rw[hr]at h0;cases h0),fun j hj=>?_⟩;rw[hr]at hj;obtain rfl:j=i:=by simpa using hj
 exact wpOp_step ho h
theorem A_done {listed:Array Bool} {a:Act} {w:World} (hr:Region.ready md ops listed=[]) (h:Q .normal a w):wpAny P md ops Q 0 listed a w:=⟨hr,h⟩
theorem wp_region_X (S:World->Prop) (T:Nat) {id n:Nat} {a:Act} {w:World} (hn:ops.size=n) (hm:P.follows .mixedOrders=true) (hS:S w.drew)
 (h:S w.drew->wpAnyX P .any ops Q S T n (Array.replicate n false) a w.drew):(Code.region id ops true).wp P Q a w:=by
 subst hn;exact wp_region_any hm (wpAny_of_X _ _ _ _ (h hS))
end
end
end
structure NmV (w : World) (A : Option Addr) (n : Nat) (l : List ByteArray) : Prop where
 row:TRow w 9 A (l.map Value.string)
 len:n=l.length
 small:n<=100000
theorem NmV.below {w w':World} {A:Option Addr} {n:Nat} {l:List ByteArray} (h:NmV w A n l) (hb:Below w.heap.size w w'):NmV w' A n l:=⟨h.row.keep (.below hb),h.len,h.small⟩
theorem NmV.keep {w w':World} {A:Option Addr} {n:Nat} {l:List ByteArray} (h:NmV w A n l) (hb:Keep 9 w w'):NmV w' A n l:=⟨h.row.keep hb,h.len,h.small⟩
theorem NmV.at_ {w:World} {A:Option Addr} {n:Nat} {l:List ByteArray} (h:NmV w A n l) (k:Nat) (hk:k<l.length):∃b off,A=some ⟨b,off,none⟩∧b<w.heap.size∧w.cell? ⟨b,off+k,none⟩=some (.string l[k]):=by
 have e:∀l:List ByteArray,l.map Value.string=l.flatMap fun s=>[Value.string s]:=by
  intro l
  induction l with
  | nil=>rfl
  | cons x xs ih=>rw[List.flatMap_cons,<- ih];rfl
 have hr:=h.row;rw[e]at hr;obtain⟨b,off,hA,hb,hc⟩:=TRow.at_ (f:=fun s=>[Value.string s]) (n:=1) (fun _=>rfl) hr k hk (by omega);exact⟨b,off,hA,hb,by simpa using hc 0 _ rfl⟩
def ixOf (l:List ByteArray) (s:ByteArray):Int:=match nameIx l s with | some k=>k | none=>-1
theorem nameIx_some {l:List ByteArray} {s:ByteArray} {k:Nat} (hk:k<l.length) (h:∀j (hj:j<l.length),j<k->l[j]≠s) (he:l[k]=s):nameIx l s=some k:=by
 induction l generalizing k with
 | nil=>simp at hk
 | cons x xs ih =>
   simp only[nameIx];cases k with
   | zero=>simp at he;simp[he]
   | succ k =>
     have h0:=h 0 (by simp) (by omega);simp at h0;rw[if_neg h0,ih (k:=k) (by simpa using hk) (fun j hj hjk=>by
      have:=h (j+1) (by simp;omega) (by omega)
      simpa using this) (by simpa using he)]
     rfl
theorem nameIx_none {l:List ByteArray} {s:ByteArray} (h:∀j (hj:j<l.length),l[j]≠s):nameIx l s=none:=by
 induction l with
 | nil=>rfl
 | cons x xs ih =>
   have h0:=h 0 (by simp);simp at h0;simp only[nameIx];rw[if_neg h0,ih fun j hj=>by
    have:=h (j+1) (by simp;omega)
    simpa using this]
   rfl
theorem eqL (a b:ByteArray):(a.toList == b.toList)=decide (a=b):=by
 by_cases h:a=b
 ·subst h;simp
 ·have:(a.toList == b.toList)=false:=by
   simp only[beq_eq_false_iff_ne,ne_eq,ByteArray.toList_eq];exact fun e=>h (bytes_inj (by simpa using e))
  rw[this];simp[h]
theorem index_any {w:World} {A:Option Addr} {n c:Nat} {l:List ByteArray} (s:ByteArray) (h:NmV w A n l):Calls Tryz.prog 124 #[.slice A n c,.string s] w fun e w'=>e=.returned (.int .i64 (ixOf l s))∧w'=w:=by
 have Hn:=iH h.len;have H:=iH h;have hs:=h.small;clear h;go_enter Tryz.func124,Tryz.ntmps124;go_wp2_with fail;go_loopw [8] (fun i wr=>∃k:Nat,k<=n∧i=.int .i64 k∧(∀j (hj:j<l.length),j<k->l[j]≠s)∧wr=w) (fun i _=>n-(intOf i).toNat)
 case atStart=>exact⟨0,Nat.zero_le _,rfl,fun _ _ h=>absurd h (by omega),rfl⟩
 case round =>
  obtain⟨k,hk,rfl,hR,rfl⟩:=hrel;have HR:=iH hR;clear hR;by_cases hlt:k<n
  ·have hkl:k<l.length:=by have:=Hn.out;omega
   obtain⟨b,off,rfl,hbb,c0⟩:=H.out.at_ k hkl;have e:=eqL s l[k];have Hs:=iH (fun(hne:l[k]≠s) j (hj:j<l.length) (hjk:j<k+1)=>show l[j]≠s from by
    by_cases e:j=k
    ·subst e;exact hne
    ·exact HR.out j hj (by omega))
   have Hy:=iH (fun(he:l[k]=s)=>nameIx_some hkl HR.out he);generalize l[k]=y at *;clear hkl HR;by_cases hq:y=s
   ·have e2:(s.toList == y.toList)=true:=by rw[e];simp[hq]
    have Hz:=iH (Hy.out hq);clear hq Hs Hy e;go_wp2;go_ret;exact⟨by unfold ixOf;rw[Hz.out];rfl,rfl⟩
   ·have e2:(s.toList == y.toList)=false:=by rw[e];simp[Ne.symm hq]
    have Hz:=iH (Hs.out hq);clear hq Hs Hy e;go_wp2;go_roundw
    case rel=>exact⟨k+1,by omega,by go_num,Hz.out,trivial⟩
    case measure=>simp[intOf];omega
  ·have hkn:k=n:=by omega
   have HT:Hid (nameIx l s=none):=nameIx_none fun j hj=>HR.out j hj (by have:=Hn.out;omega)
   clear hkn HR;go_wp2;go_ret;exact⟨by unfold ixOf;rw[HT.out];rfl,rfl⟩
def kindNs:List ByteArray:=[⟨#[115,112,97,119,110]⟩,⟨#[115,105,110,107]⟩,⟨#[116,114,97,100,101]⟩,⟨#[102,101,101]⟩,⟨#[99,114,97,102,116]⟩,⟨#[105,109,112,111,114,116]⟩,⟨#[101,120,112,111,114,116]⟩,⟨#[114,101,99,97,108,108]⟩,⟨#[99,108,97,105,109]⟩,⟨#[114,101,118,111,107,101]⟩,⟨#[99,111,110,118,101,114,116]⟩]
def NmQ (w:World) (l:List ByteArray) (e:Ending) (w':World):Prop:=∃A n c,e=.returned (.slice A n c)∧NmV w' A n l∧Below w.heap.size w w'
theorem kinds_any (w:World):Calls Tryz.prog 81 #[] w (NmQ w kindNs):=by
 go_enter Tryz.func81,Tryz.ntmps81;go_wp2;go_ret;refine⟨_,_,_,rfl,⟨.inr ⟨w.heap.size,0,_,_,rfl,heap_alloc_new w _,fun j u hu=>?_⟩,rfl,by decide⟩,(Below.refl _ _).alloc (Nat.le_refl _) _⟩;rw[Nat.zero_add,<- List.getElem?_toArray]at *;exact hu
theorem itemNames_any {w:World} {m:CatM} (h:ItsV w m.si m.items):Calls Tryz.prog 50 #[m.val] w (NmQ w (m.items.map It.name)):=by
 have Hn:=iH h.len;have H:=iH h;have hs:=h.small;clear h;obtain⟨i0,hi,hz0,hz1,hz2⟩:=info_parts info9;obtain⟨items,rules,tables,taxes,si,sr,st,sx⟩:=m;dsimp only[CatM.val,catS]at *;obtain⟨A0,n0,c0⟩:=si;obtain⟨A1,n1,c1⟩:=sr;obtain⟨A2,n2,c2⟩:=st;obtain⟨A3,n3,c3⟩:=sx;dsimp only at *;have y:Below w.heap.size w (w.alloc (.cells #[.slice A0 n0 c0,.slice A1 n1 c1,.slice A2 n2 c2,.slice A3 n3 c3] 28)):=(Below.refl _ _).alloc (Nat.le_refl _) _;go_enter Tryz.func50,Tryz.ntmps50;go_wp2_with fail;go_loopw [3,9] (fun v i wr=>∃k:Nat,k<=n0∧i=.int .i64 k∧wr.ownsRow w.heap.size 9 1 v k (((items.take k).map It.name).map Value.string)∧Below w.heap.size w wr) (fun _ i _=>n0-(intOf i).toNat)
 case atStart=>exact⟨0,Nat.zero_le _,rfl,World.ownsRow_nil _ _ _ _,y⟩
 case round =>
  obtain⟨k,hk,rfl,hown,hb⟩:=hrel;have HO:=iH hown;have HB:=iH hb;have hsz:=hb.size;by_cases hlt:k<n0
  ·have hkl:k<items.length:=by have:=Hn.out;omega
   obtain⟨b,off,rfl,hbb,d0,d1,d2,d3,d4,d5,d6⟩:=(H.out.below hb).at_ k hkl;have HS:Hid (((items.take (k+1)).map It.name).map Value.string=((items.take k).map It.name).map Value.string ++ [.string (It.name items[k])]):=by
    show _=_;rw[List.take_succ_eq_append_getElem hkl,List.map_append,List.map_append];rfl
   clear hown hb;generalize items[k]=x at *;clear hkl;generalize((items.take k).map It.name).map Value.string=X at *;go_wp2_with(at_builtin;refine wpList_append_own_at _ rfl _ _ 39 rfl w.heap.size 9 i0 (.string ⟨#[]⟩) 1 16 Tryz.underlying39 hi hz0 hz1 hz2 rfl (by decide) _ k X rfl ((HO.out.alloc _).alloc _) ⟨wr.heap.size+1,0,none⟩ 1 1 [.string (It.name x)] rfl rfl ?c1 (one1s _) ?c3 ?c4 ?c5 ?_)
   case c1=>simpa using new1 (wr.alloc (.cells #[.string x.name,.bool x.object,.bool x.mixed,.bool x.coin,.int .i64 x.wear,.int .i64 x.bnd,.int .i64 x.level] 76)) 9 (.string (It.name x))
   case c3=>unfold maxLen;omega
   case c4=>omega
   case c5=>simp;omega
   intro v' w1 hown' hgrow _ _;have hb1:Below w.heap.size w w1:=((HB.out.alloc hsz _).alloc (by simp;omega) _).grown hgrow (by simp;omega) (row_base HO.out);have HO1:=iH hown';clear hown' hgrow;go_wp2_with fail;go_roundw
   case rel=>exact⟨k+1,by omega,by go_num,by rw[HS.out];exact HO1.out,hb1⟩
   case measure=>simp[intOf];omega
  ·have hkn:k=n0:=by omega
   have hT:items.take k=items:=List.take_of_length_le (by have:=Hn.out;omega);rw[hT]at HO;have hQ:∃A c,u3=.slice A n0 c:=by
    rw[hkn]at HO;rcases HO.out.2 with ⟨hv,h0⟩|⟨g,cap,cur,hv,_⟩
    ·exact⟨none,0,by rw[hv,h0]⟩
    ·exact⟨_,_,hv⟩
   obtain⟨A,c,rfl⟩:=hQ;have hL:=Hn.out;rw[hkn]at HO;have HQ:Hid (NmQ w (items.map It.name) (.returned (.slice A n0 c)) wr):=⟨A,n0,c,rfl,⟨TRow.of_own HO.out,by simpa using hL,hs⟩,HB.out⟩;clear hkn hT HO hb hown hL;go_wp2;go_ret;exact HQ.out
theorem ruleNames_any {w:World} {m:CatM} (h:RulesV w m.sr m.rules):Calls Tryz.prog 51 #[m.val] w (NmQ w (m.rules.map RuM.name)):=by
 have Hn:=iH h.len;have H:=iH h;have hs:=h.small;clear h;obtain⟨i0,hi,hz0,hz1,hz2⟩:=info_parts info9;obtain⟨items,rules,tables,taxes,si,sr,st,sx⟩:=m;dsimp only[CatM.val,catS]at *;obtain⟨A0,n0,c0⟩:=si;obtain⟨A1,n1,c1⟩:=sr;obtain⟨A2,n2,c2⟩:=st;obtain⟨A3,n3,c3⟩:=sx;dsimp only at *;have y:Below w.heap.size w (w.alloc (.cells #[.slice A0 n0 c0,.slice A1 n1 c1,.slice A2 n2 c2,.slice A3 n3 c3] 28)):=(Below.refl _ _).alloc (Nat.le_refl _) _;go_enter Tryz.func51,Tryz.ntmps51;go_wp2_with fail;go_loopw [3,9] (fun v i wr=>∃k:Nat,k<=n1∧i=.int .i64 k∧wr.ownsRow w.heap.size 9 1 v k (((rules.take k).map RuM.name).map Value.string)∧Below w.heap.size w wr) (fun _ i _=>n1-(intOf i).toNat)
 case atStart=>exact⟨0,Nat.zero_le _,rfl,World.ownsRow_nil _ _ _ _,y⟩
 case round =>
  obtain⟨k,hk,rfl,hown,hb⟩:=hrel;have HO:=iH hown;have HB:=iH hb;have hsz:=hb.size;by_cases hlt:k<n1
  ·have hkl:k<rules.length:=by have:=Hn.out;omega
   obtain⟨b,off,rfl,hbb,d0,d1,d2,d3,d4,d5,d6,d7,d8⟩:=(H.out.below hb).at_ k hkl;have HS:Hid (((rules.take (k+1)).map RuM.name).map Value.string=((rules.take k).map RuM.name).map Value.string ++ [.string (RuM.name rules[k])]):=by
    show _=_;rw[List.take_succ_eq_append_getElem hkl,List.map_append,List.map_append];rfl
   clear hown hb;generalize rules[k]=x at *;clear hkl;generalize((rules.take k).map RuM.name).map Value.string=X at *;go_wp2_with(at_builtin;refine wpList_append_own_at _ rfl _ _ 39 rfl w.heap.size 9 i0 (.string ⟨#[]⟩) 1 16 Tryz.underlying39 hi hz0 hz1 hz2 rfl (by decide) _ k X rfl ((HO.out.alloc _).alloc _) ⟨wr.heap.size+1,0,none⟩ 1 1 [.string (RuM.name x)] rfl rfl ?c1 (one1s _) ?c3 ?c4 ?c5 ?_)
   case c1=>simpa using new1 (wr.alloc (.cells #[.string x.name,.bool x.spawn,.int .i64 x.level,.int .i64 x.time,.int .i64 x.chance,.int .i64 x.of_,.slice x.st.A x.st.n x.st.c,.slice x.sg.A x.sg.n x.sg.c,.slice x.sb.A x.sb.n x.sb.c] 80)) 9 (.string (RuM.name x))
   case c3=>unfold maxLen;omega
   case c4=>omega
   case c5=>simp;omega
   intro v' w1 hown' hgrow _ _;have hb1:Below w.heap.size w w1:=((HB.out.alloc hsz _).alloc (by simp;omega) _).grown hgrow (by simp;omega) (row_base HO.out);have HO1:=iH hown';clear hown' hgrow;go_wp2_with fail;go_roundw
   case rel=>exact⟨k+1,by omega,by go_num,by rw[HS.out];exact HO1.out,hb1⟩
   case measure=>simp[intOf];omega
  ·have hkn:k=n1:=by omega
   have hT:rules.take k=rules:=List.take_of_length_le (by have:=Hn.out;omega);rw[hT]at HO;have hQ:∃A c,u3=.slice A n1 c:=by
    rw[hkn]at HO;rcases HO.out.2 with ⟨hv,h0⟩|⟨g,cap,cur,hv,_⟩
    ·exact⟨none,0,by rw[hv,h0]⟩
    ·exact⟨_,_,hv⟩
   obtain⟨A,c,rfl⟩:=hQ;have hL:=Hn.out;rw[hkn]at HO;have HQ:Hid (NmQ w (rules.map RuM.name) (.returned (.slice A n1 c)) wr):=⟨A,n1,c,rfl,⟨TRow.of_own HO.out,by simpa using hL,hs⟩,HB.out⟩;clear hkn hT HO hb hown hL;go_wp2;go_ret;exact HQ.out
section
structure Gr2 (r p : Nat) (w w' : World) : Prop where
 os:w'.os=w.os
 tape:w'.tape=w.tape
 output:w'.output=w.output
 size:w.heap.size<=w'.heap.size
 block:∀i,i<w.heap.size->i≠r->i≠p->w'.heap[i]? = w.heap[i]?
section
variable {r p : Nat} {a b c w w' : World}
theorem Gr2.refl (r p:Nat) (w:World):Gr2 r p w w:=⟨rfl,rfl,rfl,Nat.le_refl _,fun _ _ _ _=>rfl⟩
theorem Gr2.trans (h:Gr2 r p a b) (k:Gr2 r p b c):Gr2 r p a c:=⟨k.os.trans h.os,k.tape.trans h.tape,k.output.trans h.output,Nat.le_trans h.size k.size,fun i hi h1 h2=>(k.block i (Nat.lt_of_lt_of_le hi h.size) h1 h2).trans (h.block i hi h1 h2)⟩
theorem Gr2.of_r (h:w.grownBy w' (some r)):Gr2 r p w w':=⟨h.os,h.tape,h.output,h.size,fun i hi h1 _=>h.block i hi (by simpa using h1)⟩
theorem Gr2.of_p (h:w.grownBy w' (some p)):Gr2 r p w w':=⟨h.os,h.tape,h.output,h.size,fun i hi _ h2=>h.block i hi (by simpa using h2)⟩
theorem Gr2.of_below (h:Below w.heap.size w w'):Gr2 r p w w':=⟨h.os,h.tape,h.output,h.size,fun i hi _ _=>h.block i hi⟩
theorem Gr2.below {B:Nat} (h:Gr2 r p b c) (k:Below B a b) (hr:B<=r) (hp:B<=p) (hB:B<=b.heap.size):Below B a c:=k.trans ⟨h.os,h.tape,h.output,h.size,fun i hi=>h.block i (by omega) (by omega) (by omega)⟩
theorem Gr2.keep {t:TypeId} (h:Gr2 r p w w') (hr:∀cur fl,w.heap[r]? ≠ some (.cells cur t fl)) (hp:∀cur fl,w.heap[p]? ≠ some (.cells cur t fl)):Keep t w w':=fun i cur fl hi=>by
 have h1:i≠r:=fun e=>hr cur fl (e ▸ hi)
 have h2:i≠p:=fun e=>hp cur fl (e ▸ hi)
 exact(h.block i (Array.getElem?_eq_some_iff.1 hi).1 h1 h2).trans hi
theorem Bk.gr2 {g:Nat} {t:TypeId} {xs:List Value} (k:Bk w g t xs) (h:Gr2 r p w w') (h1:g≠r) (h2:g≠p):Bk w' g t xs:=(h.block g k.lt h1 h2).trans k
theorem Bk.not {g:Nat} {t t':TypeId} {xs:List Value} (k:Bk w g t xs) (hne:t≠t'):∀cur fl,w.heap[g]? ≠ some (.cells cur t' fl):=fun cur fl e=>by
 unfold Bk at k;rw[k]at e;cases e;exact hne rfl
theorem MkM.Ok.gr2 {t:TypeId} {P:Nat->Prop} {m:MkM} (h:m.Ok w t P) (hg:Gr2 r p w w') (hP:∀b,P b->b≠r∧b≠p):m.Ok w' t P:=by
 induction h with
 | mk op a b ks s row len small hop ha hb _ ih =>
   refine .mk op a b ks s ?_ len small hop ha hb ih;rcases row with h|⟨b,off,cur,fl,hA,hPb,hb,hc⟩
   ·exact .inl h
   ·exact .inr ⟨b,off,cur,fl,hA,hPb,(hg.block b (Array.getElem?_eq_some_iff.1 hb).1 (hP b hPb).1 (hP b hPb).2).trans hb,hc⟩
end
def pCells (rb:Nat) (m:CatM) (st:PSt):List Value:=[.pointer (some ⟨rb,0,none⟩),.slice m.si.A m.si.n m.si.c,.slice m.sr.A m.sr.n m.sr.c,.slice m.st.A m.st.n m.st.c,.slice m.sx.A m.sx.n m.sx.c,.string ⟨#[]⟩,.int .i64 0,.int .i64 0,.slice none 0 0,.int .i64 st.2,.int .i64 st.1]
structure PAt (W : World) (rb pb : Nat) (m : CatM) (ts : List Tok) (len : Int) (st : PSt) : Prop where
 rd:RdAt W rb ts len
 pk:Bk W pb 142 (pCells rb m st)
 its:ItsV W m.si m.items
 rus:RulesV W m.sr m.rules
 lt:rb<pb
 toks:∀t∈ts,t.text.size<=8192∧In64 t.num
section
variable {W W' : World} {rb pb : Nat} {m : CatM} {ts ts' : List Tok} {len : Int} {st st' : PSt}
theorem RdAt.not {t':TypeId} (h:RdAt W rb ts len) (hne:176≠t'):∀cur fl,W.heap[rb]? ≠ some (.cells cur t' fl):=by
 obtain⟨A,c,h1,_⟩:=h;exact h1.not hne
theorem PAt.turned (h:PAt W rb pb m ts len st) (g:Gr2 rb pb W W') (hrd:RdAt W' rb ts' len) (hpk:Bk W' pb 142 (pCells rb m st')) (hts:∀t∈ts',t∈ts):PAt W' rb pb m ts' len st' :=
 ⟨hrd,hpk,h.its.keep (g.keep (h.rd.not (by decide)) (h.pk.not (by decide))),h.rus.keep (g.keep (h.rd.not (by decide)) (h.pk.not (by decide))) (g.keep (h.rd.not (by decide)) (h.pk.not (by decide))),h.lt,fun t ht=>h.toks t (hts t ht)⟩
theorem PAt.read (h:PAt W rb pb m ts len st) (g:W.grownBy W' (some rb)) (hrd:RdAt W' rb ts' len) (hts:∀t∈ts',t∈ts):PAt W' rb pb m ts' len st :=
 h.turned (.of_r g) hrd (h.pk.grown g (by have:=h.lt;simp;omega)) hts
theorem PAt.below (h:PAt W rb pb m ts len st) (hb:Below W.heap.size W W'):PAt W' rb pb m ts len st :=
 h.turned (.of_below hb) (h.rd.below hb) (h.pk.below hb h.pk.lt) fun _ ht=>ht
theorem PAt.r0 (h:PAt W rb pb m ts len st):W.cell? ⟨pb,0,none⟩=some (.pointer (some ⟨rb,0,none⟩)):=h.pk.cell 0
theorem PAt.plt (h:PAt W rb pb m ts len st):pb<W.heap.size:=h.pk.lt
theorem PAt.rlt (h:PAt W rb pb m ts len st):rb<W.heap.size:=h.rd.lt
end
theorem isB_any (ts:List Tok) (k:Int):isB ts k ⟨#[]⟩=kindB ts k:=by
 cases ts with
 | nil=>rfl
 | cons t r=>simp[isB,kindB,ByteArray.toList_eq]
theorem isB_word (ts:List Tok) (k:Int) {s:ByteArray} (hs:s≠⟨#[]⟩):isB ts k s=headB ts k s:=by
 cases ts with
 | nil=>rfl
 | cons t r =>
   have:s.toList.isEmpty=false:=by
    cases q:s.toList.isEmpty
    ·rfl
    ·exfalso;rw[List.isEmpty_iff,ByteArray.toList_eq]at q;exact hs (bytes_inj (by simpa using q))
   simp[isB,headB,this,eqL]
theorem find_any {W:World} {rb pb:Nat} {m:CatM} {ts:List Tok} {len:Int} {st:PSt} (a e:Int) (h:PAt W rb pb m ts len st):Calls Tryz.prog 145 #[.pointer (some ⟨pb,0,none⟩),.int .i64 a,.int .i64 e] W fun en w'=>en=.returned (.tuple #[])∧PAt w' rb pb m ts len (st.note e a)∧Gr2 rb pb W w':=by
 have H:=iH h;have hl:=h.plt;have c10:W.cell? ⟨pb,10,none⟩=some (.int .i64 st.1):=h.pk.cell 10;have f9:=h.pk.frozen 9;have f10:=h.pk.frozen 10;have c9:W.cell? ⟨pb,9,none⟩=some (.int .i64 st.2):=h.pk.cell 9;obtain⟨s1,s2⟩:=st;dsimp only at *;clear h;cases q:(s1 == 0)
 ·have q':(s1 == 0)=false:=q;have hn:(PSt.note (s1,s2) e a)=(s1,s2):=by simp only[PSt.note];rw[if_neg (by simpa using q)]
  have HN:=iH hn;clear hn q;go_enter Tryz.func145,Tryz.ntmps145;go_wp2
  go_end0
  exact⟨rfl,by rw[HN.out];exact H.out,.refl _ _ _⟩
 ·have hn:(PSt.note (s1,s2) e a)=(e,a):=by simp only[PSt.note];rw[if_pos (by simpa using q)]
  have HB:Hid (Bk ((W.setCell ⟨pb,9,none⟩ (.int .i64 a)).setCell ⟨pb,10,none⟩ (.int .i64 e)) pb 142 (pCells rb m (e,a))):=(H.out.pk.set 9 (.int .i64 a)).set 10 (.int .i64 e);have HG:Hid (W.grownBy ((W.setCell ⟨pb,9,none⟩ (.int .i64 a)).setCell ⟨pb,10,none⟩ (.int .i64 e)) (some pb)):=grown_trans2 (grown_setCell W pb 9 _) (grown_setCell _ pb 10 _);have HR:=iH (H.out.rd.keep (W':=(W.setCell ⟨pb,9,none⟩ (.int .i64 a)).setCell ⟨pb,10,none⟩ (.int .i64 e)) fun i hi=>HG.out.block i (Nat.lt_of_le_of_lt hi H.out.rlt) (by have:=H.out.lt;simp;omega));have q':s1=0:=by simpa using q
  subst q';have HN:=iH hn;clear hn q;go_enter Tryz.func145,Tryz.ntmps145;go_wp2
  go_end0
  exact⟨rfl,by rw[HN.out];exact H.out.turned (.of_p HG.out) HR.out HB.out fun _ ht=>ht,.of_p HG.out⟩
end
def nameV (l:List ByteArray) (s:ByteArray):Int:=match nameIx l s with | some i=>i | none=>0
def nameSt (l:List ByteArray) (t:Tok) (st:PSt):PSt:=match nameIx l t.text with | some _=>st | none=>st.note 6 t.at_
theorem name_no {W:World} {rb pb:Nat} {m:CatM} {ts:List Tok} {len:Int} {st:PSt} {A:Option Addr} {n c:Nat} (h:PAt W rb pb m ts len st) (hk:kindB ts 0=false):Calls Tryz.prog 143 #[.pointer (some ⟨pb,0,none⟩),.slice A n c] W fun e w'=>e=failV ts len∧Gr2 rb pb W w':=by
 have K:=iH (word_no ⟨#[]⟩ h.rd (by rw[isB_any];exact hk));have r0:=h.r0;have hl:=h.plt;clear h hk;go_enter Tryz.func143,Tryz.ntmps143;go_wp2_with fail;refine K.out.mono ?_;rintro e w1 ⟨rfl,hg⟩;exact⟨rfl,rfl,.of_r hg⟩
theorem name_ok {W:World} {rb pb:Nat} {m:CatM} {t:Tok} {r:List Tok} {len:Int} {st:PSt} {A:Option Addr} {n c:Nat} {l:List ByteArray} (h:PAt W rb pb m (t :: r) len st) (hN:NmV W A n l) (hk:t.kind=0) :
 Calls Tryz.prog 143 #[.pointer (some ⟨pb,0,none⟩),.slice A n c] W fun e w'=>e=.returned (.int .i64 (nameV l t.text))∧PAt w' rb pb m r len (nameSt l t st)∧Gr2 rb pb W w':=by
 have K:=iH (word_yes ⟨#[]⟩ h.rd (by rw[isB_any];simp[kindB,hk]));have r0:=h.r0;have hl:=h.plt;have H:=iH h;have HN:=iH hN;clear h hk hN;go_enter Tryz.func143,Tryz.ntmps143;go_wp2_with fail;refine K.out.mono ?_;rintro e w1 ⟨rfl,hr,hg⟩;have H1:=H.out.read hg hr (fun _ ht=>List.mem_cons_of_mem _ ht);have y:Below w1.heap.size w1 (w1.alloc (.cells #[.int .i64 t.kind,.string t.text,.int .i64 t.num,.int .i64 t.at_] 186)):=(Below.refl _ _).alloc (Nat.le_refl _) _;have H2:=iH (H1.below y);have HG:=iH ((Gr2.of_r (p:=pb) hg).trans (.of_below y));have KI:=iH (index_any (c:=c) t.text ((HN.out.keep (.grown hg (H.out.rd.not (by decide)))).below y));clear K hr hg H1;go_wp2_with fail;refine KI.out.mono ?_;rintro e w2 ⟨rfl,rfl⟩;have HF:=iH (find_any t.at_ 6 H2.out);clear KI y;have e1:ixOf l t.text=(match nameIx l t.text with | some k=>(k:Int) | none=>-1):=rfl;have e2:nameV l t.text=(match nameIx l t.text with | some k=>(k:Int) | none=>0):=rfl;have e3:nameSt l t st=(match nameIx l t.text with | some _=>st | none=>st.note 6 t.at_):=rfl;have E3:=iH e3;have E2:=iH e2;rw[e1];clear e1 e2 e3;cases q:nameIx l t.text with
 | some k =>
   rw[q]at E3 E2;have E3':=E3.out;have E2':=E2.out;dsimp only at E3' E2'⊢;have E4:=iH E3';have E5:=iH E2';clear E2 E2';clear E3 E3' q HF;go_wp2;go_ret;exact⟨by rw[E5.out];rfl,by rw[E4.out];exact H2.out,HG.out⟩
 | none =>
   rw[q]at E3 E2;have E3':=E3.out;have E2':=E2.out;dsimp only at E3' E2'⊢;have E4:=iH E3';have E5:=iH E2';clear E2 E2';clear E3 E3' q;go_wp2_with fail;refine HF.out.mono ?_;rintro e w3 ⟨rfl,hp,hg3⟩;have HP:=iH hp;have HG3:=iH (HG.out.trans hg3);clear HF hp hg3;go_wp2;go_ret;exact⟨by rw[E5.out];rfl,by rw[E4.out];exact HP.out,HG3.out⟩
def RgOk (q:Nat) (f:Int->Int->Bool):Prop:=∀(op:ByteArray) (a b:Int) (A:Option Addr) (n c:Nat) (w:World),Calls Tryz.prog q #[.agg #[.string op,.int .i64 a,.int .i64 b,.slice A n c]] w fun e w'=>e=.returned (.bool (f a b))∧Below w.heap.size w w'
theorem rg_account:RgOk 93 fun a _=>decide (0<=a) && decide (a<=1073741824):=by
 intro op a b A n c w;cases q:decide (0<=a)
 ·have q':decide (0<=a)=false:=q;go_enter Tryz.func93,Tryz.ntmps93;go_wp2;go_ret;exact⟨by congr 2;(first | (rw[q];simp) | skip);(first | (rw[q2];simp) | skip),(Below.refl _ _).alloc (Nat.le_refl _) _⟩
 ·have q':decide (0<=a)=true:=q;go_enter Tryz.func93,Tryz.ntmps93;go_wp2;go_ret;exact⟨by congr 2;(first | (rw[q];simp) | skip);(first | (rw[q2];simp) | skip),(Below.refl _ _).alloc (Nat.le_refl _) _⟩
theorem rg_range:RgOk 98 fun a b=>decide (0<=a) && decide (a<=b) && decide (b<=1099511627776):=by
 intro op a b A n c w;cases q:decide (0<=a)
 ·have q':decide (0<=a)=false:=q;go_enter Tryz.func98,Tryz.ntmps98;go_wp2;go_ret;exact⟨by congr 2;(first | (rw[q];simp) | skip);(first | (rw[q2];simp) | skip),(Below.refl _ _).alloc (Nat.le_refl _) _⟩
 ·have q':decide (0<=a)=true:=q;cases q2:decide (a<=b)
  ·have q2':decide (a<=b)=false:=q2;go_enter Tryz.func98,Tryz.ntmps98;go_wp2;go_ret;exact⟨by congr 2;rw[q,q2];simp,(Below.refl _ _).alloc (Nat.le_refl _) _⟩
  ·have q2':decide (a<=b)=true:=q2;go_enter Tryz.func98,Tryz.ntmps98;go_wp2;go_ret;exact⟨by congr 2;rw[q,q2];simp,(Below.refl _ _).alloc (Nat.le_refl _) _⟩
theorem rg_always:RgOk 96 fun _ _=>true:=by
 intro op a b A n c w;go_enter Tryz.func96,Tryz.ntmps96;go_wp2;go_ret;exact⟨rfl,by first | exact Below.refl _ _ | exact(Below.refl _ _).alloc (Nat.le_refl _) _⟩
theorem rg_kind:RgOk 91 fun a _=>decide (0<=a) && decide (a<=10):=by
 intro op a b A n c w;cases q:decide (0<=a)
 ·have q':decide (0<=a)=false:=q;go_enter Tryz.func91,Tryz.ntmps91;go_wp2;go_ret;exact⟨by congr 2;(first | (rw[q];simp) | skip);(first | (rw[q2];simp) | skip),(Below.refl _ _).alloc (Nat.le_refl _) _⟩
 ·have q':decide (0<=a)=true:=q;go_enter Tryz.func91,Tryz.ntmps91;go_wp2;go_ret;exact⟨by congr 2;(first | (rw[q];simp) | skip);(first | (rw[q2];simp) | skip),(Below.refl _ _).alloc (Nat.le_refl _) _⟩
theorem rg_more:RgOk 103 fun a _=>decide (0<=a) && decide (a<=1099511627776):=by
 intro op a b A n c w;cases q:decide (0<=a)
 ·have q':decide (0<=a)=false:=q;go_enter Tryz.func103,Tryz.ntmps103;go_wp2;go_ret;exact⟨by congr 2;(first | (rw[q];simp) | skip);(first | (rw[q2];simp) | skip),(Below.refl _ _).alloc (Nat.le_refl _) _⟩
 ·have q':decide (0<=a)=true:=q;go_enter Tryz.func103,Tryz.ntmps103;go_wp2;go_ret;exact⟨by congr 2;(first | (rw[q];simp) | skip);(first | (rw[q2];simp) | skip),(Below.refl _ _).alloc (Nat.le_refl _) _⟩
end Go.Proofs.YtocodlpgaamblaaGreatDoor
