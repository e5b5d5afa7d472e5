/- Rows of numbers in a row: the memory of Effects. A region that draws its order, inside a round of a range over an iterator. Effects. Plain laws of words: lists of digits to the base 2^32. Words in memory; trim, signed, limited, From. signed, limited, From. Comparisons. -/
import Derived.Test.YtiecjoijnkghbaaGreatDoorY4
import Derived.Test.YtiecjoijnkghbaaGreatDoorY7
import Derived.Test.YtiecjoijnkghbaaGreatDoorY21
import Derived.OrdersIn
import Derived.OwnWalkIn
import Derived.Sort.CutIn
set_option linter.unusedVariables false
set_option linter.unusedSimpArgs false
set_option maxRecDepth 100000
set_option maxHeartbeats 4000000
open Go.RowKit
namespace Go.Proofs.YtiecjoijnkghbaaGreatDoor
section
structure MatI (V W : World) (R n : Nat) (cols : Nat -> List Int) : Prop where
 box:Bk W (R+1) 35 [.slice (some ⟨R,0,none⟩) n n]
 rows:∃sls:List Sl,sls.length=n∧Bk W R 22 (sls.map slv)∧(∀i (hi:i<sls.length),W.ownsRow (R+6) 3 1 (slv sls[i]) (cols i).length (ints (cols i))) ∧
  ∀i j (hi:i<sls.length) (hj:j<sls.length),i≠j->∀g,(slv sls[i]).ownBlock=some g->(slv sls[j]).ownBlock≠some g
 bel:Below R V W
section
variable {V W W' : World} {R n : Nat} {cols : Nat -> List Int}
theorem own_ge {base e size k:Nat} {v:Value} {xs:List Value} (h:W.ownsRow base e size v k xs) {g:Nat} (hg:v.ownBlock=some g):base<=g∧g<W.heap.size:=by
 rcases h.2 with ⟨rfl,_⟩|⟨g',cap,cur,rfl,hb,hc,_⟩
 ·simp[Value.ownBlock]at hg
 ·simp[Value.ownBlock]at hg;subst hg;exact⟨hb,(Array.getElem?_eq_some_iff.1 hc).1⟩
theorem MatI.kept (h:MatI V W R n cols) {row:Option Nat} (hg:W.grownBy W' row) (hr:∀r,row=some r->R+2<=r∧r<R+6):MatI V W' R n cols:=by
 obtain⟨b,⟨sls,h1,h2,h3,h4⟩,h5⟩:=h;have ne:∀g,(g<R+2∨R+6<=g)->some g≠row:=fun g hh e=>by have:=hr g e.symm;omega
 refine⟨b.grown hg (ne _ (by omega)),⟨sls,h1,h2.grown hg (ne _ (by omega)),fun i hi=>?_,h4⟩,?_⟩
 ·refine(h3 i hi).kept hg ?_;cases hq:(slv sls[i]).ownBlock with
  | none=>exact .inl rfl
  | some g=>exact .inr (ne g (.inr (own_ge (h3 i hi) hq).1))
 ·exact h5.grown hg (by have:=b.lt;omega) (fun q e=>by have:=hr q e;omega)
theorem MatI.cell (h:MatI V W R n cols) (i:Nat) (hi:i<n):∃s:Sl,W.cell? ⟨R,i,none⟩=some (slv s)∧s.n=(cols i).length∧W.ownsRow (R+6) 3 1 (slv s) (cols i).length (ints (cols i)):=by
 obtain⟨b,⟨sls,h1,h2,h3,h4⟩,h5⟩:=h;have hi':i<sls.length:=by omega
 refine⟨sls[i],(h2.cell i).trans (by simp[hi']),?_,h3 i hi'⟩;rcases(h3 i hi').2 with ⟨e,e0⟩|⟨g,cap,cur,e,_⟩
 ·have:slv sls[i]=.slice none 0 0:=e;simp only[slv,Value.slice.injEq]at this;rw[this.2.1,e0]
 ·simp only[slv,Value.slice.injEq]at e;exact e.2.1
theorem MatI.push (h:MatI V W R n cols) (i:Nat) (hi:i<n) (x:Int) (hs:(cols i).length<=100000) (hE:R+6<=W.heap.size) {s:Sl} (hc:W.cell? ⟨R,i,none⟩=some (slv s)) :
 ∃g cap w1,(Builtin.append_ #[22,22] 22 #[.slice s.A s.n s.c,.slice (some ⟨W.heap.size,0,none⟩) 1 1]).run Tryz.prog (W.alloc (.cells #[.int .i64 x] 3))=.ok (.slice (some ⟨g,0,none⟩) ((cols i).length+1) cap) w1 ∧
  w1.cell? ⟨R,i,none⟩=some (slv s)∧w1.frozen? ⟨R,i,none⟩=false∧R<w1.heap.size ∧
  (∀cols':Nat->List Int,cols' i=cols i ++ [x]->(∀j,j≠i->cols' j=cols j)->MatI V (w1.setCell ⟨R,i,none⟩ (.slice (some ⟨g,0,none⟩) ((cols i).length+1) cap)) R n cols') ∧
  KeepsOthers W (w1.setCell ⟨R,i,none⟩ (.slice (some ⟨g,0,none⟩) ((cols i).length+1) cap))∧KpE (R+5) W (w1.setCell ⟨R,i,none⟩ (.slice (some ⟨g,0,none⟩) ((cols i).length+1) cap))∧w1.cell? ⟨R+1,0,none⟩=some (.slice (some ⟨R,0,none⟩) n n)∧R+1<w1.heap.size:=by
 obtain⟨i0,hi0,hz0,hz1,hz2⟩:=info_parts info3;obtain⟨b,⟨sls,h1,h2,h3,h4⟩,h5⟩:=h;have hi':i<sls.length:=by omega
 have es:slv sls[i]=slv s:=by
  have:=(h2.cell i).trans (show(sls.map slv)[i]? = some (slv sls[i]) by simp[hi']);rw[hc]at this;exact(Option.some.inj this).symm
 have own:=h3 i hi';rw[es]at own;have own1:=own.alloc (.cells #[.int .i64 x] 3);obtain⟨v',w1,hrun,hown',hgrow,-,hloc⟩:=run_append_own_at (P:=Tryz.prog) (w:=W.alloc (.cells #[.int .i64 x] 3)) (ty:=22) (R+6) 22 3 i0 (.int .i64 0) 1 8 Tryz.underlying22 hi0 hz0 hz1 hz2 rfl (by decide) (slv s) (cols i).length (ints (cols i)) own1 ⟨W.heap.size,0,none⟩ 1 1 [.int .i64 x] rfl
  (fun j u hu=>by
   match j,hu with
   | 0,hu=>simpa[Addr.add]using((Bk.new W 3 [.int .i64 x]).cell 0).trans hu
   | j+1,hu=>simp at hu) (fun u hu=>by simp at hu;subst hu;rfl) (by unfold maxLen;omega) (by omega) (by simp;omega)
 obtain⟨g,cap,rfl⟩:=ownsRow_succ hown';have hg6:=own_ge hown' (g:=g) rfl;have hkeep:∀k,k<W.heap.size->some k≠(slv s).ownBlock->w1.heap[k]? = W.heap[k]?:=fun k hk hne=>(hgrow.block k (by simp;omega) hne).trans (Below.heap_alloc W _ k hk)
 have sge:∀q,(slv s).ownBlock=some q->R+6<=q∧q<W.heap.size:=fun q hq=>own_ge own hq
 have low:∀k,k<R+6->some k≠(slv s).ownBlock:=fun k hk e=>by have:=sge k e.symm;omega
 have bR:Bk w1 R 22 (sls.map slv):=(hkeep R (by omega) (low R (by omega))).trans h2;have bB:Bk w1 (R+1) 35 [.slice (some ⟨R,0,none⟩) n n]:=(hkeep (R+1) (by omega) (low _ (by omega))).trans b;have hWs:W.heap.size<=w1.heap.size:=by have:=hgrow.size;simp at this;omega
 have hB1:Below R V w1:=(h5.alloc (by omega) _).grown hgrow (by simp;omega) (fun q e=>by have:=sge q e;omega);have hcel:∀q,(slv s).ownBlock=some q->∃cs fr,W.heap[q]? = some (.cells cs 3 fr):=fun q hq=>by
  rcases own.2 with ⟨e,_⟩|⟨g',cap',cur,e,_,hc',_⟩
  ·rw[e]at hq;simp[Value.ownBlock]at hq
  ·rw[e]at hq;simp[Value.ownBlock]at hq;subst hq;exact⟨_,_,hc'⟩
 refine⟨g,cap,w1,hrun,(bR.cell i).trans (by simp[hi',es]),bR.frozen i,bR.lt,?_,?_,?_,bB.cell 0,bB.lt⟩
 ·intro cols' hc1 hc2;refine⟨bB.far (p:=⟨R,i,none⟩) (by simp) _,⟨sls.set i ⟨some ⟨g,0,none⟩,(cols i).length+1,cap⟩,by simpa using h1,?_,fun j hj=>?_,fun j k hj hk hjk q hq hq2=>?_⟩,hB1.setCell (p:=⟨R,i,none⟩) (Nat.le_refl _) _⟩
  ·rw[List.map_set];exact bR.set i _
  ·have hj':j<sls.length:=by simpa using hj
   by_cases e:j=i
   ·subst e;rw[List.getElem_set_self,hc1];have:=hown';rw[show ints (cols j) ++ [Value.int .i64 x]=ints (cols j ++ [x]) by simp[ints]]at this;rw[List.length_append];exact ownsRow_setCell_below this (a:=⟨R,j,none⟩) (by show R<R+6;omega) _
   ·rw[List.getElem_set_ne (fun h=>e h.symm),hc2 j e];have k1:=(h3 j hj').alloc (.cells #[.int .i64 x] 3);have k2:=k1.kept hgrow (by
     cases hq:(slv sls[j]).ownBlock with
     | none=>exact .inl rfl
     | some q=>exact .inr fun h=>h4 j i hj' hi' e q hq (by rw[es];exact h.symm))
    exact ownsRow_setCell_below k2 (a:=⟨R,i,none⟩) (by show R<R+6;omega) _
  ·have hj':j<sls.length:=by simpa using hj
   have hk':k<sls.length:=by simpa using hk
   have old:∀l (hl:l<sls.length),l≠i->∀q,(slv sls[l]).ownBlock=some q->q≠g:=fun l hl hli q hq3 e=>by
    subst e;rcases hloc with hl2|hl2
    ·exact h4 l i hl hi' hli q hq3 (by rw[es];exact hl2.symm)
    ·have:=(own_ge (h3 l hl) hq3).2;simp[Value.ownBlock]at hl2;omega
   by_cases ej:j=i
   ·subst ej;rw[List.getElem_set_self]at hq;rw[List.getElem_set_ne hjk]at hq2;simp[slv,Value.ownBlock]at hq;exact old k hk' (fun h=>hjk h.symm) q hq2 hq.symm
   ·rw[List.getElem_set_ne (fun h=>ej h.symm)]at hq;by_cases ek:k=i
    ·subst ek;rw[List.getElem_set_self]at hq2;simp[slv,Value.ownBlock]at hq2;exact old j hj' ej q hq hq2.symm
    ·rw[List.getElem_set_ne (fun h=>ek h.symm)]at hq2;exact h4 j k hj' hk' hjk q hq hq2
 ·refine((KeepsOthers.alloc W _).trans (.of_grownBy hgrow fun q o hq ho=>?_)).trans (.setCell _ _ _);obtain⟨cs,fr,hcs⟩:=hcel q hq;rw[Below.heap_alloc W _ q (Array.getElem?_eq_some_iff.1 hcs).1,hcs]at ho;cases ho;rfl
 ·refine⟨fun t t3 t22=>((Keep.alloc t W _).trans (.own own1 hgrow (Ne.symm t3))).trans (.setCell bR (Ne.symm t22) _),?_⟩;exact(Below.heap_setCell w1 ⟨R,i,none⟩ _ (R+5) (by show R+5≠R;omega)).trans (hkeep (R+5) (by omega) (low _ (by omega)))
theorem MatI.congr (h:MatI V W R n cols) {cols':Nat->List Int} (e:∀i,i<n->cols' i=cols i):MatI V W R n cols':=by
 obtain⟨b,⟨sls,h1,h2,h3,h4⟩,h5⟩:=h;exact⟨b,⟨sls,h1,h2,fun i hi=>by rw[e i (by omega)];exact h3 i hi,h4⟩,h5⟩
end
theorem rowOf_small {N:Nat} {o l:List P2} (ho:OutOk N o) (hl:OutOk N l) (k:Nat) : -140737488355328<=wAt (rowOf N o l) k∧wAt (rowOf N o l) k<=140737488355328:=by
 have h1:=ho.eff o.length k;have h2:=hl.eff l.length k;rw[List.take_length]at h1 h2;by_cases hk:k<N
 ·rw[rowOf_at _ _ hk];omega
 ·have:wAt (rowOf N o l) k=0:=by simp[wAt,rowOf,hk]
  omega
theorem resL_small {m:CatM} (hc:codeC m=0):∀x∈resL m,∀k,-140737488355328<=wAt x.2 k∧wAt x.2 k<=140737488355328:=by
 intro x hx k;unfold resL at hx;rw[resTo_outs]at hx;obtain⟨y,hy,rfl⟩:=List.mem_map.1 hx;obtain⟨r1,r2⟩:=outs_range hc y hy;obtain⟨⟨s1,s2⟩,s3,s4⟩:=res_small hc y hy;exact rowOf_small ⟨s1,fun p hp=>⟨r1 p hp,s2 p hp⟩⟩ ⟨s3,fun p hp=>⟨r2 p hp,s4 p hp⟩⟩ k
theorem colOf_wf {m:CatM} (hc:codeC m=0) (i:Nat):Wf (colOf m i):=by
 intro z hz;obtain⟨x,hx,rfl⟩:=List.mem_map.1 hz;have:=resL_small hc x hx i;omega
theorem MatI.out {m:CatM} {V W:World} {R:Nat} (hc:codeC m=0) (h:MatI V W R m.items.length (fun i=>(resL m).map fun r=>wAt r.2 i)) :
 ∃sls:List Sl,TRow W 22 (some ⟨R,0,none⟩) (sls.map slv)∧sls.length=m.items.length∧∀i (hi:i<sls.length),IntsV W sls[i].A sls[i].n (colOf m i):=by
 obtain⟨b,⟨sls,h1,h2,h3,h4⟩,h5⟩:=h;refine⟨sls,trow_bk h2,h1,fun i hi=>?_⟩;have own:=h3 i hi;have hn:sls[i].n=(colOf m i).length:=by
  rcases own.2 with ⟨e,e0⟩|⟨g,cap,cur,e,_⟩
  ·have:slv sls[i]=.slice none 0 0:=e;simp only[slv,Value.slice.injEq]at this;rw[this.2.1];exact e0.symm
  ·simp only[slv,Value.slice.injEq]at e;exact e.2.1
 have own':W.ownsRow (R+6) 3 1 (.slice sls[i].A (colOf m i).length sls[i].c) (colOf m i).length (ints (colOf m i)):=by
  rw[<- hn];have:W.ownsRow (R+6) 3 1 (slv sls[i]) (colOf m i).length (ints (colOf m i)):=own;rw[<- hn]at this;exact this
 exact⟨(TRow.of_own own').row,hn,colOf_wf hc i⟩
end
section
section
variable {l n : Nat} {P : Program} {ops : Array Oper} {Q : Exit -> Act -> World -> Prop} {md : Region.Mode}
theorem rows_round {row:String} {args:Array Value} {w:World} {R:Value->World->Prop} (h:Rows P row args w R):RowsIn (Fence.wide.inRound l) n P row args w R :=
 fun c cs _=>let ⟨v,w',r,s⟩:=h c cs;⟨v,w',r,stepsIn_wide.2 s⟩
theorem oper_round {o:Oper} {K:Act->World->Prop} {a:Act} {w:World} (hd:∀c,o.op≠.defer c) (h:o.wp P a w K Q):o.wpIn (Fence.wide.inRound l) n P a w K Q:=by
 refine⟨fun _ _=>trivial,?_⟩;rw[Oper.semAt_plain _ _ _ hd];unfold Oper.wp at h;generalize(execOp a.eval o).run P w=r at *;cases r with
 | ok x w' =>
   cases x <;> simp only[Oper.upon,Oper.uponIn]at h⊢ <;>
    first
     | exact h
     | exact⟨fun hh=>(by cases hh),CallsIn.inRound l (callsIn_wide.2 h)⟩
     | exact⟨fun hh=>(by cases hh),rows_round h⟩
 | halt x w'=>cases x <;> simp only[Oper.upon,Oper.uponIn]at h⊢ <;> exact h
theorem wpOp_round (hL:¬ LetsOut Q) (hd:∀(i:Nat) (o:Oper) (c:Call),ops[i]? = some o->o.op≠.defer c) {i:Nat} {K:Act->World->Prop} {a:Act} {w:World} (h:wpOp P ops Q i K a w):wpOpIn (Fence.wide.inRound l) n P ops Q i K a w:=by
 unfold wpOp at h;unfold wpOpIn;cases ho:ops[i]? with
 | none=>rw[ho]at h;exact h
 | some o =>
   rw[ho]at h;dsimp only at h⊢;split
   ·rename_i hw
    rw[if_pos hw]at h;exact oper_round (fun c=>hd i o c ho) (h.resolve_right fun x=>hL x.2)
   ·rename_i hw
    rw[if_neg hw]at h;exact⟨fun _ _=>trivial,h⟩
theorem wpAny_round (hL:¬ LetsOut Q) (hd:∀(i:Nat) (o:Oper) (c:Call),ops[i]? = some o->o.op≠.defer c):∀(fuel:Nat) (listed:Array Bool) (a:Act) (w:World),wpAny P md ops Q fuel listed a w->wpAnyIn (Fence.wide.inRound l) n P md ops Q fuel listed a w
 | 0,_,_,_,h=>h
 | fuel+1,_,_,_,h=>⟨h.1,fun i hi=>wpOpIn_mono (fun a' w' h'=>wpAny_round hL hd fuel _ a' w' h') (wpOp_round hL hd (h.2 i hi))⟩
def noDefer (ops:Array Oper):Bool:=ops.all fun o=>match o.op with | .defer _=>false | _=>true
theorem noDefer_spec (h:noDefer ops=true):∀(i:Nat) (o:Oper) (c:Call),ops[i]? = some o->o.op≠.defer c:=fun i o c hi he=>by
 have:=Array.all_eq_true_iff_forall_mem.1 h o (Array.mem_of_getElem? hi);rw[he]at this;cases this
theorem region_round (S:World->Prop) (T:Nat) {id k:Nat} {a:Act} {w:World} (hn:ops.size=k) (hm:P.follows .mixedOrders=true) (hL:¬ LetsOut Q) (hd:noDefer ops=true) (hS:S w.drew)
 (h:S w.drew->wpAnyX P .any ops Q S T k (Array.replicate k false) a w.drew):(Code.region id ops true).wpIn (Fence.wide.inRound l) n P Q a w:=by
 subst hn;exact wpIn_region_any hm (wpAny_round hL (noDefer_spec hd) _ _ _ _ (wpAny_of_X _ _ _ _ (h hS)))
theorem if_wanted {b:Bool} {A B:Prop} (h:b=true) (x:A):if b=true then A else B:=by rw[if_pos h];exact x
theorem oper_append {o:Oper} {a:Act} {w w':World} {v:Value} {K:Act->World->Prop} {xs:Array Operand} {vs:Array Value} {ts:Array TypeId} {t:TypeId} (ho:o.op=.call { callee:=.builtin .append,args:=xs,argTypes:=ts }) (ht:o.type=t) (hx:xs.map a.eval=vs) (hrun:(Builtin.append_ ts t vs).run P w=.ok v w') (h:K (a.put o.dst v) w'):Oper.wp P o a w K Q:=by
 have e:(execOp a.eval o).run P w=.ok (.value v) w':=by
  unfold execOp;rw[ho];simp only[resolve,invoke,builtin,pure_bind];rw[ht,hx];generalize Builtin.append_ ts t vs=A at *;simp[go_sem,hrun]
 unfold Oper.wp;rw[e];exact h
end
end
section
open Go.Shelf
attribute [local go_sem] Oper.semAt_some
theorem results_any (m:CatM) (w:World):Calls Tryz.prog 74 #[m.val] w fun e w'=>e=.returned (.func (.func 215) #[] #[.pointer (some ⟨w.heap.size,0,none⟩)])∧w'=w.alloc (.cells #[.slice m.si.A m.si.n m.si.c,.slice m.sr.A m.sr.n m.sr.c,.slice m.st.A m.st.n m.st.c,.slice m.sx.A m.sx.n m.sx.c] 28):=by
 go_enter Tryz.func74,Tryz.ntmps74;go_wp2;go_ret;exact⟨rfl,rfl⟩
theorem results_seq {m:CatM} {w:World} {cb n:Nat} (hm:m.Ok w) (hcb:Bk w cb 28 (catSL m.si m.sr m.st m.sx)) (hc:codeC m=0) :
 SeqE Fence.wide n Tryz.prog 215 #[.pointer (some ⟨cb,0,none⟩)] (resEncs m.items.length) (ResPhi m.items.length (resL m)) KpE (fun xs=>xs=resL m) (fun pre=>pre <+: resL m) w :=
 fun l J Jx W hW hJ hY h0=>results_in (hm.below hW) (hcb.below hW hcb.lt) hc J Jx hJ hY h0
theorem info22:(Tryz.prog.info? 22).map (fun i=>(i.zero,i.size,i.bytes))=some (some (.slice none 0 0),1,24):=by kernel_rfl
theorem make_slices (n:Nat) (hn:n<=1000) (W:World) :
 (Instr.makeSlice 35 (.int .i64 (n:Int)) (.int .i64 (n:Int))).run Tryz.prog W=.ok (.slice (some ⟨W.heap.size,0,none⟩) n n) (W.alloc (.cells (List.replicate n (.slice none 0 0)).toArray 22)):=by
 obtain⟨i,hi,hz0,hz1,hz2⟩:=info_parts info22;have h:=run_make (P:=Tryz.prog) W 35 22 i (.slice none 0 0) Tryz.underlying35 hi hz0 .i64 .i64 n n (by omega) (by omega) (by rw[hz2];omega) (by omega);rw[hz1]at h;simp only[Int.toNat_natCast,Nat.mul_one]at h;have e:madeCells (Value.slice none 0 0).cells n=(List.replicate n (Value.slice none 0 0)).toArray:=by
  show madeCells #[.slice none 0 0] n=_;rw[made_zero]
 rw[e]at h;exact h
theorem kpE_put {W:World} {D E:Nat} {o o':Obj} (hne:E≠D) (h:W.heap[D]? = some o) (ho:o.isCells=false):KpE E W (W.putObj D o') :=
 ⟨fun t _ _ b cur fl hb=>by
  have hbD:b≠D:=fun e=>by subst e;rw[h]at hb;cases hb;cases ho
  exact(World.putObj_heap_other hbD).trans hb,World.putObj_heap_other hne⟩
theorem resPhi_put {W:World} {n D E:Nat} {o':Obj} {all pre:List (Nat×List Int)} {x:Nat×List Int} (hne:E≠D) (h:ResPhi n all E pre x W):ResPhi n all E pre x (W.putObj D o'):=⟨(World.putObj_heap_other hne).trans h.row,h.len,h.small,h.pre⟩
def EffI (V:World) (R n:Nat) (pre:List (Nat×List Int)) (W:World):Prop:=MatI V W R n (fun i=>pre.map fun r=>wAt r.2 i)
def EffQ (w:World) (m:CatM) (e:Ending) (w':World):Prop:=Below w.heap.size w w' ∧
 ((codeC m ≠ 0 ∧ e = .returned (.tuple #[.slice none 0 0, .int .i64 (codeC m)])) ∨
  (codeC m=0∧∃(A:Option Addr) (c:Nat) (sls:List Sl),e=.returned (.tuple #[.slice A m.items.length c,.int .i64 0])∧TRow w' 22 A (sls.map slv)∧sls.length=m.items.length ∧
   ∀i (hi:i<sls.length),IntsV w' sls[i].A sls[i].n (colOf m i)))
theorem effects_any {w:World} {m:CatM} (hm:m.Ok w) (hT:Tab w):Calls Tryz.prog 16 #[m.val] w (EffQ w m):=by
 refine(callsIn_wide (n:=5)).1 ?_;have X0:Below w.heap.size w (w.alloc (.cells #[.slice m.si.A m.si.n m.si.c,.slice m.sr.A m.sr.n m.sr.c,.slice m.st.A m.st.n m.st.c,.slice m.sx.A m.sx.n m.sx.c] 28)):=(Below.refl _ _).alloc (Nat.le_refl _) _;have KV:=iH (valid_cat (hm.below X0) (hT.below X0 hT.1));have HM:=iH hm;have HX:=iH X0;have HB0:=iH (Bk.new w 28 (catSL m.si m.sr m.st m.sx));clear hm hT X0;refine callsIn_of_wp_marks Tryz.func16 rfl trivial ?_ rfl;simp only[Tryz.ntmps16,List.size_toArray,List.length_cons,List.length_nil,Nat.reduceAdd,Nat.reduceSub,Array.replicate_succ,Array.replicate_zero,List.push_toArray,List.append_toArray,List.nil_append,List.cons_append]
 gi_wp2_with fail
 refine⟨trivial,(callsIn_wide.2 KV.out).mono ?_⟩;rintro e w1 ⟨rfl,hb1⟩;have HB1:=iH (HX.out.trans (hb1.mono HX.out.size));have HC1:=iH (HB0.out.below hb1 (by simp));have hbw:Below w.heap.size w w1:=HB1.out;have HM1:=iH ((HM.out.below HX.out).below hb1);clear hb1 KV HX HB0 HM hbw;by_cases hc:codeC m=0
 ·have q1:(codeC m != 0)=false:=by simpa using hc
  obtain⟨B,hB⟩:∃B,B=w.heap.size:=⟨_,rfl⟩;have HBe:=iH hB;have k0:=HC1.out.k0;have k1:=HC1.out.k1;have k2:=HC1.out.k2;have k3:=HC1.out.k3;have kl:=HC1.out.lt;have hni:=HM1.out.items.len;have hN:m.items.length<=64:=code_64 hc;have hmk:(Instr.makeSlice 35 (.int .i64 (m.si.n:Int)) (.int .i64 (m.si.n:Int))).run Tryz.prog w1=.ok (.slice (some ⟨w1.heap.size,0,none⟩) m.si.n m.si.n) (w1.alloc (.cells (List.replicate m.si.n (.slice none 0 0)).toArray 22)):=make_slices m.si.n (by omega) w1;have Hc:=iH hc;rw[hni]at k0 hmk;rw[<- hB]at HC1 k0 k1 k2 k3 kl⊢;have Hni:=iH hni;clear hc hB hni;have KR:Hid (∀W,Calls Tryz.prog 74 #[.agg #[.slice m.si.A m.items.length m.si.c,.slice m.sr.A m.sr.n m.sr.c,.slice m.st.A m.st.n m.st.c,.slice m.sx.A m.sx.n m.sx.c]] W fun e w'=>e=.returned (.func (.func 215) #[] #[.pointer (some ⟨W.heap.size,0,none⟩)])∧w'=W.alloc (.cells #[.slice m.si.A m.si.n m.si.c,.slice m.sr.A m.sr.n m.sr.c,.slice m.st.A m.st.n m.st.c,.slice m.sx.A m.sx.n m.sx.c] 28)):=fun W=>by
   have h:=results_any m W;rw[show CatM.val m=.agg #[.slice m.si.A m.items.length m.si.c,.slice m.sr.A m.sr.n m.sr.c,.slice m.st.A m.st.n m.st.c,.slice m.sx.A m.sx.n m.sx.c] by rw[<- Hni.out]]at h;exact h
  gi_wp2_with fail
  refine⟨trivial,(callsIn_wide.2 (KR.out _)).mono ?_⟩;rintro e w2 ⟨rfl,hw2⟩;have Hw2:=iH hw2;clear hw2
  gi_wp2_with fail
  have hw2:=Hw2.out;clear Hw2;obtain⟨R,hRe⟩:∃R,R=w1.heap.size:=⟨_,rfl⟩;have hsz:w2.heap.size=R+3:=by rw[hw2,hRe];simp
  have kb:Bk w2 (R+1) 35 [.slice (some ⟨R,0,none⟩) m.items.length m.items.length]:=by
   rw[hw2,hRe];have h:=Bk.new (w1.alloc (.cells (Array.replicate m.items.length (Value.slice none 0 0)) 22)) 35 [.slice (some ⟨w1.heap.size,0,none⟩) m.items.length m.items.length];rw[World.size_alloc]at h;exact h.alloc _
  have kR:Bk w2 R 22 ((List.replicate m.items.length (⟨none,0,0⟩:Sl)).map slv):=by
   rw[hw2,hRe];have h:=Bk.new w1 22 (List.replicate m.items.length (.slice none 0 0));have e:(List.replicate m.items.length (⟨none,0,0⟩:Sl)).map slv=List.replicate m.items.length (.slice none 0 0):=by simp
   rw[e];exact(show Bk (w1.alloc (.cells (Array.replicate m.items.length (Value.slice none 0 0)) 22)) w1.heap.size 22 _ by simpa using h).alloc _ |>.alloc _
  have kc:Bk w2 (R+2) 28 (catSL m.si m.sr m.st m.sx):=by
   rw[hw2,hRe];have h:=Bk.new ((w1.alloc (.cells (Array.replicate m.items.length (Value.slice none 0 0)) 22)).alloc (.cells #[.slice (some ⟨w1.heap.size,0,none⟩) m.items.length m.items.length] 35)) 28 (catSL m.si m.sr m.st m.sx);rw[World.size_alloc,World.size_alloc]at h;exact h
  have hb12:Below w1.heap.size w1 w2:=by
   rw[hw2];exact(((Below.refl _ w1).alloc (Nat.le_refl _) _).alloc (by simp) _).alloc (by simp;omega) _
  have hI0:MatI w1 w2 R m.items.length (fun i=>([]:List (Nat×List Int)).map fun r=>wAt r.2 i) :=
   ⟨kb,⟨List.replicate m.items.length ⟨none,0,0⟩,by simp,kR,fun i hi=>by simpa[slv,ints]using World.ownsRow_nil w2 (R+6) 3 1,fun i j hi hj _ g hg=>by simp[slv,Value.ownBlock]at hg⟩,by rw[hRe];exact hb12⟩
  have hM2:=HM1.out.below hb12;have HSeq:Hid (SeqE Fence.wide 4 Tryz.prog 215 #[.pointer (some ⟨R+1+1,0,none⟩)] (resEncs m.items.length) (ResPhi m.items.length (resL m)) KpE (fun xs=>xs=resL m) (fun pre=>pre <+: resL m) w2):=results_seq (n:=4) hM2 kc Hc.out;have HMat:=iH hI0;have Hsz:=iH hsz;have HRe:=iH hRe;rw[<- hRe];clear hI0 hsz kb kR kc hM2 hb12 hw2 hmk KR k0 k1 k2 k3 kl q1 HC1 hRe;refine range_e (D:=R+3) (E:=R+5) Hsz.out.symm (by rw[Hsz.out]) rfl (by omega) (gf:=215) (lb:=#[.pointer (some ⟨R+1+1,0,none⟩)]) rfl trivial (enters_of Tryz.func215 (by kernel_rfl) rfl) HSeq.out (Below.refl _ _) (fun _=>rfl)
   (fun h k=>KpE.trans h k) (fun W o o' h ho=>kpE_put (by omega) h ho) (fun pre x W o o' h hp=>resPhi_put (by omega) hp)
   (EffI w1 R m.items.length) (fun _ _ _=>False) (fun pre A B row h hg hr=>MatI.kept h hg (fun r e=>by have:=hr r e;omega)) (fun _ _ _ _ _ h _ _=>h) HMat.out
   ?a1 ?assign ?body ?done ?stop
  case assign =>
   intro l x W K hK
   gi_wp2
   exact hK
  case body =>
   rintro l pre x W hMt hPh;obtain⟨xi,xr⟩:=x;have hlen:pre.length<=128:=by
    have h1:=hPh.pre.length_le;have h2:=resL_len Hc.out;simp at h1;omega
   have HPh:=iH hPh;have HMt:=iH (show MatI w1 W R m.items.length (fun i=>pre.map fun r=>wAt r.2 i) from hMt);clear hMt hPh
   gi_wp2_with fail
   generalize hNe:m.items.length=N at *;have HNe:=iH hNe;clear hNe
   gi_loopw [25] (fun i wr=>∃k:Nat,k<=N∧i=.int .i64 (k:Int)∧MatI w1 wr R N (fun j=>if j<k then(pre.map fun r=>wAt r.2 j) ++ [wAt xr j] else pre.map fun r=>wAt r.2 j)∧KeepsOthers W wr∧KpE (R+5) W wr) (fun i _=>N-(intOf i).toNat)
   case atStart=>exact⟨0,Nat.zero_le _,rfl,by simpa using HMt.out,KeepsOthers.refl _,⟨fun _ _ _=>.refl _ _,rfl⟩⟩
   case round =>
    obtain⟨k,hk,rfl,hMk,hKo,hKp⟩:=hrel;by_cases hlt:k<N
    ·have HMd:MatI w1 wr.drew R N (fun j=>if j<k then(pre.map fun r=>wAt r.2 j) ++ [wAt xr j] else pre.map fun r=>wAt r.2 j):=hMk.kept (row:=none) ⟨rfl,rfl,rfl,Nat.le_refl _,fun _ _ _=>rfl⟩ (fun r e=>by cases e);have hE1:wr.heap[R+5]? = W.heap[R+5]?:=hKp.2;have hBE:Bk wr (R+5) 3 (ints xr):=hE1.trans HPh.out.row;have e0:wr.cell? ⟨R+5,k,none⟩=some (.int .i64 (wAt xr k)):=(hBE.cell k).trans (ints_at xr k (by have:=HPh.out.len;dsimp only at this;omega));have lE:=hBE.lt;have hKd:KeepsOthers wr wr.drew:=KeepsOthers.drew wr;have hKe:KpE (R+5) wr wr.drew:=⟨fun t _ _=>fun b cur fl hb=>hb,rfl⟩;obtain⟨s,hs1,hs2,-⟩:=HMd.cell k hlt;obtain⟨g,cap,v1,hrun,hu,hfz,hRl,hM',hK1,hK2,hbx,hbl⟩:=HMd.push k hlt (wAt xr k) (by simp;omega) (by show R+6<=wr.heap.size;omega) hs1;have b0:=HMd.box.k0;have bl:R+1<wr.drew.heap.size:=HMd.box.lt;have hRl0:R<wr.heap.size:=by have:=bl;change R+1<wr.heap.size at this;omega
     have hcu:v1.cell? ⟨R,k,none⟩=some (slv s):=hu;dsimp only[slv]at hs1 hcu;obtain⟨sA,sn,sc⟩:=s;dsimp only at hs1 hrun hcu;have HM':=iH (hM' (fun j=>if j<k+1 then(pre.map fun r=>wAt r.2 j) ++ [wAt xr j] else pre.map fun r=>wAt r.2 j) (by simp) (fun j hj=>by
      by_cases h:j<k
      ·simp[h,show j<k+1 by omega]
      ·simp[h,show ¬ j<k+1 by omega]))
     have HK1:=iH ((hKo.trans hKd).trans hK1);have HK2:=iH ((hKp.trans hKe).trans hK2);have hwk:IntKind.i64.wrap ((k:Int)+1)=(k:Int)+1:=IntWalk.i64_in _ (by omega);generalize wAt xr k=y at *;clear hM' hK1 hK2 hE1 hBE hMk hKo hKp HMt HMd hKd hKe;generalize hL:(if k<k then(pre.map fun r=>wAt r.2 k) ++ [y] else pre.map fun r=>wAt r.2 k).length=L at *
     gi_upto_region 10 with fail
     have hru:(Builtin.append_ #[22,22] 22 #[.slice sA sn sc,.slice (some ⟨wr.heap.size,0,none⟩) 1 1]).run Tryz.prog ((wr.alloc (.cells #[.int .i64 y] 3)).drew)=.ok (.slice (some ⟨g,0,none⟩) (L+1) cap) v1:=hrun;clear hrun;refine region_round (fun w'=>w'.cell? ⟨R+1,0,none⟩=some (.slice (some ⟨R,0,none⟩) N N)∧w'.cell? ⟨R,k,none⟩=some (.slice sA sn sc)∧R+1<w'.heap.size∧R<w'.heap.size) 10 (k:=11) rfl (by kernel_rfl) (by rintro⟨a,w',h⟩;exact h) (by kernel_rfl) ⟨b0,hs1,bl,by show R<wr.heap.size;omega⟩ (fun hS=>?_);refine xS 0 30 hS ?_ (hy:=fun w' hS'=>by obtain⟨x0,x1,x2,x3⟩:=hS';(go_simp;try with_reducible rfl));refine xS 1 31 hS ?_;refine xS 2 32 hS ?_ (hy:=fun w' hS'=>by obtain⟨x0,x1,x2,x3⟩:=hS';(go_simp;try with_reducible rfl));refine xS 3 33 hS ?_;refine xS 4 34 hS ?_ (hy:=fun w' hS'=>by obtain⟨x0,x1,x2,x3⟩:=hS';(go_simp;try with_reducible rfl));refine xS 5 35 hS ?_ (hy:=fun w' hS'=>by obtain⟨x0,x1,x2,x3⟩:=hS';(go_simp;try with_reducible rfl));refine xS 6 36 hS ?_;refine X_oR 7 rfl fun K hK=>?_
     go_simp;have hS2:(wr.alloc (.cells #[.int .i64 y] 3)).drew.cell? ⟨R+1,0,none⟩=some (.slice (some ⟨R,0,none⟩) N N)∧(wr.alloc (.cells #[.int .i64 y] 3)).drew.cell? ⟨R,k,none⟩=some (.slice sA sn sc)∧R+1<(wr.alloc (.cells #[.int .i64 y] 3)).drew.heap.size∧R<(wr.alloc (.cells #[.int .i64 y] 3)).drew.heap.size :=
      ⟨(World.cell?_alloc_past (w:=wr.drew) _ _ _ bl).trans b0,(World.cell?_alloc_past (w:=wr.drew) _ _ _ hRl0).trans hs1,by show R+1<(wr.alloc _).heap.size;simp;omega,by show R<(wr.alloc _).heap.size;simp;omega⟩
     refine hK _ _ hS2 ?_;clear hK;refine X_oR 8 rfl fun K hK=>?_
     refine if_wanted rfl (oper_append (xs:=#[.tmp 35,.tmp 37]) (ts:=#[22,22]) (t:=22) (vs:=#[.slice sA sn sc,.slice (some ⟨wr.heap.size,0,none⟩) 1 1]) rfl rfl (by go_simp) hru ?_);simp only[Act.put,Pa,Pb,Pc];refine hK _ _ ⟨hbx,hcu,hbl,hRl⟩ ?_;clear hK hS2 hS;refine xS 9 39 ⟨hbx,hcu,hbl,hRl⟩ ?_ (hy:=fun w' hS'=>by obtain⟨x0,x1,x2,x3⟩:=hS';(go_simp;try with_reducible rfl));refine X_tail (by kernel_rfl) ?_;refine A_one 10 (by kernel_rfl) rfl rfl fun K hK=>?_
     go_simp;refine hK _ _ ?_;clear hK;refine A_done (by kernel_rfl) ?_;have HM2:=HM'.out;have H1:=HK1.out;have H2:=HK2.out;generalize v1.setCell ⟨R,k,none⟩ (.slice (some ⟨g,0,none⟩) (L+1) cap)=w9 at *;clear hbx hcu hbl hRl hfz hru HM' HK1 HK2 b0 bl hs1 e0 lE hL hRl0;have HM3:=iH HM2;have H13:=iH H1;have H23:=iH H2;clear HM2 H1 H2
     gi_wp2
     refine⟨⟨k+1,by omega,by go_num,HM3.out,H13.out,H23.out⟩,?_⟩;show N-((k:Int)+1).toNat<N-(k:Int).toNat;omega
    ·obtain rfl:k=N:=by omega
     have H1:=iH hKo;have H2:=iH hKp;have H3:=iH hMk;clear hKo hKp hMk
     gi_wp2
     refine⟨H1.out,H2.out,?_⟩;show MatI w1 wr R m.items.length (fun i=>(pre ++ [(xi,xr)]).map fun r=>wAt r.2 i);rw[HNe.out];exact H3.out.congr fun i hi=>by simp[hi]
  case done =>
   rintro xs W rfl hMt hK;have hb:=hMt.box.k0;have hbl:=hMt.box.lt;have HMt:=iH (show MatI w1 W R m.items.length (fun i=>(resL m).map fun r=>wAt r.2 i) from hMt);clear hMt
   gi_wp2
   refine⟨by simp,.inl ⟨_,_,rfl,run_takeDeferred hK,?_⟩⟩;refine⟨.tuple #[.slice (some ⟨R,0,none⟩) m.items.length m.items.length,.int .i64 0],by simp[results,Tryz.results16,go_sem],?_⟩;have hM:=HMt.out.kept (grownBy_putObj' W (R+3) (.deferred none)) (fun r e=>by cases e;omega);obtain⟨sls,h1,h2,h3⟩:=hM.out Hc.out;exact⟨HB1.out.trans (hM.bel.mono (by rw[HRe.out];exact HB1.out.size)),.inr ⟨Hc.out,_,_,sls,rfl,h1,h2,h3⟩⟩
  case stop =>
   rintro c pre W _ h;exact h.elim
 ·have q1:(codeC m != 0)=true:=by simpa using hc
  have HQ:Hid (EffQ w m (.returned (.tuple #[.slice none 0 0,.int .i64 (codeC m)])) w1):=⟨HB1.out,.inl ⟨hc,rfl⟩⟩;generalize codeC m=cd at *;clear hc HM1 HC1 HB1
  gi_wp2
  exact⟨.tuple #[.slice none 0 0,.int .i64 cd],by simp[results,Tryz.results16,go_sem],HQ.out⟩
end
abbrev BW:Nat:=4294967296
def valL:List Nat->Nat
 | []=>0
 | x :: xs=>x+BW*valL xs
def Dig (l:List Nat):Prop:=∀x∈l,x<BW
def Tight (l:List Nat):Prop:=∀h:l≠[],l.getLast h≠0
theorem valL_append (a b:List Nat):valL (a ++ b)=valL a+BW ^ a.length*valL b:=by
 induction a with
 | nil=>simp[valL]
 | cons x xs ih =>
   simp only[List.cons_append,valL,ih,List.length_cons,Nat.pow_succ];rw[Nat.mul_add,<- Nat.mul_assoc,Nat.mul_comm (BW ^ xs.length) BW,Nat.add_assoc]
theorem Dig.cons {x:Nat} {xs:List Nat} (h:Dig (x :: xs)):x<BW∧Dig xs:=⟨h x (by simp),fun y hy=>h y (by simp[hy])⟩
theorem Dig.append {a b:List Nat} (ha:Dig a) (hb:Dig b):Dig (a ++ b):=fun x hx=>by
 rcases List.mem_append.1 hx with h|h
 ·exact ha x h
 ·exact hb x h
theorem Dig.take {a:List Nat} (ha:Dig a) (k:Nat):Dig (a.take k):=fun x hx=>ha x (List.mem_of_mem_take hx)
theorem Dig.drop {a:List Nat} (ha:Dig a) (k:Nat):Dig (a.drop k):=fun x hx=>ha x (List.mem_of_mem_drop hx)
theorem Dig.set {a:List Nat} (ha:Dig a) (k:Nat) {y:Nat} (hy:y<BW):Dig (a.set k y):=fun x hx=>by
 rcases List.mem_or_eq_of_mem_set hx with h|h
 ·exact ha x h
 ·exact h ▸ hy
theorem Dig.get {a:List Nat} (ha:Dig a) (k:Nat) (hk:k<a.length):a[k]<BW:=ha _ (List.getElem_mem hk)
theorem Dig.zeros (n:Nat):Dig (List.replicate n 0):=fun x hx=>by
 rw[List.mem_replicate]at hx;rw[hx.2];decide
theorem valL_zeros (n:Nat):valL (List.replicate n 0)=0:=by
 induction n with
 | zero=>rfl
 | succ n ih=>rw[List.replicate_succ];simp[valL,ih]
theorem valL_lt {l:List Nat} (h:Dig l):valL l<BW ^ l.length:=by
 induction l with
 | nil=>simp[valL]
 | cons x xs ih =>
   have h1:=h.cons;have h2:=ih h1.2;simp only[valL,List.length_cons,Nat.pow_succ];have h3:valL xs+1<=BW ^ xs.length:=h2;have h4:=Nat.mul_le_mul_left BW h3;rw[Nat.mul_comm (BW ^ xs.length) BW];have:=h1.1;rw[Nat.mul_add]at h4;omega
theorem valL_set {l:List Nat} (i:Nat) (hi:i<l.length) (y:Nat):valL (l.set i y)+BW ^ i*l[i]=valL l+BW ^ i*y:=by
 induction l generalizing i with
 | nil=>simp at hi
 | cons x xs ih =>
   cases i with
   | zero=>simp[valL];omega
   | succ i =>
     have h:=ih i (by simpa using hi);simp only[List.set_cons_succ,valL,List.getElem_cons_succ,Nat.pow_succ];have e1:BW ^ i*BW*xs[i]'(by simpa using hi)=BW*(BW ^ i*xs[i]'(by simpa using hi)):=by rw[Nat.mul_comm (BW ^ i) BW,Nat.mul_assoc]
     have e2:BW ^ i*BW*y=BW*(BW ^ i*y):=by rw[Nat.mul_comm (BW ^ i) BW,Nat.mul_assoc]
     rw[e1,e2];have h':=congrArg (BW * ·) h;simp only[Nat.mul_add]at h';omega
theorem Tight.ge {l:List Nat} (h:Tight l) (hne:l≠[]):BW ^ (l.length-1)<=valL l:=by
 induction l with
 | nil=>exact absurd rfl hne
 | cons x xs ih =>
   by_cases hx:xs=[]
   ·subst hx;have:=h (by simp);simp at this;simp[valL];omega
   ·have h1:Tight xs:=fun hh=>by
     have:=h (by simp)
     rwa [List.getLast_cons hx]at this
    have h2:=ih h1 hx;have hl:xs.length≠0:=fun e=>hx (List.eq_nil_of_length_eq_zero e)
    simp only[valL,List.length_cons];rw[show xs.length+1-1=(xs.length-1)+1 by omega,Nat.pow_succ,Nat.mul_comm];have:=Nat.mul_le_mul_left BW h2;omega
theorem Tight.zero {l:List Nat} (h:Tight l):valL l=0 ↔ l=[]:=by
 constructor
 ·intro h0;apply Classical.byContradiction;intro hne;have:=h.ge hne;have h2:0<BW ^ (l.length-1):=Nat.pow_pos (by decide);omega
 ·intro e;subst e;rfl
theorem pow_le {a b:Nat} (h:a<=b):BW ^ a<=BW ^ b:=Nat.pow_le_pow_right (by decide) h
theorem Tight.short {l:List Nat} (h:Tight l) {k:Nat} (hv:valL l<BW ^ k):l.length<=k:=by
 apply Classical.byContradiction;intro hn;have hne:l≠[]:=fun e=>by subst e;simp at hn
 have h1:=h.ge hne;have h2:BW ^ k<=BW ^ (l.length-1):=pow_le (by omega);omega
theorem valL_take {l:List Nat} (n:Nat) (hz:∀i (hi:i<l.length),n<=i->l[i]=0):valL (l.take n)=valL l:=by
 induction l generalizing n with
 | nil=>simp
 | cons x xs ih =>
   cases n with
   | zero =>
     have h0:=hz 0 (by simp) (Nat.le_refl _);simp at h0;have h1:=ih 0 (fun i hi _=>by have:=hz (i+1) (by simp;omega) (by omega);simpa using this);simp only[List.take_zero,valL]at h1⊢;rw[<- h1,h0];simp
   | succ n =>
     have h1:=ih n (fun i hi hn=>by have:=hz (i+1) (by simp;omega) (by omega);simpa using this);simp only[List.take_succ_cons,valL,h1]
theorem tight_take {l:List Nat} (n:Nat) (hn:n<=l.length) (h:n=0∨∃hk:n-1<l.length,l[n-1]≠0):Tight (l.take n):=fun hne=>by
 rcases h with h|⟨hk,h⟩
 ·subst h;simp at hne
 ·have hn0:n≠0:=fun e=>by subst e;simp at hne
  rw[List.getLast_eq_getElem,List.getElem_take];have:(l.take n).length-1=n-1:=by rw[List.length_take];omega
  simp only[this];exact h
theorem valL_cmp {a b:List Nat} (hl:a.length=b.length) (ha:Dig a) (hb:Dig b) (i:Nat) (hi:i<a.length) (hd:a.drop (i+1)=b.drop (i+1)) (h:a[i]<b[i]'(hl ▸ hi)):valL a<valL b:=by
 have e:∀(l:List Nat) (hi:i<l.length),valL l=valL (l.take i)+BW ^ i*(l[i]+BW*valL (l.drop (i+1))):=fun l hi=>by
  have:l=l.take i ++ l[i] :: l.drop (i+1):=by rw[List.getElem_cons_drop,List.take_append_drop]
  conv=>lhs;rw[this]
  rw[valL_append,List.length_take,Nat.min_eq_left (by omega)];rfl
 rw[e a hi,e b (hl ▸ hi),hd];have h1:=valL_lt (ha.take i);rw[List.length_take,Nat.min_eq_left (by omega)]at h1;have h2:a[i]+BW*valL (b.drop (i+1))+1<=b[i]'(hl ▸ hi)+BW*valL (b.drop (i+1)):=by omega
 have h3:=Nat.mul_le_mul_left (BW ^ i) h2;rw[Nat.mul_add]at h3;omega
theorem valL_len {a b:List Nat} (ha:Dig a) (tb:Tight b) (h:a.length<b.length):valL a<valL b:=by
 have h1:=valL_lt ha;have h2:=tb.ge (fun e=>by subst e;simp at h);have h3:BW ^ a.length<=BW ^ (b.length-1):=pow_le (by omega);omega
structure WI (neg : Bool) (l : List Nat) (z : Int) : Prop where
 dig:Dig l
 tight:Tight l
 sign:neg=true->l≠[]
 val:z=(if neg then -(valL l:Int) else(valL l:Int))
theorem WI.zero {neg:Bool} {l:List Nat} {z:Int} (h:WI neg l z):z=0 ↔ (neg=false∧l=[]):=by
 have h1:=h.val;have h2:=h.tight.zero;constructor
 ·intro e;have:valL l=0:=by cases neg <;> simp at h1 <;> omega
  have hl:=h2.1 this;refine⟨?_,hl⟩;cases hn:neg
  ·rfl
  ·exact absurd hl (h.sign hn)
 ·rintro⟨e1,e2⟩;subst e1 e2;simpa[valL]using h1
theorem WI.abs {neg:Bool} {l:List Nat} {z:Int} (h:WI neg l z):valL l=z.natAbs:=by
 have h1:=h.val;cases neg <;> simp at h1 <;> omega
theorem WI.short {neg:Bool} {l:List Nat} {z:Int} (h:WI neg l z) {k:Nat} (hz:z.natAbs<BW ^ k):l.length<=k:=h.tight.short (by rw[h.abs];exact hz)
theorem WI.of {neg:Bool} {l:List Nat} {z:Int} (hd:Dig l) (ht:Tight l) (hz:z=(if neg then -(valL l:Int) else(valL l:Int))):WI (neg && decide (0<l.length)) l z:=by
 refine⟨hd,ht,fun h=>?_,?_⟩
 ·intro e;subst e;simp at h
 ·by_cases e:l=[]
  ·subst e;simp[valL]at hz⊢;exact hz
  ·have:0<l.length:=List.length_pos_iff.2 e;simp[this];simpa using hz
theorem plus_step {S:List Nat} {i:Nat} (hi:i<S.length) {c x y c':Nat} (hd:c+S[i]+x=y+BW*c'):valL (S.set i y)+BW ^ (i+1)*c'=valL S+BW ^ i*(c+x):=by
 have h:=valL_set i hi y;have h2:=congrArg (BW ^ i * ·) hd;simp only[Nat.mul_add,Nat.pow_succ,Nat.mul_assoc]at h2⊢;omega
theorem minus_step {S:List Nat} {i:Nat} (hi:i<S.length) {b x y b':Nat} (hd:S[i]+BW*b'=y+x+b):valL (S.set i y)+BW ^ i*(x+b)=valL S+BW ^ (i+1)*b':=by
 have h:=valL_set i hi y;have h2:=congrArg (BW ^ i * ·) hd;simp only[Nat.mul_add,Nat.pow_succ,Nat.mul_assoc]at h2⊢;omega
theorem valL_take_succ {l:List Nat} {k:Nat} (hk:k<l.length):valL (l.take (k+1))=valL (l.take k)+BW ^ k*l[k]:=by
 rw[List.take_succ_eq_append_getElem hk,valL_append,List.length_take,Nat.min_eq_left (by omega)];simp[valL]
structure PlusAt (a b S : List Nat) (k c : Nat) : Prop where
 dig:Dig S
 len:S.length=a.length+1
 c1:c<=1
 val:valL S+BW ^ k*c=valL a+valL (b.take k)
theorem PlusAt.start {a b:List Nat} (ha:Dig a):PlusAt a b (a ++ [0]) 0 0 :=
 ⟨ha.append (fun x hx=>by simp at hx;subst hx;decide),by simp,by omega,by rw[valL_append];simp[valL]⟩
theorem PlusAt.next {a b S:List Nat} {k c:Nat} (h:PlusAt a b S k c) (hb:Dig b) (hk:k<b.length) (hkS:k<S.length) :
 PlusAt a b (S.set k ((c+S[k]+b[k]) % BW)) (k+1) ((c+S[k]+b[k]) / BW):=by
 have h1:=h.dig.get k hkS;have h2:=hb.get k hk;have h3:=h.c1;refine⟨h.dig.set k (Nat.mod_lt _ (by decide)),by rw[List.length_set];exact h.len,by unfold BW at *;omega,?_⟩;have e:=plus_step hkS (c:=c) (x:=b[k]) (y:=(c+S[k]+b[k]) % BW) (c':=(c+S[k]+b[k]) / BW) (Nat.mod_add_div _ _).symm;rw[e,valL_take_succ hk,<- Nat.add_assoc,<- h.val,Nat.mul_add,Nat.add_assoc]
theorem PlusAt.carry {a b S:List Nat} {k c:Nat} (h:PlusAt a b S k c) (hk:b.length<=k) (hkS:k<S.length) :
 PlusAt a b (S.set k ((c+S[k]+0) % BW)) (k+1) ((c+S[k]+0) / BW):=by
 have h1:=h.dig.get k hkS;have h3:=h.c1;refine⟨h.dig.set k (Nat.mod_lt _ (by decide)),by rw[List.length_set];exact h.len,by unfold BW at *;omega,?_⟩;have e:=plus_step hkS (c:=c) (x:=0) (y:=(c+S[k]+0) % BW) (c':=(c+S[k]+0) / BW) (Nat.mod_add_div _ _).symm;have e1:b.take (k+1)=b.take k:=by rw[List.take_of_length_le (by omega),List.take_of_length_le hk]
 rw[e,e1,<- h.val];simp
theorem PlusAt.room {a b S:List Nat} {k c:Nat} (h:PlusAt a b S k c) (ha:Dig a) (hb:Dig b) (hl:b.length<=a.length) (hc:0<c) (hk:k<=a.length+1):k<S.length:=by
 rw[h.len];apply Classical.byContradiction;intro hn;have hk':k=a.length+1:=by omega
 have h1:=valL_lt ha;have h2:=valL_lt (hb.take k);have h3:BW ^ (b.take k).length<=BW ^ a.length:=pow_le (by rw[List.length_take];omega);have h4:=h.val;have h5:BW ^ k*1<=BW ^ k*c:=Nat.mul_le_mul_left _ hc;subst hk';rw[Nat.pow_succ]at h5 h4;have h6:BW ^ a.length*2<=BW ^ a.length*BW:=Nat.mul_le_mul_left _ (by decide);omega
theorem PlusAt.done {a b S:List Nat} {k:Nat} (h:PlusAt a b S k 0) (hk:b.length<=k):valL S=valL a+valL b:=by
 have:=h.val;rw[List.take_of_length_le hk]at this;simpa using this
structure MinusAt (a b S : List Nat) (k c : Nat) : Prop where
 dig:Dig S
 len:S.length=a.length
 c1:c<=1
 val:valL S+valL (b.take k)=valL a+BW ^ k*c
theorem MinusAt.start {a b:List Nat} (ha:Dig a):MinusAt a b a 0 0:=⟨ha,rfl,by omega,by simp[valL]⟩
def lowD (s x c:Nat):Nat:=(s+2*BW-x-c) % BW
def borD (s x c:Nat):Nat:=if s<x+c then 1 else 0
theorem low_eq {s x c:Nat} (hs:s<BW) (hx:x<BW) (hc:c<=1):s+BW*borD s x c=lowD s x c+x+c:=by
 unfold lowD borD;unfold BW at *;split <;> omega
theorem MinusAt.step {a b S:List Nat} {k c:Nat} (h:MinusAt a b S k c) (x:Nat) (hx:x<BW) (hkS:k<S.length) (he:valL (b.take (k+1))=valL (b.take k)+BW ^ k*x) :
 MinusAt a b (S.set k (lowD S[k] x c)) (k+1) (borD S[k] x c):=by
 have h1:=h.dig.get k hkS;have h3:=h.c1;refine⟨h.dig.set k (Nat.mod_lt _ (by decide)),by rw[List.length_set];exact h.len,by unfold borD;split <;> omega,?_⟩;have e:=minus_step hkS (low_eq h1 hx h3);have hv:=h.val;rw[Nat.mul_add]at e;rw[he];omega
theorem MinusAt.next {a b S:List Nat} {k c:Nat} (h:MinusAt a b S k c) (hb:Dig b) (hk:k<b.length) (hkS:k<S.length) :
 MinusAt a b (S.set k (lowD S[k] b[k] c)) (k+1) (borD S[k] b[k] c):=h.step b[k] (hb.get k hk) hkS (valL_take_succ hk)
theorem MinusAt.carry {a b S:List Nat} {k c:Nat} (h:MinusAt a b S k c) (hk:b.length<=k) (hkS:k<S.length) :
 MinusAt a b (S.set k (lowD S[k] 0 c)) (k+1) (borD S[k] 0 c) :=
 h.step 0 (by decide) hkS (by rw[List.take_of_length_le (by omega),List.take_of_length_le hk];simp)
theorem MinusAt.room {a b S:List Nat} {k c:Nat} (h:MinusAt a b S k c) (hle:valL b<=valL a) (hc:0<c) (hk:k<=a.length) (hb:b.length<=k):k<S.length:=by
 rw[h.len];apply Classical.byContradiction;intro hn;have hk':k=a.length:=by omega
 have h1:=valL_lt h.dig;rw[h.len]at h1;have h4:=h.val;rw[List.take_of_length_le hb]at h4;have h5:BW ^ k*1<=BW ^ k*c:=Nat.mul_le_mul_left _ hc;rw[hk']at h4 h5;omega
theorem MinusAt.done {a b S:List Nat} {k:Nat} (h:MinusAt a b S k 0) (hk:b.length<=k):valL S=valL a-valL b:=by
 have:=h.val;rw[List.take_of_length_le hk]at this;simp at this;omega
structure TimesAt (a b P : List Nat) (i : Nat) : Prop where
 dig:Dig P
 len:P.length=a.length+b.length
 val:valL P=valL (a.take i)*valL b
 zero:∀k (hk:k<P.length),i+b.length<=k->P[k]=0
structure RowAt (a b P : List Nat) (i j c : Nat) (x : Nat) : Prop where
 dig:Dig P
 len:P.length=a.length+b.length
 c1:c<BW
 val:valL P+BW ^ (i+j)*c=valL (a.take i)*valL b+BW ^ i*(x*valL (b.take j))
 zero:∀k (hk:k<P.length),i+b.length<=k->P[k]=0
theorem TimesAt.start {a b:List Nat}:TimesAt a b (List.replicate (a.length+b.length) 0) 0 :=
 ⟨Dig.zeros _,by simp,by rw[valL_zeros];simp[valL],fun k hk _=>by simp⟩
theorem TimesAt.skip {a b P:List Nat} {i:Nat} (h:TimesAt a b P i) (hi:i<a.length) (h0:a[i]=0):TimesAt a b P (i+1) :=
 ⟨h.dig,h.len,by rw[valL_take_succ hi,h0];simpa using h.val,fun k hk hb=>h.zero k hk (by omega)⟩
theorem TimesAt.row {a b P:List Nat} {i:Nat} (h:TimesAt a b P i) (x:Nat):RowAt a b P i 0 0 x :=
 ⟨h.dig,h.len,by decide,by simp[valL,h.val],h.zero⟩
theorem mul_bound {c f y p:Nat} (hc:c<BW) (hf:f<BW) (hy:y<BW) (hp:p<BW):c+(f*y+p)<18446744073709551616:=by
 have h1:f*y<=4294967295*4294967295:=Nat.mul_le_mul (by unfold BW at hf;omega) (by unfold BW at hy;omega);unfold BW at *;omega
theorem RowAt.next {a b P:List Nat} {i j c x:Nat} (h:RowAt a b P i j c x) (hb:Dig b) (hx:x<BW) (hi:i<a.length) (hj:j<b.length) (hk:i+j<P.length) :
 RowAt a b (P.set (i+j) ((c+(x*b[j]+P[i+j])) % BW)) i (j+1) ((c+(x*b[j]+P[i+j])) / BW) x:=by
 have h1:=h.dig.get (i+j) hk;have h2:=hb.get j hj;have h3:=mul_bound h.c1 hx h2 h1;refine⟨h.dig.set _ (Nat.mod_lt _ (by decide)),by rw[List.length_set];exact h.len,Nat.div_lt_of_lt_mul (by unfold BW;omega),?_,fun k hk' hb'=>?_⟩
 ·have e:=plus_step hk (c:=c) (x:=x*b[j]) (y:=(c+(x*b[j]+P[i+j])) % BW) (c':=(c+(x*b[j]+P[i+j])) / BW) (by rw[Nat.mod_add_div];omega);have hv:=h.val;rw[show i+(j+1)=i+j+1 by omega,e,valL_take_succ hj];rw[Nat.mul_add,Nat.mul_add x,Nat.mul_add (BW ^ i),<- Nat.add_assoc,hv];have:BW ^ i*(x*(BW ^ j*b[j]))=BW ^ (i+j)*(x*b[j]):=by
   rw[Nat.pow_add];simp only[Nat.mul_assoc,Nat.mul_left_comm,Nat.mul_comm]
  rw[this];omega
 ·rw[List.getElem_set_ne (by omega)];exact h.zero k (by simpa using hk') hb'
theorem RowAt.done {a b P:List Nat} {i c:Nat} (hi:i<a.length) (h:RowAt a b P i b.length c a[i]) (hk:i+b.length<P.length):TimesAt a b (P.set (i+b.length) c) (i+1):=by
 have h0:=h.zero (i+b.length) hk (Nat.le_refl _);refine⟨h.dig.set _ h.c1,by rw[List.length_set];exact h.len,?_,fun k hk' hb'=>?_⟩
 ·have e:=valL_set (i+b.length) hk c;have hv:=h.val;rw[h0]at e;rw[List.take_length]at hv;rw[valL_take_succ hi,Nat.add_mul,Nat.mul_assoc];omega
 ·rw[List.getElem_set_ne (by omega)];exact h.zero k (by simpa using hk') (by omega)
theorem TimesAt.done {a b P:List Nat} (h:TimesAt a b P a.length):valL P=valL a*valL b:=by
 have:=h.val
 rwa [List.take_length]at this
/-! ### What is done with signs -/
theorem WI.mul {n1 n2:Bool} {a b P:List Nat} {x y:Int} (h1:WI n1 a x) (h2:WI n2 b y) (hd:Dig P) (ht:Tight P) (hP:valL P=valL a*valL b):WI ((n1 != n2) && decide (0<P.length)) P (x*y):=by
 refine WI.of hd ht ?_;rw[h1.val,h2.val,hP];cases n1 <;> cases n2 <;> simp[Int.natCast_mul,Int.mul_neg,Int.neg_mul]
theorem WI.plus {n:Bool} {a b S:List Nat} {x y:Int} (h1:WI n a x) (h2:WI n b y) (hd:Dig S) (ht:Tight S) (hS:valL S=valL a+valL b):WI (n && decide (0<S.length)) S (x+y):=by
 refine WI.of hd ht ?_;rw[h1.val,h2.val,hS];cases n <;> simp <;> omega
theorem WI.minus1 {n1 n2:Bool} {a b S:List Nat} {x y:Int} (h1:WI n1 a x) (h2:WI n2 b y) (hn:n1≠n2) (hd:Dig S) (ht:Tight S) (hle:valL b<=valL a) (hS:valL S=valL a-valL b):WI (n1 && decide (0<S.length)) S (x+y):=by
 refine WI.of hd ht ?_;rw[h1.val,h2.val,hS];cases n1 <;> cases n2 <;> simp at hn⊢ <;> omega
theorem WI.minus2 {n1 n2:Bool} {a b S:List Nat} {x y:Int} (h1:WI n1 a x) (h2:WI n2 b y) (hn:n1≠n2) (hd:Dig S) (ht:Tight S) (hle:valL a<=valL b) (hS:valL S=valL b-valL a):WI (n2 && decide (0<S.length)) S (x+y):=by
 refine WI.of hd ht ?_;rw[h1.val,h2.val,hS];cases n1 <;> cases n2 <;> simp at hn⊢ <;> omega
def wcells (l:List Nat):List Value:=l.map fun x:Nat=>.int .u32 (x:Int)
theorem wcells_length (l:List Nat):(wcells l).length=l.length:=by simp[wcells]
theorem wcells_get {l:List Nat} {k:Nat} (hk:k<l.length):(wcells l)[k]? = some (.int .u32 (l[k]:Int)):=by simp[wcells,hk]
theorem wcells_set (l:List Nat) (k x:Nat):(wcells l).set k (.int .u32 (x:Int))=wcells (l.set k x):=by simp[wcells,List.map_set]
structure WdV (w : World) (A : Option Addr) (n c : Nat) (l : List Nat) : Prop where
 row:TRow w 386 A (wcells l)
 len:n=l.length
 cap:n<=c
 small:n<=100000
theorem WdV.below {w w':World} {A:Option Addr} {n c:Nat} {l:List Nat} (h:WdV w A n c l) (hb:Below w.heap.size w w'):WdV w' A n c l:=⟨h.row.keep (.below hb),h.len,h.cap,h.small⟩
theorem WdV.at_ {w:World} {A:Option Addr} {n c:Nat} {l:List Nat} (h:WdV w A n c l) (k:Nat) (hk:k<l.length):∃b off,A=some ⟨b,off,none⟩∧b<w.heap.size∧w.cell? ⟨b,off+k,none⟩=some (.int .u32 (l[k]:Int)):=by
 obtain⟨b,off,hA,hb,hc⟩:=h.row.row.at_ 0 (by rw[wcells_length];omega);exact⟨b,off,hA,hb,hc k _ (wcells_get hk)⟩
theorem WdV.take {w:World} {A:Option Addr} {n c:Nat} {l:List Nat} (h:WdV w A n c l) (k:Nat) (hk:k<=n):WdV w A k c (l.take k):=by
 refine⟨?_,by rw[List.length_take,<- h.len];omega,by have:=h.cap;omega,by have:=h.small;omega⟩;rcases h.row with h0|⟨b,off,cur,fl,hA,hb,hc⟩
 ·left;have:l=[]:=List.eq_nil_of_length_eq_zero (by have:=congrArg List.length h0;rw[wcells_length]at this;simpa using this);subst this;simp[wcells]
 ·refine .inr ⟨b,off,cur,fl,hA,hb,fun j u hu=>hc j u ?_⟩;have e:wcells (l.take k)=(wcells l).take k:=by simp[wcells,List.map_take]
  rw[e,List.getElem?_take]at hu;split at hu
  ·exact hu
  ·cases hu
abbrev wideV (neg:Bool) (A:Option Addr) (n c:Nat):Value:=.agg #[.bool neg,.slice A n c]
def WideQ (w:World) (z:Int) (v:Value):Prop:=∃neg A n c l,v=wideV neg A n c∧WdV w A n c l∧WI neg l z
theorem WideQ.below {w w':World} {z:Int} {v:Value} (h:WideQ w z v) (hb:Below w.heap.size w w'):WideQ w' z v:=by
 obtain⟨neg,A,n,c,l,h1,h2,h3⟩:=h;exact⟨neg,A,n,c,l,h1,h2.below hb,h3⟩
theorem run_head (w:World) (A:Option Addr) (n c k:Nat) (hk:k<=c):(Instr.slice 138 (.slice A n c) none (some (.int .i64 (k:Int))) none).run Tryz.prog w=.ok (.slice A k c) w:=by
 simp[Instr.slice,Instr.sliceBounds,Instr.sliceBound,asIntOf,run_underlying Tryz.underlying138,go_sem];intro h;omega
def TrimQ (w:World) (l:List Nat) (e:Ending) (w':World):Prop:=∃A n c l',e=.returned (.slice A n c)∧w'=w∧WdV w A n c l'∧Tight l'∧valL l'=valL l∧(Dig l->Dig l')
theorem trim_any {w:World} {A:Option Addr} {n c:Nat} {l:List Nat} (h:WdV w A n c l):Calls Tryz.prog 318 #[.slice A n c] w (TrimQ w l):=by
 have H:=iH h;have Hn:=iH h.len;have hcap:=h.cap;have hsm:=h.small;clear h;have HS:=iH (run_head w A n c);go_enter Tryz.func318,Tryz.ntmps318;go_wp2_with fail;go_loopw [3] (fun i wr=>∃k:Nat,k<=n∧i=.int .i64 k∧(∀j (hj:j<l.length),k<=j->l[j]=0)∧wr=w) (fun i _=>(intOf i).toNat)
 case atStart=>exact⟨n,Nat.le_refl _,rfl,fun j hj hk=>absurd hj (by have:=Hn.out;omega),rfl⟩
 case round =>
  obtain⟨k,hk,rfl,hR,rfl⟩:=hrel;have HR:=iH hR;clear hR;rcases Nat.eq_zero_or_pos k with rfl|hk0
  ·have e1:=HS.out 0 (Nat.zero_le _);have HT:=iH (show TrimQ wr l (.returned (.slice A 0 c)) wr from⟨A,0,c,l.take 0,rfl,rfl,H.out.take 0 (Nat.zero_le _),tight_take 0 (Nat.zero_le _) (.inl rfl),valL_take 0 HR.out,fun hd=>hd.take 0⟩);clear H HR HS;go_wp2;go_ret;exact HT.out
  ·obtain⟨q,rfl⟩:∃q,k=q+1:=⟨k-1,by omega⟩;have hq:q<l.length:=by have:=Hn.out;omega
   obtain⟨b,off,rfl,hbb,c0⟩:=H.out.at_ q hq;have e0:IntKind.i64.wrap (((q+1:Nat):Int)-1)=(q:Int):=by rw[show((q+1:Nat):Int)-1=(q:Int) by omega];exact IntWalk.i64_in _ (by omega)
   have e1:=HS.out (q+1) (by omega);have HT:=iH (show l[q]≠0->TrimQ wr l (.returned (.slice (some ⟨b,off,none⟩) (q+1) c)) wr from fun hne=>⟨_,q+1,c,l.take (q+1),rfl,rfl,H.out.take _ (by omega),tight_take _ (by omega) (.inr ⟨by simpa using hq,by simpa using hne⟩),valL_take _ HR.out,fun hd=>hd.take _⟩);have HZ:=iH (show l[q]=0->∀j (hj:j<l.length),q<=j->l[j]=0 from fun h0 j hj hqj=>by
    rcases Nat.eq_or_lt_of_le hqj with e|e
    ·subst e;exact h0
    ·exact HR.out j hj (by omega))
   generalize l[q]=x at *;clear H HR HS hq;by_cases hx:x=0
   ·have HZ':=iH (HZ.out hx);subst hx;clear HZ HT;go_wp2_with fail;go_roundw
    case rel=>exact⟨q,by omega,by go_num,HZ'.out,trivial⟩
    case measure=>simp[intOf]
   ·have HT':=iH (HT.out hx);have d0:decide ((x:Int)=0)=false:=by simpa using hx
    clear HZ HT;go_wp2;go_ret;exact HT'.out
theorem signed_any (neg:Bool) (A:Option Addr) (n c:Nat) (w:World):Calls Tryz.prog 317 #[.bool neg,.slice A n c] w fun e w'=>e=.returned (wideV (neg && decide (0<n)) A n c)∧Below w.heap.size w w':=by
 have HY:Hid (∀u,Below w.heap.size w (w.alloc (.cells #[.bool u,.slice A n c] 140))):=fun u=>(Below.refl _ w).alloc (Nat.le_refl _) _
 have HK:Hid (∀u,Bk (w.alloc (.cells #[.bool u,.slice A n c] 140)) w.heap.size 140 [.bool u,.slice A n c]):=fun u=>Bk.new w 140 [.bool u,.slice A n c]
 cases neg
 ·have r0:=(HK.out false).cell 0;have r1:=(HK.out false).cell 1;have HR:=iH (And.intro r0 r1);clear r0 r1;go_enter Tryz.func317,Tryz.ntmps317;go_wp2;obtain⟨r0,r1⟩:=HR.out;refine bodyPost_ret (v:=wideV false A n c) (by simp[results,Tryz.results317,go_sem,r0,r1]) rfl ?_;exact⟨by simp,HY.out _⟩
 ·rcases Nat.eq_zero_or_pos n with rfl | hn
  ·have r0:=(HK.out false).cell 0;have r1:=(HK.out false).cell 1;have HR:=iH (And.intro r0 r1);clear r0 r1;go_enter Tryz.func317,Tryz.ntmps317;go_wp2;obtain⟨r0,r1⟩:=HR.out;refine bodyPost_ret (v:=wideV false A 0 c) (by simp[results,Tryz.results317,go_sem,r0,r1]) rfl ?_;exact⟨by simp,HY.out _⟩
  ·have d0:decide ((0:Int)<(n:Int))=true:=by simpa using hn
   have r0:=(HK.out true).cell 0;have r1:=(HK.out true).cell 1;have HR:=iH (And.intro r0 r1);clear r0 r1;go_enter Tryz.func317,Tryz.ntmps317;go_wp2;obtain⟨r0,r1⟩:=HR.out;refine bodyPost_ret (v:=wideV true A n c) (by simp[results,Tryz.results317,go_sem,r0,r1]) rfl ?_;exact⟨by simp[hn],HY.out _⟩
theorem limited_any (neg:Bool) (A:Option Addr) (n c:Nat) (hn:n<=512) (w:World):Calls Tryz.prog 315 #[.bool neg,.slice A n c] w fun e w'=>e=.returned (.tuple #[wideV (neg && decide (0<n)) A n c,.int .i64 0])∧Below w.heap.size w w':=by
 have K:=iH (signed_any neg A n c);have d0:decide ((512:Int)<(n:Int))=false:=by simp;omega
 generalize(neg && decide (0<n))=b at K⊢;have HY:Hid (∀V:World,Below (w.alloc (.cells #[.bool false,.slice none 0 0] 140)).heap.size (w.alloc (.cells #[.bool false,.slice none 0 0] 140)) V->Below w.heap.size w ((V.setCell ⟨w.heap.size,0,none⟩ (.bool b)).setCell ⟨w.heap.size,1,none⟩ (.slice A n c))):=fun V hV =>
  (((((Below.refl _ w).alloc (Nat.le_refl _) _).trans (hV.mono (by simp)))).setCell (p:=⟨w.heap.size,0,none⟩) (Nat.le_refl _) _).setCell (p:=⟨w.heap.size,1,none⟩) (Nat.le_refl _) _
 go_enter Tryz.func315,Tryz.ntmps315;go_wp2_with fail;(with_reducible refine(K.out _).mono ?_);rintro e w1 ⟨rfl,hb⟩;have HV:=iH (HY.out _ hb);have k0:Bk w1 w.heap.size 140 [.bool false,.slice none 0 0]:=(Bk.new w 140 [.bool false,.slice none 0 0]).below hb (by simp);have l0:=k0.lt;have c0:=k0.k0;have c1:=k0.k1;have f0:=k0.frozen 0;have f1:=k0.frozen 1;have HR:=iH ((k0.set 0 (.bool b)).set 1 (.slice A n c));clear k0 hb HY K;go_wp2;have r0:=HR.out.cell 0;have r1:=HR.out.cell 1;refine bodyPost_ret (v:=.tuple #[wideV b A n c,.int .i64 0]) (by simp[results,Tryz.results315,go_sem,r0,r1]) rfl ?_;exact⟨rfl,HV.out⟩
theorem from_dig {m:Nat} (hm:m<18446744073709551616):Dig [m % BW,m / BW]∧valL [m % BW,m / BW]=m:=by
 refine⟨fun x hx=>?_,by simp only[valL];unfold BW;omega⟩;simp only[List.mem_cons,List.not_mem_nil,or_false]at hx;unfold BW at hx⊢;rcases hx with rfl|rfl <;> omega
noncomputable def fromW (w:World) (m:Nat):World:=(w.alloc (.cells #[.bool false,.slice none 0 0] 140)).alloc (.cells #[.int .u32 ((m:Int) % 4294967296),.int .u32 ((m:Int) / 4294967296)] 386)
theorem from_words (w:World) {m:Nat}:WdV (fromW w m) (some ⟨w.heap.size+1,0,none⟩) 2 2 [m % BW,m / BW]:=by
 have h:=Bk.new (w.alloc (.cells #[.bool false,.slice none 0 0] 140)) 386 [.int .u32 ((m:Int) % 4294967296),.int .u32 ((m:Int) / 4294967296)];rw[World.size_alloc]at h;refine⟨.inr ⟨w.heap.size+1,0,_,_,rfl,h,fun j u hu=>?_⟩,rfl,Nat.le_refl _,by omega⟩;rw[Nat.zero_add]
 match j,hu with
 | 0,hu=>simpa[wcells]using hu
 | 1,hu=>simpa[wcells]using hu
 | j+2,hu=>simp[wcells]at hu
theorem from_below (w:World) (m:Nat):Below w.heap.size w (fromW w m):=((Below.refl _ _).alloc (Nat.le_refl _) _).alloc (by simp) _
theorem from_box (w:World) (m:Nat):Bk (fromW w m) w.heap.size 140 [.bool false,.slice none 0 0]:=(Bk.new w 140 [.bool false,.slice none 0 0]).alloc _
theorem from_fin {w w2:World} {z:Int} {m:Nat} (hm:m=z.natAbs) (hz : -9223372036854775808<=z∧z<=9223372036854775807) {A:Option Addr} {n c:Nat} {l:List Nat} (hw:WdV (fromW w m) A n c l) (ht:Tight l) (hv:valL l=valL [m % BW,m / BW]) (hd:Dig [m % BW,m / BW]->Dig l)
 (hb:Below (fromW w m).heap.size (fromW w m) w2) (neg:Bool) (hn:neg=decide (z<0)) :
 ∃W3,W3=((w2.setCell ⟨w.heap.size,0,none⟩ (.bool (neg && decide (0<n)))).setCell ⟨w.heap.size,1,none⟩ (.slice A n c))∧Bk w2 w.heap.size 140 [.bool false,.slice none 0 0]∧Bk W3 w.heap.size 140 [.bool (neg && decide (0<n)),.slice A n c]∧WideQ W3 z (wideV (neg && decide (0<n)) A n c)∧Below w.heap.size w W3:=by
 obtain⟨d1,d2⟩:=from_dig (m:=m) (by omega);have k2:=(from_box w m).below hb (from_box w m).lt;have hb2:=(from_below w m).trans (hb.mono (from_below w m).size);refine⟨_,rfl,k2,(k2.set 0 _).set 1 _,⟨_,A,n,c,l,rfl,?_,?_⟩,(hb2.setCell (p:=⟨w.heap.size,0,none⟩) (Nat.le_refl _) _).setCell (p:=⟨w.heap.size,1,none⟩) (Nat.le_refl _) _⟩
 ·have h2:=hw.below hb;exact⟨(h2.row.keep (.setCell k2 (by decide) _)).keep (.setCell (k2.set 0 _) (by decide) _),h2.len,h2.cap,h2.small⟩
 ·rw[hw.len];refine WI.of (hd d1) ht ?_;rw[hv,d2,hn];by_cases h:z<0
  ·simp[h];omega
  ·simp[h];omega
theorem from_any {z:Int} (hz : -9223372036854775808<=z∧z<=9223372036854775807) (w:World):Calls Tryz.prog 218 #[.int .i64 z] w fun e w'=>∃v,e=.returned v∧WideQ w' z v∧Below w.heap.size w w':=by
 obtain⟨m,hm⟩:∃m:Nat,m=z.natAbs:=⟨_,rfl⟩;have HM:=iH hm;have HZ:=iH hz;have KT:Hid (Calls Tryz.prog 318 #[.slice (some ⟨w.heap.size+1,0,none⟩) 2 2] ((w.alloc (.cells #[.bool false,.slice none 0 0] 140)).alloc (.cells #[.int .u32 ((m:Int) % 4294967296),.int .u32 ((m:Int) / 4294967296)] 386)) (TrimQ ((w.alloc (.cells #[.bool false,.slice none 0 0] 140)).alloc (.cells #[.int .u32 ((m:Int) % 4294967296),.int .u32 ((m:Int) / 4294967296)] 386)) [m % BW,m / BW])):=trim_any (from_words w (m:=m));have KS:=iH signed_any;by_cases h0:z<0
 ·have d0:decide (z<0)=true:=by simpa using h0
  have e1:IntKind.u64.wrap z=z+18446744073709551616:=by rw[IntKind.wrap_u64];omega
  have e2:IntKind.u64.wrap (-(z+18446744073709551616))=(m:Int):=by rw[IntKind.wrap_u64];omega
  have e3:IntKind.u32.wrap (m:Int)=(m:Int) % 4294967296:=by rw[IntKind.wrap_u32]
  have e4:IntKind.u32.wrap ((m:Int) / 4294967296)=(m:Int) / 4294967296:=by rw[IntKind.wrap_u32];omega
  clear hm hz;go_enter Tryz.func218,Tryz.ntmps218;go_wp2_with fail;(with_reducible refine(KT.out).mono ?_);rintro e w1 ⟨A,n,c,l',rfl,hw1,hw,ht,hv,hd⟩;subst hw1;have HQ:=iH (fun(w2:World) (hb:Below ((w.alloc (.cells #[.bool false,.slice none 0 0] 140)).alloc (.cells #[.int .u32 ((m:Int) % 4294967296),.int .u32 ((m:Int) / 4294967296)] 386)).heap.size ((w.alloc (.cells #[.bool false,.slice none 0 0] 140)).alloc (.cells #[.int .u32 ((m:Int) % 4294967296),.int .u32 ((m:Int) / 4294967296)] 386)) w2)=>from_fin HM.out HZ.out hw ht hv hd hb true (by simp[h0]));clear hw ht hv hd KT;go_wp2_with fail;(with_reducible refine(KS.out true A n c _).mono ?_);rintro e w2 ⟨rfl,hb⟩;obtain⟨W3,hW3,k2,k3,hq,hB⟩:=HQ.out w2 hb;have f0:=k2.frozen 0;have f1:=k2.frozen 1;have c0:=k2.k0;have c1:=k2.k1;have l0:=k2.lt;have HF:=iH (And.intro k3 (And.intro hq hB));have HW:=iH hW3;clear k3 hq hB HQ k2 hb KS hW3;generalize(true && decide (0<n))=b at *;go_wp2;rw[<- HW.out];obtain⟨k3,hq,hB⟩:=HF.out;have r0:=k3.cell 0;have r1:=k3.cell 1;refine bodyPost_ret (v:=wideV b A n c) (by simp[results,Tryz.results218,go_sem,r0,r1]) rfl ?_;exact⟨_,rfl,hq,hB⟩
 ·have d0:decide (z<0)=false:=by simpa using h0
  have e1:IntKind.u64.wrap z=(m:Int):=by rw[IntKind.wrap_u64];omega
  have e3:IntKind.u32.wrap (m:Int)=(m:Int) % 4294967296:=by rw[IntKind.wrap_u32]
  have e4:IntKind.u32.wrap ((m:Int) / 4294967296)=(m:Int) / 4294967296:=by rw[IntKind.wrap_u32];omega
  clear hm hz;go_enter Tryz.func218,Tryz.ntmps218;go_wp2_with fail;(with_reducible refine(KT.out).mono ?_);rintro e w1 ⟨A,n,c,l',rfl,hw1,hw,ht,hv,hd⟩;subst hw1;have HQ:=iH (fun(w2:World) (hb:Below ((w.alloc (.cells #[.bool false,.slice none 0 0] 140)).alloc (.cells #[.int .u32 ((m:Int) % 4294967296),.int .u32 ((m:Int) / 4294967296)] 386)).heap.size ((w.alloc (.cells #[.bool false,.slice none 0 0] 140)).alloc (.cells #[.int .u32 ((m:Int) % 4294967296),.int .u32 ((m:Int) / 4294967296)] 386)) w2)=>from_fin HM.out HZ.out hw ht hv hd hb false (by simp[h0]));clear hw ht hv hd KT;go_wp2_with fail;(with_reducible refine(KS.out false A n c _).mono ?_);rintro e w2 ⟨rfl,hb⟩;obtain⟨W3,hW3,k2,k3,hq,hB⟩:=HQ.out w2 hb;have f0:=k2.frozen 0;have f1:=k2.frozen 1;have c0:=k2.k0;have c1:=k2.k1;have l0:=k2.lt;have HF:=iH (And.intro k3 (And.intro hq hB));have HW:=iH hW3;clear k3 hq hB HQ k2 hb KS hW3;generalize(false && decide (0<n))=b at *;go_wp2;rw[<- HW.out];obtain⟨k3,hq,hB⟩:=HF.out;have r0:=k3.cell 0;have r1:=k3.cell 1;refine bodyPost_ret (v:=wideV b A n c) (by simp[results,Tryz.results218,go_sem,r0,r1]) rfl ?_;exact⟨_,rfl,hq,hB⟩
def cmpZ (x y:Int):Int:=if x<y then -1 else if y<x then 1 else 0
theorem nan232 (x:Int) (w:World):Calls Tryz.prog 232 #[.int .i64 x] w fun e w'=>e=.returned (.bool false)∧w=w':=by
 have h:decide (x=x)=true:=by simp
 go_enter Tryz.func232,Tryz.ntmps232;go_wp2;go_ret;exact⟨rfl,rfl⟩
theorem nan414 (x:Int) (w:World):Calls Tryz.prog 414 #[.int .u32 x] w fun e w'=>e=.returned (.bool false)∧w=w':=by
 have h:decide (x=x)=true:=by simp
 go_enter Tryz.func414,Tryz.ntmps414;go_wp2;go_ret;exact⟨rfl,rfl⟩
theorem cmp86 (x y:Int) (w:World):Calls Tryz.prog 86 #[.int .i64 x,.int .i64 y] w fun e w'=>e=.returned (.int .i64 (cmpZ x y))∧w=w':=by
 have Hx:=iH (nan232 x w);have Hy:=iH (nan232 y w);go_enter Tryz.func86,Tryz.ntmps86;go_wp2_with fail;refine Hx.out.mono ?_;rintro e w1 ⟨rfl,rfl⟩;go_wp2_with fail;refine Hy.out.mono ?_;rintro e w1 ⟨rfl,rfl⟩;by_cases h1:x<y
 ·have d1:decide (x<y)=true:=by simpa using h1
  go_wp2;go_ret;exact⟨by simp[cmpZ,h1],rfl⟩
 ·have d1:decide (x<y)=false:=by simpa using h1
  have Hc:Hid (¬ y<x->cmpZ x y=0):=by show ¬ y<x->cmpZ x y=0;intro h2;rw[cmpZ,if_neg h1,if_neg h2]
  by_cases h2:y<x
  ·have d2:decide (y<x)=true:=by simpa using h2
   go_wp2;go_ret;exact⟨by simp[cmpZ,h1,h2],rfl⟩
  ·have d2:decide (y<x)=false:=by simpa using h2
   have Hz:=iH (Hc.out h2);clear Hc;go_wp2;go_ret;exact⟨by rw[Hz.out];rfl,rfl⟩
theorem cmp380 (x y:Int) (w:World):Calls Tryz.prog 380 #[.int .u32 x,.int .u32 y] w fun e w'=>e=.returned (.int .i64 (cmpZ x y))∧w=w':=by
 have Hx:=iH (nan414 x w);have Hy:=iH (nan414 y w);go_enter Tryz.func380,Tryz.ntmps380;go_wp2_with fail;refine Hx.out.mono ?_;rintro e w1 ⟨rfl,rfl⟩;go_wp2_with fail;refine Hy.out.mono ?_;rintro e w1 ⟨rfl,rfl⟩;by_cases h1:x<y
 ·have d1:decide (x<y)=true:=by simpa using h1
  go_wp2;go_ret;exact⟨by simp[cmpZ,h1],rfl⟩
 ·have d1:decide (x<y)=false:=by simpa using h1
  have Hc:Hid (¬ y<x->cmpZ x y=0):=by show ¬ y<x->cmpZ x y=0;intro h2;rw[cmpZ,if_neg h1,if_neg h2]
  by_cases h2:y<x
  ·have d2:decide (y<x)=true:=by simpa using h2
   go_wp2;go_ret;exact⟨by simp[cmpZ,h1,h2],rfl⟩
  ·have d2:decide (y<x)=false:=by simpa using h2
   have Hz:=iH (Hc.out h2);clear Hc;go_wp2;go_ret;exact⟨by rw[Hz.out];rfl,rfl⟩
def CmpQ (a b:List Nat) (w:World) (e:Ending) (w':World):Prop:=∃r:Int,e=.returned (.int .i64 r)∧Below w.heap.size w w'∧(r<0 ↔ valL a<valL b)∧(0<r ↔ valL b<valL a)
theorem cmpZ_pm (x y:Int) (h:x≠y):(cmpZ x y<0 ↔ x<y)∧(0<cmpZ x y ↔ y<x):=by
 unfold cmpZ;by_cases h1:x<y
 ·simp[h1];omega
 ·have h2:y<x:=by omega
  simp[h1,h2]
theorem CmpQ.len {a b:List Nat} {w w':World} (hw:Below w.heap.size w w') (ha:Dig a) (hb:Dig b) (ta:Tight a) (tb:Tight b) (h:a.length≠b.length):CmpQ a b w (.returned (.int .i64 (cmpZ (a.length:Int) (b.length:Int)))) w':=by
 obtain⟨h1,h2⟩:=cmpZ_pm (a.length:Int) (b.length:Int) (by omega);refine⟨_,rfl,hw,h1.trans ?_,h2.trans ?_⟩
 ·rcases Nat.lt_or_ge a.length b.length with hl | hl
  ·exact⟨fun _=>valL_len ha tb hl,fun _=>by omega⟩
  ·have:=valL_len hb ta (show b.length<a.length by omega);exact⟨fun hh=>by omega,fun hh=>by omega⟩
 ·rcases Nat.lt_or_ge a.length b.length with hl | hl
  ·have:=valL_len ha tb hl;exact⟨fun hh=>by omega,fun hh=>by omega⟩
  ·exact⟨fun _=>valL_len hb ta (show b.length<a.length by omega),fun _=>by omega⟩
theorem CmpQ.digit {a b:List Nat} {w w':World} (hw:Below w.heap.size w w') (ha:Dig a) (hb:Dig b) (hl:a.length=b.length) (i:Nat) (hi:i<a.length) (hi':i<b.length) (hd:a.drop (i+1)=b.drop (i+1)) (h:a[i]≠b[i]):CmpQ a b w (.returned (.int .i64 (cmpZ (a[i]:Int) (b[i]:Int)))) w':=by
 obtain⟨h1,h2⟩:=cmpZ_pm (a[i]:Int) (b[i]:Int) (by omega);refine⟨_,rfl,hw,h1.trans ?_,h2.trans ?_⟩
 ·rcases Nat.lt_or_ge a[i] b[i]with hl' | hl'
  ·exact⟨fun _=>valL_cmp hl ha hb i hi hd hl',fun _=>by omega⟩
  ·have:=valL_cmp hl.symm hb ha i hi' hd.symm (by omega);exact⟨fun hh=>by omega,fun hh=>by omega⟩
 ·rcases Nat.lt_or_ge a[i] b[i]with hl' | hl'
  ·have:=valL_cmp hl ha hb i hi hd hl';exact⟨fun hh=>by omega,fun hh=>by omega⟩
  ·exact⟨fun _=>valL_cmp hl.symm hb ha i hi' hd.symm (by omega),fun _=>by omega⟩
theorem CmpQ.same {a b:List Nat} {w w':World} (hw:Below w.heap.size w w') (h:a=b):CmpQ a b w (.returned (.int .i64 0)) w':=by
 subst h;exact⟨0,rfl,hw,by omega,by omega⟩
theorem wcompare_any {w:World} {A A':Option Addr} {n n' c c':Nat} {a b:List Nat} (h:WdV w A n c a) (h':WdV w A' n' c' b) (ha:Dig a) (hb:Dig b) (ta:Tight a) (tb:Tight b) :
 Calls Tryz.prog 314 #[.slice A n c,.slice A' n' c'] w (CmpQ a b w):=by
 have H:=iH h;have H':=iH h';have Hn:=iH h.len;have Hn':=iH h'.len;have hsm:=h.small;have hsm':=h'.small;have KL:=iH (cmp86 (n:Int) (n':Int));have KD:Hid (∀(x y:Int) (w:World),Calls Tryz.prog 380 #[.int .u32 x,.int .u32 y] w fun e w'=>e=.returned (.int .i64 (cmpZ x y))∧w'=w):=fun x y w=>(cmp380 x y w).mono fun e w' h=>⟨h.1,h.2.symm⟩
 clear h h';by_cases hl:n=n'
 ·have HD:Hid (∀wr:World,Below w.heap.size w wr->∀i (hi:i<a.length) (hi':i<b.length),a.drop (i+1)=b.drop (i+1)->a[i]≠b[i]->CmpQ a b w (.returned (.int .i64 (cmpZ (a[i]:Int) (b[i]:Int)))) wr):=fun wr hw i hi hi'=>CmpQ.digit hw ha hb (by have:=Hn.out;have:=Hn'.out;omega) i hi hi'
  have HE:Hid (∀wr:World,Below w.heap.size w wr->a=b->CmpQ a b w (.returned (.int .i64 0)) wr):=fun wr hw=>CmpQ.same hw
  subst hl;clear ha hb ta tb KL;have e0:((n:Int) != (n:Int))=false:=by simp
  go_enter Tryz.func314,Tryz.ntmps314;go_wp2_with fail;go_loopw [5] (fun i wr=>∃k:Nat,k<=n∧i=.int .i64 ((k:Int)-1)∧a.drop k=b.drop k∧Below w.heap.size w wr) (fun i _=>(intOf i+1).toNat)
  case atStart=>exact⟨n,Nat.le_refl _,by go_num,by rw[List.drop_of_length_le (by have:=Hn.out;omega),List.drop_of_length_le (by have:=Hn'.out;omega)],Below.refl _ _⟩
  case round =>
   obtain⟨k,hk,rfl,hd,hbel⟩:=hrel;have HB:=iH hbel;rcases Nat.eq_zero_or_pos k with rfl|hk0
   ·have HQ:=iH (HE.out wr hbel (by simpa using hd));clear hd HE HD hbel;go_wp2;go_ret;exact HQ.out
   ·obtain⟨q,rfl⟩:∃q,k=q+1:=⟨k-1,by omega⟩;have e1:((q+1:Nat):Int)-1=(q:Int):=by omega
    rw[e1];clear e1;have hq:q<a.length:=by have:=Hn.out;omega
    have hq':q<b.length:=by have:=Hn'.out;omega
    obtain⟨g,off,rfl,hg,c0⟩:=(H.out.below hbel).at_ q hq;obtain⟨g',off',rfl,hg',c0'⟩:=(H'.out.below hbel).at_ q hq';have HX:=iH (fun(wr:World) (hw:Below w.heap.size w wr) hne=>HD.out wr hw q hq hq' hd hne);have HS:Hid (a[q]=b[q]->a.drop q=b.drop q):=by
     show a[q]=b[q]->a.drop q=b.drop q;intro he;rw[<- List.getElem_cons_drop hq,<- List.getElem_cons_drop hq',he,hd]
    generalize a[q]=x at *;generalize b[q]=y at *;clear hd HD H H' hq hq' HE hbel;by_cases hxy:x=y
    ·have HS':=iH (HS.out hxy);subst hxy;have e2:((x:Int) != (x:Int))=false:=by simp
     clear HX HS;go_wp2;go_quiet (fail);go_wp2;go_roundw
     case rel=>exact⟨q,by omega,by go_num,HS'.out,bel_drewN HB.out _⟩
     case measure=>(simp[intOf];try omega)
    ·have HX':=iH (fun(wr:World) (hw:Below w.heap.size w wr)=>HX.out wr hw hxy);have e2:((x:Int) != (y:Int))=true:=by simp;omega
     clear HX HS;go_wp2;go_quiet (fail);go_wp2;have HB2:=iH (bel_drewN HB.out nq);have c1:(wr.drewN nq).cell? ⟨g,off+q,none⟩=some (.int .u32 (x:Int)):=c0;have c1':(wr.drewN nq).cell? ⟨g',off'+q,none⟩=some (.int .u32 (y:Int)):=c0';have hg2:g<(wr.drewN nq).heap.size:=hg;have hg2':g'<(wr.drewN nq).heap.size:=hg';generalize wr.drewN nq=W2 at *;clear c0 c0' hg hg' HB;have hq0:(0:Int)<=(q:Int):=by omega
     have hqn:(q:Int)<(n:Int):=by omega
     go_quiet ((go_at_call 380;exact Calls.quiet_of_same (KD.out _ _ _)));go_wp2;go_ret;exact HX'.out _ (bel_drewN HB2.out _)
 ·have e0:((n:Int) != (n':Int))=true:=by simp;omega
  have HQ:Hid (CmpQ a b w (.returned (.int .i64 (cmpZ (n:Int) (n':Int)))) w):=by
   have:=CmpQ.len (w:=w) (w':=w) (Below.refl _ _) ha hb ta tb (by have:=Hn.out;have:=Hn'.out;omega);rw[<- Hn.out,<- Hn'.out]at this;exact this
  clear ha hb ta tb H H' Hn Hn';go_enter Tryz.func314,Tryz.ntmps314;go_wp2_with fail;refine(KL.out _).mono ?_;rintro e w1 ⟨rfl,rfl⟩;go_wp2;go_ret;exact HQ.out
end Go.Proofs.YtiecjoijnkghbaaGreatDoor
