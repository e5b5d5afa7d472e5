/- Cores of catalogs. The generator of changed catalogs: a copy of a row, a number, a changed amount list. The generator of changed catalogs: a changed item, a changed rule. The generator of changed catalogs: a changed tax, a changed table. -/
import Derived.Test.YthjfdfdgbpbanaaGreatDoorX24
import Derived.Test.YthjfdfdgbpbanaaGreatDoorX25
import Derived.Test.YthjfdfdgbpbanaaGreatDoorX27
import Derived.Laws.AppendOwnNone
set_option linter.unusedVariables false
set_option linter.unusedSimpArgs false
set_option maxRecDepth 100000
set_option maxHeartbeats 4000000
open Go.RowKit
namespace Go.Proofs.YthjfdfdgbpbanaaGreatDoor
abbrev sz0:Sl:=⟨none,0,0⟩
def RuM.core (r:RuM):RuM:={ r with st:=sz0,sg:=sz0,sb:=sz0 }
def RwM.core (r:RwM):RwM:={ r with sg:=sz0 }
def TbM.core (t:TbM):TbM:=⟨t.name,t.rows.map RwM.core,sz0⟩
def TxM.core (t:TxM):TxM:={ t with sb:=sz0 }
def CatM.core (m:CatM):CatM:=⟨m.items,m.rules.map RuM.core,m.tables.map TbM.core,m.taxes.map TxM.core,sz0,sz0,sz0,sz0⟩
theorem Cp.core {α:Type} {C:World->Nat->α->α->Prop} {sls:α->List Sl} {W:World} {base:Nat} {l l':List α} (h:Cp C sls W base l l') (f:α->α) (hC:∀x x',C W base x x'->f x'=f x):l'.map f=l.map f:=by
 apply List.ext_getElem
 ·simp[h.1]
 ·intro i h1 h2;simp only[List.getElem_map];exact hC _ _ (h.2.1 i _ _ (List.getElem?_eq_getElem (by simpa using h2)) (List.getElem?_eq_getElem (by simpa using h1)))
theorem RuC.core {W:World} {base:Nat} {r r':RuM} (h:RuC W base r r'):r'.core=r.core:=by rw[h.same];rfl
theorem RwC.core {W:World} {base:Nat} {r r':RwM} (h:RwC W base r r'):r'.core=r.core:=by rw[h.same];rfl
theorem TxC.core {W:World} {base:Nat} {r r':TxM} (h:TxC W base r r'):r'.core=r.core:=by rw[h.same];rfl
theorem TbC.core {W:World} {base:Nat} {r r':TbM} (h:TbC W base r r'):r'.core=r.core:=by simp only[TbM.core,h.name,h.rows.core RwM.core fun _ _ k=>k.core]
theorem CatC.core {W:World} {base:Nat} {m m':CatM} (h:CatC W base m m'):m'.core=m.core:=by
 simp only[CatM.core,h.items,h.rules.core RuM.core fun _ _ k=>k.core,h.tables.core TbM.core fun _ _ k=>k.core,h.taxes.core TxM.core fun _ _ k=>k.core]
section
section
variable {P : Program} {w : World}
theorem run_clone_nil (t ty e:TypeId) (i:TypeInfo) (ht:P.underlying t=some (.slice e)) (hi:P.info? e=some i) (c:Nat) :
 (Builtin.append_ #[t,t] ty #[.slice none 0 0,.slice none 0 c]).run P w=.ok (.slice none 0 0) w:=by
 simp[Builtin.append_,run_underlying ht,sizeOf,typeInfo,hi,Builtin.lenOf,Builtin.firstCells]
theorem wpList_clone {ops:Array Oper} {rest:List Oper} {o:Oper} {a:Act} {Q:Exit->Act->World->Prop} (hgd:o.guard=none) (s x:Operand) (t:TypeId)
 (ho:o.op=.call { callee:=.builtin .append,args:=#[s,x],argTypes:=#[t,t] })
 (base:Nat) (e:TypeId) (i:TypeInfo) (z:Value) (size bytes:Nat) (ht:P.underlying t=some (.slice e)) (hi:P.info? e=some i) (hz:i.zero=some z)
 (hsize:i.size=size) (hby:i.bytes=bytes) (hzs:z.cells.size=size) (hsz:0<size) (hs:a.eval s=.slice none 0 0)
 (A:Option Addr) (m c:Nat) (news:List Value) (hx:a.eval x=.slice A m c) (hl:news.length=m*size) (hr:Row w w.heap.size A news) (h1:∀u∈news,u.oneCell'=true)
 (h63:m<=maxLen) (hbytes:m*bytes<=140737488355328) (hbase:base<=w.heap.size)
 (h:∀v' w',w'.ownsRow base e size v' m news->Below w.heap.size w w'->wpList P ops Q rest (a.put o.dst v') w'):wpList P ops Q (o :: rest) a w:=by
 have key:∀ad:Addr,A=some ad->(∀j u,news[j]? = some u->w.cell? (ad.add j)=some u)->wpList P ops Q (o :: rest) a w:=fun ad hA hc=>by
  subst hA;refine wpList_append_own_at _ hgd s x t ho base e i z size bytes ht hi hz hsize hby hzs hsz _ 0 [] hs (World.ownsRow_nil _ _ _ _) ad m c news hx hl hc h1 (by omega) (by rw[Nat.zero_add];exact hbytes) hbase fun v' w' h2 h3 _ _=>h v' w' (by simpa using h2) ⟨h3.os,h3.tape,h3.output,h3.size,fun b hb=>h3.block b hb (by simp[Value.ownBlock])⟩
 rcases hr with h0|⟨b,off,hA,hb,hc⟩
 ·cases A with
  | some ad=>exact key ad rfl (fun j u hu=>by rw[h0]at hu;simp at hu)
  | none =>
    have hm:m=0:=by
     rw[h0]at hl;rcases Nat.eq_zero_or_pos m with e|e
     ·exact e
     ·have:=Nat.mul_pos e hsz;simp at hl;omega
    subst hm;refine wpList_plain hgd fun K hK=>?_
    have hrun:=run_clone_nil (P:=P) (w:=w) t o.type e i ht hi c;unfold Oper.wp;simp[execOp,ho,resolve,invoke,builtin,hs,hx,hrun,Result.andThen];refine hK _ _ (h _ _ ?_ (Below.refl _ _));rw[h0];exact World.ownsRow_nil _ _ _ _
 ·refine key _ hA fun j u hu=>?_
  have e1:(⟨b,off,none⟩:Addr).add j=⟨b,off+j,none⟩:=by
   unfold Addr.add;split
   ·subst_vars;rfl
   ·rfl
  rw[e1];exact hc j u hu
end
def num12 (k:Int):Int:=([0,1,-1,2,100,101,1000000,1000001,1048576,1048577,10000,10001]:List Int)[k.toNat]?.getD 0
def NumP (V:World) (g:Nat) (s:Sd) (e:Ending) (W:World):Prop:=∃x,num12 (dr s 12)=x∧e=.returned (.int .i64 x)∧In64 x∧GSp V W g (nx s)
abbrev nums12:List Value:=[.int .i64 0,.int .i64 1,.int .i64 (-1),.int .i64 2,.int .i64 100,.int .i64 101,.int .i64 1000000,.int .i64 1000001,.int .i64 1048576,.int .i64 1048577,.int .i64 10000,.int .i64 10001]
theorem nums12_at (j:Nat) (h:j<12):nums12[j]? = some (.int .i64 (num12 j))∧In64 (num12 j):=by
 rcases(show j=0∨j=1∨j=2∨j=3∨j=4∨j=5∨j=6∨j=7∨j=8∨j=9∨j=10∨j=11 by omega)with rfl|rfl|rfl|rfl|rfl|rfl|rfl|rfl|rfl|rfl|rfl|rfl
 ·exact⟨rfl,by unfold In64;decide⟩
 ·exact⟨rfl,by unfold In64;decide⟩
 ·exact⟨rfl,by unfold In64;decide⟩
 ·exact⟨rfl,by unfold In64;decide⟩
 ·exact⟨rfl,by unfold In64;decide⟩
 ·exact⟨rfl,by unfold In64;decide⟩
 ·exact⟨rfl,by unfold In64;decide⟩
 ·exact⟨rfl,by unfold In64;decide⟩
 ·exact⟨rfl,by unfold In64;decide⟩
 ·exact⟨rfl,by unfold In64;decide⟩
 ·exact⟨rfl,by unfold In64;decide⟩
 ·exact⟨rfl,by unfold In64;decide⟩
theorem number_p {w:World} {g:Nat} {s:Sd} (h:GOkP w g s):Calls Tryz.prog 111 #[.pointer (some ⟨g,0,none⟩)] w (NumP w g s):=by
 have kb:=Bk.new w 3 nums12;have H1:=iH (((GSp.refl h).alloc (.cells nums12.toArray 3)));have hg:=h.lt;have KB:=iH kb;clear h kb;dsimp only[nums12]at H1 KB;have K:Hid (Calls Tryz.prog 68 #[.pointer (some ⟨g,0,none⟩),.int .i64 12] (w.alloc (.cells #[.int .i64 0,.int .i64 1,.int .i64 (-1),.int .i64 2,.int .i64 100,.int .i64 101,.int .i64 1000000,.int .i64 1000001,.int .i64 1048576,.int .i64 1048577,.int .i64 10000,.int .i64 10001] 3)) (NextP _ g s 12)):=next_p 12 H1.out.ok (by omega) (by omega);go_enter Tryz.func111,Tryz.ntmps111;go_wp2_with fail;(with_reducible refine K.out.mono ?_);rintro e w2 ⟨x,hd,rfl,x0,x1,hs⟩;obtain⟨j,rfl⟩:=Int.eq_ofNat_of_zero_le x0;have HD:Hid (num12 (dr s 12)=num12 j):=iH (by rw[hd]);obtain⟨hy,hin⟩:=nums12_at j (by omega);clear hd;generalize num12 (j:Int)=y at *;have kb2:Bk w2 w.heap.size 3 nums12:=hs.bk KB.out (by omega);have hc:w2.cell? ⟨w.heap.size,j,none⟩=some (.int .i64 y):=(kb2.cell j).trans hy;have hl:=kb2.lt;have HT:=iH (H1.out.trans hs);have Hin:=iH hin;clear hs kb2 hy K KB H1 hin;go_wp2;go_ret;exact⟨y,HD.out,rfl,Hin.out,HT.out⟩
theorem pcells_set (l:List P2) (k:Nat) (x y:Int) (h:k<l.length):pcells (l.set k (x,y))=((pcells l).set (k*2) (.int .i64 x)).set (k*2+1) (.int .i64 y):=by
 induction l generalizing k with
 | nil=>simp at h
 | cons a l ih =>
   cases k with
   | zero=>simp[pcells]
   | succ k =>
     have:=ih k (by simpa using h);have e:(k+1)*2=k*2+1+1:=by omega
     simp only[pcells,List.set_cons_succ,List.flatMap_cons]at this⊢;rw[this,e];simp[pc]
structure AmB (V W : World) (g : Nat) (s : Sd) (bx : Nat) (x y : Int) (v : Value) (n : Nat) (l : List P2) : Prop where
 st:GSp V W g s
 own:W.ownsRow V.heap.size 136 2 v n (pcells l)
 bk:Bk W bx 136 [.int .i64 x,.int .i64 y]
 ge:V.heap.size<=bx
 far:∀b,v.ownBlock=some b->b<bx
section
variable {V W W' : World} {g bx n : Nat} {s s' : Sd} {x y : Int} {v : Value} {l : List P2}
theorem AmB.next (h:AmB V W g s bx x y v n l) (k:GSp W W' g s'):AmB V W' g s' bx x y v n l :=
 ⟨h.st.trans k,k.own h.own (fun e=>by have:=row_base h.own g e;have:=h.st.lt;omega),k.bk h.bk (by have:=h.st.lt;have:=h.ge;omega),h.ge,h.far⟩
theorem AmB.below (h:AmB V W g s bx x y v n l) (hb:Below W.heap.size W W'):AmB V W' g s bx x y v n l:=h.next ((GSp.refl h.st.ok).below hb)
def num6 (k:Int):Int:=([0,1,3,-1,1099511627776,1099511627777]:List Int)[k.toNat]?.getD 0
def amtX (s:Sd):P2:=(dr s 11-1,num6 (dr (nx s) 6))
def amtQ (n:Nat) (s:Sd):Bool:=decide (0<n) && decide (dr (nx (nx s)) 2=0)
def amtF (l:List P2) (s:Sd):List P2×Sd :=
 if amtQ l.length s=true then(l.set (dr (nx (nx (nx s))) l.length).toNat (amtX s),nx (nx (nx (nx s)))) else(l ++ [amtX s],if 0<l.length then nx (nx (nx s)) else nx (nx s))
def AmtP (V:World) (g:Nat) (l0:List P2) (s:Sd) (e:Ending) (W:World):Prop:=∃A k c l s',amtF l0 s=(l,s')∧e=.returned (.slice A k c)∧PrV W 136 ⟨A,k,c⟩ l∧l.length<=l0.length+1∧GSp V W g s'
theorem AmB.put {gv cap k:Nat} (h:AmB V W g s bx x y (.slice (some ⟨gv,0,none⟩) n cap) n l) (hl:l.length=n) (hk:k<n) :
 (((W.setCell ⟨gv,k*2,none⟩ (.int .i64 x)).setCell ⟨gv,k*2+1,none⟩ (.int .i64 y))).ownsRow V.heap.size 136 2 (.slice (some ⟨gv,0,none⟩) n cap) n (pcells (l.set k (x,y)))∧GSp V ((W.setCell ⟨gv,k*2,none⟩ (.int .i64 x)).setCell ⟨gv,k*2+1,none⟩ (.int .i64 y)) g s:=by
 have hb:=row_base h.own gv rfl;refine⟨?_,(h.st.set _ _ _ hb).set _ _ _ hb⟩;rw[pcells_set l k x y (by omega)];exact((h.own.stored (k*2) (.int .i64 x)).1.stored (k*2+1) (.int .i64 y)).1
theorem AmB.cellk {gv cap k:Nat} (h:AmB V W g s bx x y (.slice (some ⟨gv,0,none⟩) n cap) n l) (hl:l.length=n) (hk:k<n) :
 W.cell? ⟨gv,k*2,none⟩=some (.int .i64 (l[k]'(by omega)).1)∧W.cell? ⟨gv,k*2+1,none⟩=some (.int .i64 (l[k]'(by omega)).2):=by
 have hc:=h.own.cells (g:=gv) rfl;have hlk:k<l.length:=by omega
 have e0:=flat_get (f:=pc) pc_len l k 0 hlk (by omega);have e1:=flat_get (f:=pc) pc_len l k 1 hlk (by omega);have h0:=hc (k*2) _ e0;have h1:=hc (k*2+1) _ e1;simp only[Addr.add]at h0 h1;refine⟨?_,?_⟩
 ·by_cases hz:k*2=0
  ·rw[if_pos hz]at h0;rw[hz];exact h0
  ·rw[if_neg hz,Nat.zero_add]at h0;exact h0
 ·rw[if_neg (by omega),Nat.zero_add]at h1;exact h1
theorem amtP_own {A:Option Addr} {c n0:Nat} {l0:List P2} {s0:Sd} (hF:amtF l0 s0=(l,s)) (h0:l0.length=n0) (ho:W.ownsRow V.heap.size 136 2 (.slice A n c) n (pcells l)) (hn:l.length=n) (hs:n<=n0+1) (hn0:n0<=1000) (hst:GSp V W g s)
 (hwf:∀p∈l,(-9223372036854775808<=p.1∧p.1<=9223372036854775807)∧-9223372036854775808<=p.2∧p.2<=9223372036854775807):AmtP V g l0 s0 (.returned (.slice A n c)) W :=
 ⟨A,n,c,l,s,hF,rfl,⟨TRow.of_own ho,hn.symm,by dsimp only;omega,hwf⟩,by omega,hst⟩
end
abbrev nums6:List Value:=[.int .i64 0,.int .i64 1,.int .i64 3,.int .i64 (-1),.int .i64 1099511627776,.int .i64 1099511627777]
theorem nums6_at (j:Nat) (h:j<6):nums6[j]? = some (.int .i64 (num6 j))∧-1<=num6 j∧num6 j<=1099511627777:=by
 rcases(show j=0∨j=1∨j=2∨j=3∨j=4∨j=5 by omega)with rfl|rfl|rfl|rfl|rfl|rfl
 ·exact⟨rfl,by decide,by decide⟩
 ·exact⟨rfl,by decide,by decide⟩
 ·exact⟨rfl,by decide,by decide⟩
 ·exact⟨rfl,by decide,by decide⟩
 ·exact⟨rfl,by decide,by decide⟩
 ·exact⟨rfl,by decide,by decide⟩
theorem pcells_one (l:List P2):∀u∈pcells l,u.oneCell'=true:=by
 intro u hu;simp only[pcells,List.mem_flatMap]at hu;obtain⟨p,_,hp⟩:=hu;simp only[pc,List.mem_cons,List.not_mem_nil,or_false]at hp;rcases hp with rfl|rfl <;> rfl
theorem wf_set {l:List P2} {k:Nat} {x y:Int} (h:∀p∈l,(-9223372036854775808<=p.1∧p.1<=9223372036854775807)∧-9223372036854775808<=p.2∧p.2<=9223372036854775807) (hx : -1<=x∧x<=100) (hy : -1<=y∧y<=1099511627777) :
 ∀p∈l.set k (x,y),(-9223372036854775808<=p.1∧p.1<=9223372036854775807)∧-9223372036854775808<=p.2∧p.2<=9223372036854775807:=fun p hp=>by
 rcases List.mem_or_eq_of_mem_set hp with h1|h1
 ·exact h p h1
 ·subst h1;dsimp only;omega
theorem wf_snoc {l:List P2} {x y:Int} (h:∀p∈l,(-9223372036854775808<=p.1∧p.1<=9223372036854775807)∧-9223372036854775808<=p.2∧p.2<=9223372036854775807) (hx : -1<=x∧x<=100) (hy : -1<=y∧y<=1099511627777) :
 ∀p∈l ++ [(x,y)],(-9223372036854775808<=p.1∧p.1<=9223372036854775807)∧-9223372036854775808<=p.2∧p.2<=9223372036854775807:=fun p hp=>by
 rcases List.mem_append.1 hp with h1|h1
 ·exact h p h1
 ·rw[List.mem_singleton.1 h1];dsimp only;omega
theorem amountsBent_p {w:World} {g:Nat} {sd:Sd} {s:Sl} {l:List P2} (h:GOkP w g sd) (hl:PrV w 136 s l) (hn:l.length<=1000):Calls Tryz.prog 112 #[.slice s.A s.n s.c,.pointer (some ⟨g,0,none⟩)] w (AmtP w g l sd):=by
 obtain⟨i0,hinf,hz0,hz1,hz2⟩:=info_parts info136;obtain⟨A,n,c⟩:=s;have hlen:l.length=n:=hl.len.symm;have Hlen:=iH hlen;have Hpl:Hid ((pcells l).length=n*2):=by show _=_;rw[pcells_length,hlen]
 have Hrow:Hid (Row w w.heap.size A (pcells l)):=hl.row.row;have Hwf:=iH hl.wf;have HG:=iH h;have hgl:=h.lt;rw[hlen]at hn;clear h hl hlen;go_enter Tryz.func112,Tryz.ntmps112;go_wp2_with(at_builtin;refine wpList_clone rfl (.tmp 7) (.tmp 8) 101 rfl w.heap.size 136 i0 (.agg #[.int .i64 0,.int .i64 0]) 2 16 Tryz.underlying101 hinf hz0 hz1 hz2 rfl (by decide) rfl A n c (pcells l) rfl Hpl.out Hrow.out (pcells_one l) (by unfold maxLen;omega) (by omega) (Nat.le_refl _) ?_);intro v w1 hown hb1;have HG1:=iH ((GSp.refl HG.out).below hb1);have HO1:=iH hown;have hs1:=hb1.size;clear hb1 hown HG Hrow Hpl;go_wp2_with fail;(with_reducible refine(next_p 11 HG1.out.ok (by omega) (by omega)).mono ?_);rintro e w2 ⟨x,hdx,rfl,x0,x1,hs⟩;have HDx:=iH hdx;clear hdx;have hs2:=hs.size;have HG2:=iH (HG1.out.trans hs);have HO2:=iH (hs.own HO1.out (fun e=>by have:=row_base HO1.out g e;omega));clear hs HG1 HO1;have kb:=Bk.new w2 3 nums6;have KB:=iH kb;have HG3:=iH (HG2.out.alloc (.cells nums6.toArray 3));have HO3:=iH (HO2.out.alloc (.cells nums6.toArray 3));clear kb HG2 HO2;dsimp only[nums6]at KB HG3 HO3;have K:Hid (Calls Tryz.prog 68 #[.pointer (some ⟨g,0,none⟩),.int .i64 6] (w2.alloc (.cells #[.int .i64 0,.int .i64 1,.int .i64 3,.int .i64 (-1),.int .i64 1099511627776,.int .i64 1099511627777] 3)) (NextP _ g (nx sd) 6)):=next_p 6 HG3.out.ok (by omega) (by omega);go_wp2_with fail;(with_reducible refine K.out.mono ?_);rintro e w3 ⟨q,hdq,rfl,q0,q1,hs⟩;obtain⟨j,rfl⟩:=Int.eq_ofNat_of_zero_le q0;have HDy:Hid (num6 (dr (nx sd) 6)=num6 j):=iH (by rw[hdq]);obtain⟨hy,y0,y1⟩:=nums6_at j (by omega);clear hdq;generalize num6 (j:Int)=y at *;have kb2:Bk w3 w2.heap.size 3 nums6:=hs.bk KB.out (by omega);have hc:w3.cell? ⟨w2.heap.size,j,none⟩=some (.int .i64 y):=(kb2.cell j).trans hy;have hl3:=kb2.lt;have HG4:=iH (HG3.out.trans hs);have HO4:=iH (hs.own HO3.out (fun e=>by have:=row_base HO3.out g e;omega));clear hs kb2 hy K KB HG3 HO3;obtain⟨A1,c1,hv,_⟩:=row_of_owns HO4.out;subst hv;have hfar:∀b,(Value.slice A1 n c1).ownBlock=some b->b<w3.heap.size:=fun b e=>(HO4.out.lt b e).2
 have HS0:Hid (AmB w (w3.alloc (.cells #[.int .i64 (x-1),.int .i64 y] 136)) g (nx (nx sd)) w3.heap.size (x-1) y (.slice A1 n c1) n l) :=
  ⟨HG4.out.alloc _,HO4.out.alloc _,Bk.new w3 136 [.int .i64 (x-1),.int .i64 y],by omega,hfar⟩
 clear HG4 HO4 hfar;go_upto_region 4 with fail;obtain⟨W4,hW4⟩:∃W4,w3.alloc (.cells #[.int .i64 (x-1),.int .i64 y] 136)=W4:=⟨_,rfl⟩;rw[hW4]at HS0⊢;obtain⟨bx,hbx⟩:∃bx,w3.heap.size=bx:=⟨_,rfl⟩;rw[hbx]at HS0⊢;obtain⟨z,hz⟩:∃z,x-1=z:=⟨_,rfl⟩;have hzb : -1<=z∧z<=100:=by omega
 have HXY:Hid (amtX sd=(z,y)):=iH (by unfold amtX;rw[HDx.out,HDy.out,hz]);rw[hz]at HS0⊢;clear HDx HDy;clear hW4 hbx hz hc hl3 hs2 hs1 x0 x1 q0 q1;obtain⟨x,hx⟩:∃x,z=x:=⟨_,rfl⟩;rw[hx]at HS0 hzb HXY⊢;clear hx;go_cut [26] (fun v wx=>∃q:Bool,v=.bool q∧amtQ n sd=q∧(q=true->0<n)∧AmB w wx g (if 0<n then nx (nx (nx sd)) else nx (nx sd)) bx x y (.slice A1 n c1) n l)
 case first =>
  rcases Nat.eq_zero_or_pos n with hn0|hn0
  ·subst hn0;go_wp2;go_meet;exact⟨false,rfl,rfl,fun e=>by simp at e,HS0.out⟩
  ·have e1:decide ((0:Int)<(n:Int))=true:=decide_eq_true (by omega);have e2:(0:Int)<(n:Int):=by omega
   go_wp2_with fail;(with_reducible refine(next_p 2 HS0.out.st.ok (by omega) (by omega)).mono ?_);rintro e w5 ⟨k,hdk,rfl,k0,k1,hs⟩;have HDk:=iH hdk;clear hdk;have HS5:=iH (HS0.out.next hs);clear hs HS0;obtain⟨q,hq⟩:∃q,(k == 0)=q:=⟨_,rfl⟩;go_wp2;go_meet;exact⟨_,rfl,by unfold amtQ;rw[HDk.out];simp[hn0,<- hq];rfl,fun _=>hn0,by rw[if_pos hn0];exact HS5.out⟩
 case rest =>
  clear HS0;obtain⟨q,rfl,hQ,hq,hS⟩:=hcut;have HQ:=iH hQ;clear hQ;have HS:=iH hS;clear hS;obtain⟨W5,hW⟩:∃W5,wc=W5:=⟨_,rfl⟩;rw[hW]at HS⊢;clear hW;cases q
  ·have y0':W5.cell? ⟨bx,0,none⟩=some (.int .i64 x):=HS.out.bk.cell 0;have y1':W5.cell? ⟨bx,1,none⟩=some (.int .i64 y):=HS.out.bk.cell 1;have yl:=HS.out.bk.lt;have HS6:=iH (HS.out.below ((Below.refl _ _).alloc (Nat.le_refl _) (.cells #[.int .i64 x,.int .i64 y] 136)));have hsz:=HS6.out.st.size;clear hq HS;go_wp2_with(at_builtin;refine wpList_append_lies _ rfl (.tmp 35) (.tmp 37) 101 rfl w.heap.size 136 i0 (.agg #[.int .i64 0,.int .i64 0]) 2 16 Tryz.underlying101 hinf hz0 hz1 hz2 rfl (by decide) _ n (pcells l) rfl HS6.out.own ⟨W5.heap.size,0,none⟩ 1 1 [.int .i64 x,.int .i64 y] rfl rfl (new2 _ _ _ _) (one2 _ _) (by omega) (by unfold maxLen;omega) (by omega) hsz (W5.heap.size+1) (by simp) ?_);intro g' cap w8 hown8 hgr8 _ _;have hb8:=row_base HS6.out.own;have HF:=iH (HS6.out.st.grow hgr8 hb8);have HO8:Hid (w8.ownsRow w.heap.size 136 2 (.slice (some ⟨g',0,none⟩) (n+1) cap) (n+1) (pcells (l ++ [(x,y)]))):=by show World.ownsRow _ _ _ _ _ _ _;rw[pcells_snoc];exact hown8
   clear hown8 hgr8 hb8 HS6;go_wp2;go_ret;exact amtP_own (by unfold amtF;rw[Hlen.out,HQ.out,HXY.out];rfl) Hlen.out HO8.out (by simp[Hlen.out]) (by omega) (by omega) HF.out (wf_snoc Hwf.out hzb ⟨y0,y1⟩)
  ·have hn0:=hq rfl;obtain⟨gv,cap,hv,_,_⟩:=HS.out.own.form hn0;cases hv;rw[if_pos hn0]at HS;have KI:Hid (Calls Tryz.prog 68 #[.pointer (some ⟨g,0,none⟩),.int .i64 (n:Int)] W5.drew (NextP W5.drew g (nx (nx (nx sd))) (n:Int))):=next_p (n:Int) (HS.out.below (Below.refl _ _).drew).st.ok (by omega) (by omega);have HS':=iH (HS.out.below (Below.refl _ _).drew);clear HS hq;have HS:=iH HS'.out;clear HS';go_wp2_with fail;refine wp_region_X (fun w'=>Bk w' bx 136 [.int .i64 x,.int .i64 y]) 7 (n:=8) rfl (by kernel_rfl) (HS.out.bk) (fun hS=>?_);refine tX 0 (some 27) (v:=?_) rfl ⟨rfl,?_⟩ hS ?_;rotate_left
   ·intro w' hS';(go_simp;try with_reducible rfl)
   refine tX 1 (some 28) (v:=?_) rfl ⟨rfl,?_⟩ hS ?_;rotate_left
   ·intro w' hS';(go_simp;try with_reducible rfl)
   refine tX 2 (some 29) (v:=?_) rfl ⟨rfl,?_⟩ hS ?_;rotate_left
   ·intro w' hS';(go_simp;try with_reducible rfl)
   refine tX 3 (some 30) (v:=?_) rfl ⟨rfl,?_⟩ hS ?_;rotate_left
   ·intro w' hS';(go_simp;try with_reducible rfl)
   refine tX 5 (some 32) (v:=?_) rfl ⟨rfl,?_⟩ hS ?_;rotate_left
   ·intro w' hS';have e0:=hS'.k0;have e1:=hS'.k1;have el:=hS'.lt;(go_simp;try with_reducible rfl)
   refine X_o 4 rfl fun K hK=>?_;go_simp;(with_reducible refine KI.out.mono ?_);rintro e w6 ⟨k0,hdk,rfl,k00,k01,hs⟩;obtain⟨k,rfl⟩:=Int.eq_ofNat_of_zero_le k00;have HDk:=iH hdk;clear hdk;have HS6:=iH (HS.out.next hs);refine hK _ _ HS6.out.bk ?_;clear hs hK k00;refine X_o 6 rfl fun K hK=>?_;go_simp;refine hK _ _ HS6.out.bk ?_;clear hK;refine X_tail (by kernel_rfl) ?_;refine A_one 7 (by kernel_rfl) rfl rfl (fun K hK=>?_);have hkn:k<n:=by omega
   have HP:=iH (HS6.out.put Hlen.out hkn);have zz:=HS6.out.cellk Hlen.out hkn;have z0:=zz.1;have z1:=zz.2;have f0:=HS6.out.own.frozenAt (k*2);have f1:=HS6.out.own.frozenAt (k*2+1);have gl:=(HS6.out.own.lt gv rfl).2;clear zz;go_simp;refine hK _ _ ?_;clear hK;refine A_done (by kernel_rfl) ?_;go_wp2;go_ret;exact amtP_own (by unfold amtF;rw[Hlen.out,HQ.out,if_pos rfl,HDk.out,HXY.out];rfl) Hlen.out HP.out.1 (by simp[Hlen.out]) (by omega) (by omega) HP.out.2 (wf_set Hwf.out hzb ⟨y0,y1⟩)
end
section
structure BxAt (V W : World) (g : Nat) (s : Sd) (ty : TypeId) (xs zs : List Value) : Prop where
 st:GSp V W g s
 bk:Bk W V.heap.size ty xs
 res:Bk W (V.heap.size+1) ty zs
section
variable {V W W' : World} {g : Nat} {s s' : Sd} {ty : TypeId} {xs zs : List Value}
theorem BxAt.next (h:BxAt V W g s ty xs zs) (k:GSp W W' g s'):BxAt V W' g s' ty xs zs :=
 ⟨h.st.trans k,k.bk h.bk (by have:=h.st.lt;omega),k.bk h.res (by have:=h.st.lt;omega)⟩
theorem BxAt.below (h:BxAt V W g s ty xs zs) (hb:Below W.heap.size W W'):BxAt V W' g s ty xs zs:=h.next ((GSp.refl h.st.ok).below hb)
theorem BxAt.set (h:BxAt V W g s ty xs zs) (k:Nat) (u:Value) (xs':List Value) (hx:xs.set k u=xs'):BxAt V (W.setCell ⟨V.heap.size,k,none⟩ u) g s ty xs' zs :=
 ⟨h.st.set _ _ _ (Nat.le_refl _),hx ▸ h.bk.set k u,h.res.far (by simp) _⟩
theorem BxAt.new {w:World} {g:Nat} {s:Sd} (h:GOkP w g s) (ty:TypeId) (xs zs:List Value):BxAt w ((w.alloc (.cells xs.toArray ty)).alloc (.cells zs.toArray ty)) g s ty xs zs:=by
 have k:=Bk.new (w.alloc (.cells xs.toArray ty)) ty zs;rw[World.size_alloc]at k;exact⟨((GSp.refl h).alloc _).alloc _,(Bk.new w ty xs).alloc _,k⟩
end
theorem lit_at {w W:World} {g:Nat} {s:Sd} {ty:TypeId} {xs:List Value} (hg:g<w.heap.size) (hs:GSp (w.alloc (.cells xs.toArray ty)) W g s) {j:Nat} {v:Value} (hv:xs[j]? = some v):W.cell? ⟨w.heap.size,j,none⟩=some v∧w.heap.size<W.heap.size:=by
 have k:=hs.bk (Bk.new w ty xs) (by omega);exact⟨(k.cell j).trans hv,k.lt⟩
abbrev names7:List Value:=[.string ⟨#[103,111,108,100]⟩,.string ⟨#[115,116,111,110,101]⟩,.string ⟨#[]⟩,.string ⟨#[66,105,103]⟩,.string ⟨#[97,98,99,100,101,102,103,104,105,106,107,108,109,110,111,112,113]⟩,.string ⟨#[97,32,98]⟩,.string ⟨#[105,114,111,110]⟩]
def names7F (k:Int):ByteArray:=([⟨#[103,111,108,100]⟩,⟨#[115,116,111,110,101]⟩,⟨#[]⟩,⟨#[66,105,103]⟩,⟨#[97,98,99,100,101,102,103,104,105,106,107,108,109,110,111,112,113]⟩,⟨#[97,32,98]⟩,⟨#[105,114,111,110]⟩]:List ByteArray)[k.toNat]?.getD ⟨#[]⟩
theorem names7_at (j:Nat) (h:j<7):names7[j]? = some (.string (names7F j))∧(names7F j).size<=8192:=by
 rcases(show j=0∨j=1∨j=2∨j=3∨j=4∨j=5∨j=6 by omega)with rfl|rfl|rfl|rfl|rfl|rfl|rfl
 ·exact⟨rfl,by decide⟩
 ·exact⟨rfl,by decide⟩
 ·exact⟨rfl,by decide⟩
 ·exact⟨rfl,by decide⟩
 ·exact⟨rfl,by decide⟩
 ·exact⟨rfl,by decide⟩
 ·exact⟨rfl,by decide⟩
abbrev names6:List Value:=[.string ⟨#[115,109,101,108,116]⟩,.string ⟨#[114,97,105,110]⟩,.string ⟨#[109,105,110,101]⟩,.string ⟨#[]⟩,.string ⟨#[66,105,103]⟩,.string ⟨#[102,111,114,103,101]⟩]
def names6F (k:Int):ByteArray:=([⟨#[115,109,101,108,116]⟩,⟨#[114,97,105,110]⟩,⟨#[109,105,110,101]⟩,⟨#[]⟩,⟨#[66,105,103]⟩,⟨#[102,111,114,103,101]⟩]:List ByteArray)[k.toNat]?.getD ⟨#[]⟩
theorem names6_at (j:Nat) (h:j<6):names6[j]? = some (.string (names6F j))∧(names6F j).size<=8192:=by
 rcases(show j=0∨j=1∨j=2∨j=3∨j=4∨j=5 by omega)with rfl|rfl|rfl|rfl|rfl|rfl
 ·exact⟨rfl,by decide⟩
 ·exact⟨rfl,by decide⟩
 ·exact⟨rfl,by decide⟩
 ·exact⟨rfl,by decide⟩
 ·exact⟨rfl,by decide⟩
 ·exact⟨rfl,by decide⟩
def itBF (t:It) (s:Sd):It×Sd :=
 if dr s 7=0 then({ t with name:=names7F (dr (nx s) 7) },nx (nx s)) else if dr s 7=1 then({ t with object:=!t.object },nx s) else if dr s 7=2 then({ t with mixed:=!t.mixed },nx s) else if dr s 7=3 then({ t with coin:=!t.coin },nx s)
 else if dr s 7=4 then({ t with wear:=num12 (dr (nx s) 12) },nx (nx s)) else if dr s 7=5 then({ t with bnd:=dr (nx s) 5-1 },nx (nx s)) else({ t with level:=num12 (dr (nx s) 12) },nx (nx s))
def ItP (V:World) (g:Nat) (t0:It) (s:Sd) (e:Ending) (W:World):Prop:=∃t s',itBF t0 s=(t,s')∧e=.returned t.val∧t.name.size<=8192∧GSp V W g s'
theorem itemBent_p {w:World} {g:Nat} {sd:Sd} (t:It) (h:GOkP w g sd) (hn:t.name.size<=8192):Calls Tryz.prog 82 #[t.val,.pointer (some ⟨g,0,none⟩)] w (ItP w g t sd):=by
 obtain⟨nm,ob,mi,co,we,bi,le⟩:=t;dsimp only at hn;have hgl:=h.lt;have HB0:=iH (BxAt.new h 89 [.string nm,.bool ob,.bool mi,.bool co,.int .i64 we,.int .i64 bi,.int .i64 le] [.string ⟨#[]⟩,.bool false,.bool false,.bool false,.int .i64 0,.int .i64 0,.int .i64 0]);clear h;go_enter Tryz.func82,Tryz.ntmps82;go_wp2_with fail;(with_reducible refine(next_p 7 HB0.out.st.ok (by omega) (by omega)).mono ?_);rintro e w1 ⟨k,hdk,rfl,k0,k1,hs⟩;have HB:=iH (HB0.out.next hs);clear hs HB0;go_upto_block 0 with fail;go_cut [2] (fun v wx=>v=.pointer (some ⟨w.heap.size,0,none⟩)∧∃(t:It) (s':Sd),itBF ⟨nm,ob,mi,co,we,bi,le⟩ sd=(t,s')∧t.name.size<=8192∧BxAt w wx g s' 89 t.cells [.string ⟨#[]⟩,.bool false,.bool false,.bool false,.int .i64 0,.int .i64 0,.int .i64 0])
 case first =>
  have hl1:=HB.out.bk.lt;rcases(show k=0∨k=1∨k=2∨k=3∨k=4∨k=5∨k=6 by omega)with rfl|rfl|rfl|rfl|rfl|rfl|rfl
  all_goals have HDk:=iH hdk
  all_goals clear hdk
  ·have K:Hid (Calls Tryz.prog 68 #[.pointer (some ⟨g,0,none⟩),.int .i64 7] (w1.alloc (.cells names7.toArray 9)) (NextP (w1.alloc (.cells names7.toArray 9)) g (nx sd) 7)):=next_p 7 ((HB.out.below ((Below.refl _ _).alloc (Nat.le_refl _) _)).st.ok) (by omega) (by omega);have HBa:=iH (HB.out.below ((Below.refl _ _).alloc (Nat.le_refl _) (.cells names7.toArray 9)));have hg1:g<w1.heap.size:=HB.out.st.ok.lt;dsimp only[names7]at K HBa;go_wp2_with fail;(with_reducible refine K.out.mono ?_);rintro e w2 ⟨j0,hdj,rfl,j00,j01,hs⟩;obtain⟨j,rfl⟩:=Int.eq_ofNat_of_zero_le j00;have HDn:Hid (names7F (dr (nx sd) 7)=names7F j):=iH (by rw[hdj]);obtain⟨hs1,hs2⟩:=names7_at j (by omega);clear hdj;generalize names7F (j:Int)=s at *;obtain⟨hc,hl2⟩:=lit_at hg1 hs hs1;have HB2:=iH (HBa.out.next hs);clear hs hs1 K HBa HB;have x':w2.cell? ⟨w.heap.size,0,none⟩=some (.string nm):=HB2.out.bk.cell 0;have f':=HB2.out.bk.frozen 0;have l':=HB2.out.bk.lt;have HE:=iH (HB2.out.set 0 (.string s) [.string s,.bool ob,.bool mi,.bool co,.int .i64 we,.int .i64 bi,.int .i64 le] rfl);clear HB2;go_wp2;go_meet;exact⟨rfl,⟨s,ob,mi,co,we,bi,le⟩,_,by simp[itBF,HDk.out,HDn.out],hs2,HE.out⟩
  ·have x':w1.cell? ⟨w.heap.size,1,none⟩=some (.bool ob):=HB.out.bk.cell 1;have f':=HB.out.bk.frozen 1;have l':=HB.out.bk.lt;have HE:=iH (HB.out.set 1 (.bool (!ob)) [.string nm,.bool (!ob),.bool mi,.bool co,.int .i64 we,.int .i64 bi,.int .i64 le] rfl);clear HB;go_wp2;go_meet;exact⟨rfl,⟨nm,(!ob),mi,co,we,bi,le⟩,_,by simp[itBF,HDk.out],hn,HE.out⟩
  ·have x':w1.cell? ⟨w.heap.size,2,none⟩=some (.bool mi):=HB.out.bk.cell 2;have f':=HB.out.bk.frozen 2;have l':=HB.out.bk.lt;have HE:=iH (HB.out.set 2 (.bool (!mi)) [.string nm,.bool ob,.bool (!mi),.bool co,.int .i64 we,.int .i64 bi,.int .i64 le] rfl);clear HB;go_wp2;go_meet;exact⟨rfl,⟨nm,ob,(!mi),co,we,bi,le⟩,_,by simp[itBF,HDk.out],hn,HE.out⟩
  ·have x':w1.cell? ⟨w.heap.size,3,none⟩=some (.bool co):=HB.out.bk.cell 3;have f':=HB.out.bk.frozen 3;have l':=HB.out.bk.lt;have HE:=iH (HB.out.set 3 (.bool (!co)) [.string nm,.bool ob,.bool mi,.bool (!co),.int .i64 we,.int .i64 bi,.int .i64 le] rfl);clear HB;go_wp2;go_meet;exact⟨rfl,⟨nm,ob,mi,(!co),we,bi,le⟩,_,by simp[itBF,HDk.out],hn,HE.out⟩
  ·go_wp2_with fail;(with_reducible refine(number_p HB.out.st.ok).mono ?_);rintro e w2 ⟨z,hdz,rfl,z0,hs⟩;have HDz:=iH hdz;clear hdz;have HB2:=iH (HB.out.next hs);clear hs HB z0;have x':w2.cell? ⟨w.heap.size,4,none⟩=some (.int .i64 we):=HB2.out.bk.cell 4;have f':=HB2.out.bk.frozen 4;have l':=HB2.out.bk.lt;have HE:=iH (HB2.out.set 4 (.int .i64 z) [.string nm,.bool ob,.bool mi,.bool co,.int .i64 z,.int .i64 bi,.int .i64 le] rfl);clear HB2;go_wp2;go_meet;exact⟨rfl,⟨nm,ob,mi,co,z,bi,le⟩,_,by simp[itBF,HDk.out,HDz.out],hn,HE.out⟩
  ·go_wp2_with fail;(with_reducible refine(next_p 5 HB.out.st.ok (by omega) (by omega)).mono ?_);rintro e w2 ⟨z,hdz,rfl,z0,z1,hs⟩;have HDz:=iH hdz;clear hdz;have HB2:=iH (HB.out.next hs);clear hs HB;have x':w2.cell? ⟨w.heap.size,5,none⟩=some (.int .i64 bi):=HB2.out.bk.cell 5;have f':=HB2.out.bk.frozen 5;have l':=HB2.out.bk.lt;have HE:=iH (HB2.out.set 5 (.int .i64 (z-1)) [.string nm,.bool ob,.bool mi,.bool co,.int .i64 we,.int .i64 (z-1),.int .i64 le] rfl);clear HB2;go_wp2;go_meet;exact⟨rfl,⟨nm,ob,mi,co,we,z-1,le⟩,_,by simp[itBF,HDk.out,HDz.out],hn,HE.out⟩
  ·go_wp2_with fail;(with_reducible refine(number_p HB.out.st.ok).mono ?_);rintro e w2 ⟨z,hdz,rfl,z0,hs⟩;have HDz:=iH hdz;clear hdz;have HB2:=iH (HB.out.next hs);clear hs HB z0;have x':w2.cell? ⟨w.heap.size,6,none⟩=some (.int .i64 le):=HB2.out.bk.cell 6;have f':=HB2.out.bk.frozen 6;have l':=HB2.out.bk.lt;have HE:=iH (HB2.out.set 6 (.int .i64 z) [.string nm,.bool ob,.bool mi,.bool co,.int .i64 we,.int .i64 bi,.int .i64 z] rfl);clear HB2;go_wp2;go_meet;exact⟨rfl,⟨nm,ob,mi,co,we,bi,z⟩,_,by simp[itBF,HDk.out,HDz.out],hn,HE.out⟩
 case rest =>
  obtain⟨rfl,⟨nm,ob,mi,co,we,bi,le⟩,s',hF,hn,hB⟩:=hcut;have HF:=iH hF;clear hF;dsimp only[It.cells]at hB hn;clear HB;have HB:=iH hB;clear hB;obtain⟨W5,hW⟩:∃W5,wc=W5:=⟨_,rfl⟩;rw[hW]at HB⊢;clear hW;have x0':W5.cell? ⟨w.heap.size,0,none⟩=some (.string nm):=HB.out.bk.cell 0;have r0':W5.cell? ⟨w.heap.size+1,0,none⟩=some (.string ⟨#[]⟩):=HB.out.res.cell 0;have f0':=HB.out.res.frozen 0;have x1':W5.cell? ⟨w.heap.size,1,none⟩=some (.bool ob):=HB.out.bk.cell 1;have r1':W5.cell? ⟨w.heap.size+1,1,none⟩=some (.bool false):=HB.out.res.cell 1;have f1':=HB.out.res.frozen 1;have x2':W5.cell? ⟨w.heap.size,2,none⟩=some (.bool mi):=HB.out.bk.cell 2;have r2':W5.cell? ⟨w.heap.size+1,2,none⟩=some (.bool false):=HB.out.res.cell 2;have f2':=HB.out.res.frozen 2;have x3':W5.cell? ⟨w.heap.size,3,none⟩=some (.bool co):=HB.out.bk.cell 3;have r3':W5.cell? ⟨w.heap.size+1,3,none⟩=some (.bool false):=HB.out.res.cell 3;have f3':=HB.out.res.frozen 3;have x4':W5.cell? ⟨w.heap.size,4,none⟩=some (.int .i64 we):=HB.out.bk.cell 4;have r4':W5.cell? ⟨w.heap.size+1,4,none⟩=some (.int .i64 0):=HB.out.res.cell 4;have f4':=HB.out.res.frozen 4;have x5':W5.cell? ⟨w.heap.size,5,none⟩=some (.int .i64 bi):=HB.out.bk.cell 5;have r5':W5.cell? ⟨w.heap.size+1,5,none⟩=some (.int .i64 0):=HB.out.res.cell 5;have f5':=HB.out.res.frozen 5;have x6':W5.cell? ⟨w.heap.size,6,none⟩=some (.int .i64 le):=HB.out.bk.cell 6;have r6':W5.cell? ⟨w.heap.size+1,6,none⟩=some (.int .i64 0):=HB.out.res.cell 6;have f6':=HB.out.res.frozen 6;have l1':=HB.out.bk.lt;have l2':=HB.out.res.lt;have q0:=HB.out.res;have s0:=HB.out.st;have q1:=q0.set 0 (.string nm);have s1:=s0.set (w.heap.size+1) 0 (.string nm) (by omega);have q2:=q1.set 1 (.bool ob);have s2:=s1.set (w.heap.size+1) 1 (.bool ob) (by omega);have q3:=q2.set 2 (.bool mi);have s3:=s2.set (w.heap.size+1) 2 (.bool mi) (by omega);have q4:=q3.set 3 (.bool co);have s4:=s3.set (w.heap.size+1) 3 (.bool co) (by omega);have q5:=q4.set 4 (.int .i64 we);have s5:=s4.set (w.heap.size+1) 4 (.int .i64 we) (by omega);have q6:=q5.set 5 (.int .i64 bi);have s6:=s5.set (w.heap.size+1) 5 (.int .i64 bi) (by omega);have q7:=q6.set 6 (.int .i64 le);have s7:=s6.set (w.heap.size+1) 6 (.int .i64 le) (by omega);have HQ:Hid ((((((((W5.setCell ⟨w.heap.size+1,0,none⟩ (.string nm)).setCell ⟨w.heap.size+1,1,none⟩ (.bool ob)).setCell ⟨w.heap.size+1,2,none⟩ (.bool mi)).setCell ⟨w.heap.size+1,3,none⟩ (.bool co)).setCell ⟨w.heap.size+1,4,none⟩ (.int .i64 we)).setCell ⟨w.heap.size+1,5,none⟩ (.int .i64 bi)).setCell ⟨w.heap.size+1,6,none⟩ (.int .i64 le)).heap[w.heap.size+1]? = some (.cells #[.string nm,.bool ob,.bool mi,.bool co,.int .i64 we,.int .i64 bi,.int .i64 le] 89 (0,0))):=q7;have HSt:=iH s7;clear q0 s0 q1 s1 q2 s2 q3 s3 q4 s4 q5 s5 q6 s6 q7 s7;clear HB;go_wp2;have t1:=HQ.out;refine bodyPost_ret (v:=.agg #[.string nm,.bool ob,.bool mi,.bool co,.int .i64 we,.int .i64 bi,.int .i64 le]) (by simp[results,Tryz.results82,go_sem,World.cell?,t1]) rfl ⟨⟨nm,ob,mi,co,we,bi,le⟩,s',HF.out,rfl,hn,HSt.out⟩
def ruBF (r:RuM) (s:Sd):RuM×Sd :=
 if dr s 9=0 then({ r.core with name:=names6F (dr (nx s) 6) },nx (nx s)) else if dr s 9=1 then({ r.core with spawn:=!r.spawn },nx s) else if dr s 9=2 then({ r.core with level:=num12 (dr (nx s) 12) },nx (nx s))
 else if dr s 9=3 then({ r.core with time:=num12 (dr (nx s) 12) },nx (nx s)) else if dr s 9=4 then({ r.core with chance:=num12 (dr (nx s) 12) },nx (nx s)) else if dr s 9=5 then({ r.core with of_:=num12 (dr (nx s) 12) },nx (nx s))
 else if dr s 9=6 then({ r.core with take:=(amtF r.take (nx s)).1 },(amtF r.take (nx s)).2) else if dr s 9=7 then({ r.core with give:=(amtF r.give (nx s)).1 },(amtF r.give (nx s)).2) else({ r.core with back:=(amtF r.back (nx s)).1 },(amtF r.back (nx s)).2)
def RuP (V:World) (g q:Nat) (r0:RuM) (s:Sd) (e:Ending) (W:World):Prop:=∃(r:RuM) (s':Sd),ruBF r0 s=(r.core,s')∧e=.returned r.val∧r.Ok W∧ruSmall (q+1) r∧GSp V W g s'
def RuX (V W:World) (g q:Nat) (r0:RuM) (s:Sd):Prop:=∃(r:RuM) (s':Sd),ruBF r0 s=(r.core,s')∧r.Ok W∧ruSmall (q+1) r∧BxAt V W g s' 103 r.cells [.string ⟨#[]⟩,.bool false,.int .i64 0,.int .i64 0,.int .i64 0,.int .i64 0,.slice none 0 0,.slice none 0 0,.slice none 0 0]
theorem RuM.Ok.next {V W:World} {g:Nat} {s s':Sd} {r:RuM} (h:r.Ok V) (k:GSp V W g s) (hg:GOkP V g s'):r.Ok W:=h.keep (k.keep hg 136 (by decide))
theorem RuM.Ok.set {V W:World} {g k:Nat} {s:Sd} {u:Value} {xs zs:List Value} {r:RuM} (h:r.Ok W) (hb:BxAt V W g s 103 xs zs):r.Ok (W.setCell ⟨V.heap.size,k,none⟩ u):=h.keep (Keep.setCell hb.bk (by decide) _)
theorem ruleBent_p {w:World} {g q:Nat} {sd:Sd} (r:RuM) (h:GOkP w g sd) (hr:r.Ok w) (hq:ruSmall q r) (hq9:q<=900):Calls Tryz.prog 83 #[r.val,.pointer (some ⟨g,0,none⟩)] w (RuP w g q r sd):=by
 obtain⟨nm,sp,le,ti,ch,of_,tk,gv,bk,⟨At,nt,ct⟩,⟨Ag,ng,cg⟩,⟨Ab,nb,cb⟩⟩:=r;have hgl:=h.lt;have HB0:=iH (BxAt.new h 103 [.string nm,.bool sp,.int .i64 le,.int .i64 ti,.int .i64 ch,.int .i64 of_,.slice At nt ct,.slice Ag ng cg,.slice Ab nb cb] [.string ⟨#[]⟩,.bool false,.int .i64 0,.int .i64 0,.int .i64 0,.int .i64 0,.slice none 0 0,.slice none 0 0,.slice none 0 0]);have HO0:=iH (hr.keep ((Keep.alloc 136 w (.cells #[.string nm,.bool sp,.int .i64 le,.int .i64 ti,.int .i64 ch,.int .i64 of_,.slice At nt ct,.slice Ag ng cg,.slice Ab nb cb] 103)).trans (Keep.alloc 136 _ (.cells #[.string ⟨#[]⟩,.bool false,.int .i64 0,.int .i64 0,.int .i64 0,.int .i64 0,.slice none 0 0,.slice none 0 0,.slice none 0 0] 103))));have hsm:ruSmall (q+1) ⟨nm,sp,le,ti,ch,of_,tk,gv,bk,⟨At,nt,ct⟩,⟨Ag,ng,cg⟩,⟨Ab,nb,cb⟩⟩:=⟨by have:=hq.1;omega,by have:=hq.2.1;omega,by have:=hq.2.2;omega⟩;have Hsm:=iH hsm;have Hq:=iH hq;clear h hr hsm hq;go_enter Tryz.func83,Tryz.ntmps83;go_wp2_with fail;(with_reducible refine(next_p 9 HB0.out.st.ok (by omega) (by omega)).mono ?_);rintro e w1 ⟨k,hdk,rfl,k0,k1,hs⟩;have HB:=iH (HB0.out.next hs);have HO:=iH (HO0.out.next hs HB0.out.st.ok);clear hs HB0 HO0;go_upto_block 0 with fail;go_cut [2] (fun v wx=>v=.pointer (some ⟨w.heap.size,0,none⟩)∧RuX w wx g q ⟨nm,sp,le,ti,ch,of_,tk,gv,bk,⟨At,nt,ct⟩,⟨Ag,ng,cg⟩,⟨Ab,nb,cb⟩⟩ sd)
 case first =>
  have hl1:=HB.out.bk.lt;rcases(show k=0∨k=1∨k=2∨k=3∨k=4∨k=5∨k=6∨k=7∨k=8 by omega)with rfl|rfl|rfl|rfl|rfl|rfl|rfl|rfl|rfl
  all_goals have HDk:=iH hdk
  all_goals clear hdk
  ·have K:Hid (Calls Tryz.prog 68 #[.pointer (some ⟨g,0,none⟩),.int .i64 6] (w1.alloc (.cells names6.toArray 9)) (NextP (w1.alloc (.cells names6.toArray 9)) g (nx sd) 6)):=next_p 6 ((HB.out.below ((Below.refl _ _).alloc (Nat.le_refl _) _)).st.ok) (by omega) (by omega);have HBa:=iH (HB.out.below ((Below.refl _ _).alloc (Nat.le_refl _) (.cells names6.toArray 9)));have hg1:g<w1.heap.size:=HB.out.st.ok.lt;dsimp only[names6]at K HBa;go_wp2_with fail;(with_reducible refine K.out.mono ?_);rintro e w2 ⟨j0,hdj,rfl,j00,j01,hs⟩;obtain⟨j,rfl⟩:=Int.eq_ofNat_of_zero_le j00;have HDn:Hid (names6F (dr (nx sd) 6)=names6F j):=iH (by rw[hdj]);obtain⟨hs1,hs2⟩:=names6_at j (by omega);clear hdj;generalize names6F (j:Int)=s at *;obtain⟨hc,hl2⟩:=lit_at hg1 hs hs1;have HB2:=iH (HBa.out.next hs);have HK2:=iH (hs.keep HBa.out.st.ok 136 (by decide));clear hs hs1 K HBa HB;have HO2:=iH ((HO.out.keep (Keep.alloc 136 w1 (.cells names6.toArray 9))).keep HK2.out);have x':w2.cell? ⟨w.heap.size,0,none⟩=some (.string nm):=HB2.out.bk.cell 0;have f':=HB2.out.bk.frozen 0;have l':=HB2.out.bk.lt;have HE:=iH (HB2.out.set 0 (.string s) [.string s,.bool sp,.int .i64 le,.int .i64 ti,.int .i64 ch,.int .i64 of_,.slice At nt ct,.slice Ag ng cg,.slice Ab nb cb] rfl);have HX:Hid (RuM.Ok (w2.setCell ⟨w.heap.size,0,none⟩ (.string s)) ⟨s,sp,le,ti,ch,of_,tk,gv,bk,⟨At,nt,ct⟩,⟨Ag,ng,cg⟩,⟨Ab,nb,cb⟩⟩):=RuM.Ok.set ⟨HO2.out.take,HO2.out.give,HO2.out.back,hs2⟩ HB2.out;clear HB2 HO2 HK2 HO;go_wp2;go_meet;exact⟨rfl,⟨s,sp,le,ti,ch,of_,tk,gv,bk,⟨At,nt,ct⟩,⟨Ag,ng,cg⟩,⟨Ab,nb,cb⟩⟩,_,by simp[ruBF,RuM.core,HDk.out,HDn.out],HX.out,Hsm.out,HE.out⟩
  ·have x':w1.cell? ⟨w.heap.size,1,none⟩=some (.bool sp):=HB.out.bk.cell 1;have f':=HB.out.bk.frozen 1;have l':=HB.out.bk.lt;have HE:=iH (HB.out.set 1 (.bool (!sp)) [.string nm,.bool (!sp),.int .i64 le,.int .i64 ti,.int .i64 ch,.int .i64 of_,.slice At nt ct,.slice Ag ng cg,.slice Ab nb cb] rfl);have HX:Hid (RuM.Ok (w1.setCell ⟨w.heap.size,1,none⟩ (.bool (!sp))) ⟨nm,(!sp),le,ti,ch,of_,tk,gv,bk,⟨At,nt,ct⟩,⟨Ag,ng,cg⟩,⟨Ab,nb,cb⟩⟩):=RuM.Ok.set ⟨HO.out.take,HO.out.give,HO.out.back,HO.out.name⟩ HB.out;clear HB HO;go_wp2;go_meet;exact⟨rfl,⟨nm,(!sp),le,ti,ch,of_,tk,gv,bk,⟨At,nt,ct⟩,⟨Ag,ng,cg⟩,⟨Ab,nb,cb⟩⟩,_,by simp[ruBF,RuM.core,HDk.out],HX.out,Hsm.out,HE.out⟩
  ·go_wp2_with fail;(with_reducible refine(number_p HB.out.st.ok).mono ?_);rintro e w2 ⟨z,hdz,rfl,z0,hs⟩;have HDz:=iH hdz;clear hdz;have HB2:=iH (HB.out.next hs);have HO2:=iH (HO.out.next hs HB.out.st.ok);clear hs HB HO z0;have x':w2.cell? ⟨w.heap.size,2,none⟩=some (.int .i64 le):=HB2.out.bk.cell 2;have f':=HB2.out.bk.frozen 2;have l':=HB2.out.bk.lt;have HE:=iH (HB2.out.set 2 (.int .i64 z) [.string nm,.bool sp,.int .i64 z,.int .i64 ti,.int .i64 ch,.int .i64 of_,.slice At nt ct,.slice Ag ng cg,.slice Ab nb cb] rfl);have HX:Hid (RuM.Ok (w2.setCell ⟨w.heap.size,2,none⟩ (.int .i64 z)) ⟨nm,sp,z,ti,ch,of_,tk,gv,bk,⟨At,nt,ct⟩,⟨Ag,ng,cg⟩,⟨Ab,nb,cb⟩⟩):=RuM.Ok.set ⟨HO2.out.take,HO2.out.give,HO2.out.back,HO2.out.name⟩ HB2.out;clear HB2 HO2;go_wp2;go_meet;exact⟨rfl,⟨nm,sp,z,ti,ch,of_,tk,gv,bk,⟨At,nt,ct⟩,⟨Ag,ng,cg⟩,⟨Ab,nb,cb⟩⟩,_,by simp[ruBF,RuM.core,HDk.out,HDz.out],HX.out,Hsm.out,HE.out⟩
  ·go_wp2_with fail;(with_reducible refine(number_p HB.out.st.ok).mono ?_);rintro e w2 ⟨z,hdz,rfl,z0,hs⟩;have HDz:=iH hdz;clear hdz;have HB2:=iH (HB.out.next hs);have HO2:=iH (HO.out.next hs HB.out.st.ok);clear hs HB HO z0;have x':w2.cell? ⟨w.heap.size,3,none⟩=some (.int .i64 ti):=HB2.out.bk.cell 3;have f':=HB2.out.bk.frozen 3;have l':=HB2.out.bk.lt;have HE:=iH (HB2.out.set 3 (.int .i64 z) [.string nm,.bool sp,.int .i64 le,.int .i64 z,.int .i64 ch,.int .i64 of_,.slice At nt ct,.slice Ag ng cg,.slice Ab nb cb] rfl);have HX:Hid (RuM.Ok (w2.setCell ⟨w.heap.size,3,none⟩ (.int .i64 z)) ⟨nm,sp,le,z,ch,of_,tk,gv,bk,⟨At,nt,ct⟩,⟨Ag,ng,cg⟩,⟨Ab,nb,cb⟩⟩):=RuM.Ok.set ⟨HO2.out.take,HO2.out.give,HO2.out.back,HO2.out.name⟩ HB2.out;clear HB2 HO2;go_wp2;go_meet;exact⟨rfl,⟨nm,sp,le,z,ch,of_,tk,gv,bk,⟨At,nt,ct⟩,⟨Ag,ng,cg⟩,⟨Ab,nb,cb⟩⟩,_,by simp[ruBF,RuM.core,HDk.out,HDz.out],HX.out,Hsm.out,HE.out⟩
  ·go_wp2_with fail;(with_reducible refine(number_p HB.out.st.ok).mono ?_);rintro e w2 ⟨z,hdz,rfl,z0,hs⟩;have HDz:=iH hdz;clear hdz;have HB2:=iH (HB.out.next hs);have HO2:=iH (HO.out.next hs HB.out.st.ok);clear hs HB HO z0;have x':w2.cell? ⟨w.heap.size,4,none⟩=some (.int .i64 ch):=HB2.out.bk.cell 4;have f':=HB2.out.bk.frozen 4;have l':=HB2.out.bk.lt;have HE:=iH (HB2.out.set 4 (.int .i64 z) [.string nm,.bool sp,.int .i64 le,.int .i64 ti,.int .i64 z,.int .i64 of_,.slice At nt ct,.slice Ag ng cg,.slice Ab nb cb] rfl);have HX:Hid (RuM.Ok (w2.setCell ⟨w.heap.size,4,none⟩ (.int .i64 z)) ⟨nm,sp,le,ti,z,of_,tk,gv,bk,⟨At,nt,ct⟩,⟨Ag,ng,cg⟩,⟨Ab,nb,cb⟩⟩):=RuM.Ok.set ⟨HO2.out.take,HO2.out.give,HO2.out.back,HO2.out.name⟩ HB2.out;clear HB2 HO2;go_wp2;go_meet;exact⟨rfl,⟨nm,sp,le,ti,z,of_,tk,gv,bk,⟨At,nt,ct⟩,⟨Ag,ng,cg⟩,⟨Ab,nb,cb⟩⟩,_,by simp[ruBF,RuM.core,HDk.out,HDz.out],HX.out,Hsm.out,HE.out⟩
  ·go_wp2_with fail;(with_reducible refine(number_p HB.out.st.ok).mono ?_);rintro e w2 ⟨z,hdz,rfl,z0,hs⟩;have HDz:=iH hdz;clear hdz;have HB2:=iH (HB.out.next hs);have HO2:=iH (HO.out.next hs HB.out.st.ok);clear hs HB HO z0;have x':w2.cell? ⟨w.heap.size,5,none⟩=some (.int .i64 of_):=HB2.out.bk.cell 5;have f':=HB2.out.bk.frozen 5;have l':=HB2.out.bk.lt;have HE:=iH (HB2.out.set 5 (.int .i64 z) [.string nm,.bool sp,.int .i64 le,.int .i64 ti,.int .i64 ch,.int .i64 z,.slice At nt ct,.slice Ag ng cg,.slice Ab nb cb] rfl);have HX:Hid (RuM.Ok (w2.setCell ⟨w.heap.size,5,none⟩ (.int .i64 z)) ⟨nm,sp,le,ti,ch,z,tk,gv,bk,⟨At,nt,ct⟩,⟨Ag,ng,cg⟩,⟨Ab,nb,cb⟩⟩):=RuM.Ok.set ⟨HO2.out.take,HO2.out.give,HO2.out.back,HO2.out.name⟩ HB2.out;clear HB2 HO2;go_wp2;go_meet;exact⟨rfl,⟨nm,sp,le,ti,ch,z,tk,gv,bk,⟨At,nt,ct⟩,⟨Ag,ng,cg⟩,⟨Ab,nb,cb⟩⟩,_,by simp[ruBF,RuM.core,HDk.out,HDz.out],HX.out,Hsm.out,HE.out⟩
  ·have KA:Hid (Calls Tryz.prog 112 #[.slice At nt ct,.pointer (some ⟨g,0,none⟩)] w1 (AmtP w1 g tk (nx sd))):=amountsBent_p (s:=⟨At,nt,ct⟩) HB.out.st.ok HO.out.take (by have:=Hq.out.1;dsimp only at this;omega);have x':w1.cell? ⟨w.heap.size,6,none⟩=some (.slice At nt ct):=HB.out.bk.cell 6;have f':=HB.out.bk.frozen 6;have l':=HB.out.bk.lt;go_wp2_with fail;(with_reducible refine KA.out.mono ?_);rintro e w2 ⟨A2,m2,c2,l2,sa,hFa,rfl,hp2,hl2,hs⟩;have HFa:=iH hFa;clear hFa;have HB2:=iH (HB.out.next hs);have HO2:=iH (HO.out.next hs HB.out.st.ok);clear hs HB HO KA x' f' l';have x':w2.cell? ⟨w.heap.size,6,none⟩=some (.slice At nt ct):=HB2.out.bk.cell 6;have f':=HB2.out.bk.frozen 6;have l':=HB2.out.bk.lt;have HE:=iH (HB2.out.set 6 (.slice A2 m2 c2) [.string nm,.bool sp,.int .i64 le,.int .i64 ti,.int .i64 ch,.int .i64 of_,.slice A2 m2 c2,.slice Ag ng cg,.slice Ab nb cb] rfl);have HX:Hid (RuM.Ok (w2.setCell ⟨w.heap.size,6,none⟩ (.slice A2 m2 c2)) ⟨nm,sp,le,ti,ch,of_,l2,gv,bk,⟨A2,m2,c2⟩,⟨Ag,ng,cg⟩,⟨Ab,nb,cb⟩⟩):=RuM.Ok.set ⟨hp2,HO2.out.give,HO2.out.back,HO2.out.name⟩ HB2.out;have HY:Hid (ruSmall (q+1) ⟨nm,sp,le,ti,ch,of_,l2,gv,bk,⟨A2,m2,c2⟩,⟨Ag,ng,cg⟩,⟨Ab,nb,cb⟩⟩):=⟨(by have:=Hq.out.1;dsimp only at this⊢;omega),Hsm.out.2.1,Hsm.out.2.2⟩;clear HB2 HO2 hp2 hl2;go_wp2;go_meet;exact⟨rfl,⟨nm,sp,le,ti,ch,of_,l2,gv,bk,⟨A2,m2,c2⟩,⟨Ag,ng,cg⟩,⟨Ab,nb,cb⟩⟩,_,by simp[ruBF,RuM.core,HDk.out,HFa.out],HX.out,HY.out,HE.out⟩
  ·have KA:Hid (Calls Tryz.prog 112 #[.slice Ag ng cg,.pointer (some ⟨g,0,none⟩)] w1 (AmtP w1 g gv (nx sd))):=amountsBent_p (s:=⟨Ag,ng,cg⟩) HB.out.st.ok HO.out.give (by have:=Hq.out.2.1;dsimp only at this;omega);have x':w1.cell? ⟨w.heap.size,7,none⟩=some (.slice Ag ng cg):=HB.out.bk.cell 7;have f':=HB.out.bk.frozen 7;have l':=HB.out.bk.lt;go_wp2_with fail;(with_reducible refine KA.out.mono ?_);rintro e w2 ⟨A2,m2,c2,l2,sa,hFa,rfl,hp2,hl2,hs⟩;have HFa:=iH hFa;clear hFa;have HB2:=iH (HB.out.next hs);have HO2:=iH (HO.out.next hs HB.out.st.ok);clear hs HB HO KA x' f' l';have x':w2.cell? ⟨w.heap.size,7,none⟩=some (.slice Ag ng cg):=HB2.out.bk.cell 7;have f':=HB2.out.bk.frozen 7;have l':=HB2.out.bk.lt;have HE:=iH (HB2.out.set 7 (.slice A2 m2 c2) [.string nm,.bool sp,.int .i64 le,.int .i64 ti,.int .i64 ch,.int .i64 of_,.slice At nt ct,.slice A2 m2 c2,.slice Ab nb cb] rfl);have HX:Hid (RuM.Ok (w2.setCell ⟨w.heap.size,7,none⟩ (.slice A2 m2 c2)) ⟨nm,sp,le,ti,ch,of_,tk,l2,bk,⟨At,nt,ct⟩,⟨A2,m2,c2⟩,⟨Ab,nb,cb⟩⟩):=RuM.Ok.set ⟨HO2.out.take,hp2,HO2.out.back,HO2.out.name⟩ HB2.out;have HY:Hid (ruSmall (q+1) ⟨nm,sp,le,ti,ch,of_,tk,l2,bk,⟨At,nt,ct⟩,⟨A2,m2,c2⟩,⟨Ab,nb,cb⟩⟩):=⟨Hsm.out.1,(by have:=Hq.out.2.1;dsimp only at this⊢;omega),Hsm.out.2.2⟩;clear HB2 HO2 hp2 hl2;go_wp2;go_meet;exact⟨rfl,⟨nm,sp,le,ti,ch,of_,tk,l2,bk,⟨At,nt,ct⟩,⟨A2,m2,c2⟩,⟨Ab,nb,cb⟩⟩,_,by simp[ruBF,RuM.core,HDk.out,HFa.out],HX.out,HY.out,HE.out⟩
  ·have KA:Hid (Calls Tryz.prog 112 #[.slice Ab nb cb,.pointer (some ⟨g,0,none⟩)] w1 (AmtP w1 g bk (nx sd))):=amountsBent_p (s:=⟨Ab,nb,cb⟩) HB.out.st.ok HO.out.back (by have:=Hq.out.2.2;dsimp only at this;omega);have x':w1.cell? ⟨w.heap.size,8,none⟩=some (.slice Ab nb cb):=HB.out.bk.cell 8;have f':=HB.out.bk.frozen 8;have l':=HB.out.bk.lt;go_wp2_with fail;(with_reducible refine KA.out.mono ?_);rintro e w2 ⟨A2,m2,c2,l2,sa,hFa,rfl,hp2,hl2,hs⟩;have HFa:=iH hFa;clear hFa;have HB2:=iH (HB.out.next hs);have HO2:=iH (HO.out.next hs HB.out.st.ok);clear hs HB HO KA x' f' l';have x':w2.cell? ⟨w.heap.size,8,none⟩=some (.slice Ab nb cb):=HB2.out.bk.cell 8;have f':=HB2.out.bk.frozen 8;have l':=HB2.out.bk.lt;have HE:=iH (HB2.out.set 8 (.slice A2 m2 c2) [.string nm,.bool sp,.int .i64 le,.int .i64 ti,.int .i64 ch,.int .i64 of_,.slice At nt ct,.slice Ag ng cg,.slice A2 m2 c2] rfl);have HX:Hid (RuM.Ok (w2.setCell ⟨w.heap.size,8,none⟩ (.slice A2 m2 c2)) ⟨nm,sp,le,ti,ch,of_,tk,gv,l2,⟨At,nt,ct⟩,⟨Ag,ng,cg⟩,⟨A2,m2,c2⟩⟩):=RuM.Ok.set ⟨HO2.out.take,HO2.out.give,hp2,HO2.out.name⟩ HB2.out;have HY:Hid (ruSmall (q+1) ⟨nm,sp,le,ti,ch,of_,tk,gv,l2,⟨At,nt,ct⟩,⟨Ag,ng,cg⟩,⟨A2,m2,c2⟩⟩):=⟨Hsm.out.1,Hsm.out.2.1,(by have:=Hq.out.2.2;dsimp only at this⊢;omega)⟩;clear HB2 HO2 hp2 hl2;go_wp2;go_meet;exact⟨rfl,⟨nm,sp,le,ti,ch,of_,tk,gv,l2,⟨At,nt,ct⟩,⟨Ag,ng,cg⟩,⟨A2,m2,c2⟩⟩,_,by simp[ruBF,RuM.core,HDk.out,HFa.out],HX.out,HY.out,HE.out⟩
 case rest =>
  clear HB HO Hsm Hq;obtain⟨rfl,⟨nm,sp,le,ti,ch,of_,tk,gv,bk,⟨At,nt,ct⟩,⟨Ag,ng,cg⟩,⟨Ab,nb,cb⟩⟩,s',hF,hok,hsm,hB⟩:=hcut;have HF:=iH hF;clear hF;have HB:=iH hB;have HOK:=iH hok;have Hsm:=iH hsm;clear hB hok hsm;dsimp only[RuM.cells]at HB;obtain⟨W5,hW⟩:∃W5,wc=W5:=⟨_,rfl⟩;rw[hW]at HB HOK⊢;clear hW;have x0':W5.cell? ⟨w.heap.size,0,none⟩=some (.string nm):=HB.out.bk.cell 0;have r0':W5.cell? ⟨w.heap.size+1,0,none⟩=some (.string ⟨#[]⟩):=HB.out.res.cell 0;have f0':=HB.out.res.frozen 0;have x1':W5.cell? ⟨w.heap.size,1,none⟩=some (.bool sp):=HB.out.bk.cell 1;have r1':W5.cell? ⟨w.heap.size+1,1,none⟩=some (.bool false):=HB.out.res.cell 1;have f1':=HB.out.res.frozen 1;have x2':W5.cell? ⟨w.heap.size,2,none⟩=some (.int .i64 le):=HB.out.bk.cell 2;have r2':W5.cell? ⟨w.heap.size+1,2,none⟩=some (.int .i64 0):=HB.out.res.cell 2;have f2':=HB.out.res.frozen 2;have x3':W5.cell? ⟨w.heap.size,3,none⟩=some (.int .i64 ti):=HB.out.bk.cell 3;have r3':W5.cell? ⟨w.heap.size+1,3,none⟩=some (.int .i64 0):=HB.out.res.cell 3;have f3':=HB.out.res.frozen 3;have x4':W5.cell? ⟨w.heap.size,4,none⟩=some (.int .i64 ch):=HB.out.bk.cell 4;have r4':W5.cell? ⟨w.heap.size+1,4,none⟩=some (.int .i64 0):=HB.out.res.cell 4;have f4':=HB.out.res.frozen 4;have x5':W5.cell? ⟨w.heap.size,5,none⟩=some (.int .i64 of_):=HB.out.bk.cell 5;have r5':W5.cell? ⟨w.heap.size+1,5,none⟩=some (.int .i64 0):=HB.out.res.cell 5;have f5':=HB.out.res.frozen 5;have x6':W5.cell? ⟨w.heap.size,6,none⟩=some (.slice At nt ct):=HB.out.bk.cell 6;have r6':W5.cell? ⟨w.heap.size+1,6,none⟩=some (.slice none 0 0):=HB.out.res.cell 6;have f6':=HB.out.res.frozen 6;have x7':W5.cell? ⟨w.heap.size,7,none⟩=some (.slice Ag ng cg):=HB.out.bk.cell 7;have r7':W5.cell? ⟨w.heap.size+1,7,none⟩=some (.slice none 0 0):=HB.out.res.cell 7;have f7':=HB.out.res.frozen 7;have x8':W5.cell? ⟨w.heap.size,8,none⟩=some (.slice Ab nb cb):=HB.out.bk.cell 8;have r8':W5.cell? ⟨w.heap.size+1,8,none⟩=some (.slice none 0 0):=HB.out.res.cell 8;have f8':=HB.out.res.frozen 8;have l1':=HB.out.bk.lt;have l2':=HB.out.res.lt;have q0:=HB.out.res;have s0:=HB.out.st;have q1:=q0.set 0 (.string nm);have s1:=s0.set (w.heap.size+1) 0 (.string nm) (by omega);have q2:=q1.set 1 (.bool sp);have s2:=s1.set (w.heap.size+1) 1 (.bool sp) (by omega);have q3:=q2.set 2 (.int .i64 le);have s3:=s2.set (w.heap.size+1) 2 (.int .i64 le) (by omega);have q4:=q3.set 3 (.int .i64 ti);have s4:=s3.set (w.heap.size+1) 3 (.int .i64 ti) (by omega);have q5:=q4.set 4 (.int .i64 ch);have s5:=s4.set (w.heap.size+1) 4 (.int .i64 ch) (by omega);have q6:=q5.set 5 (.int .i64 of_);have s6:=s5.set (w.heap.size+1) 5 (.int .i64 of_) (by omega);have q7:=q6.set 6 (.slice At nt ct);have s7:=s6.set (w.heap.size+1) 6 (.slice At nt ct) (by omega);have q8:=q7.set 7 (.slice Ag ng cg);have s8:=s7.set (w.heap.size+1) 7 (.slice Ag ng cg) (by omega);have q9:=q8.set 8 (.slice Ab nb cb);have s9:=s8.set (w.heap.size+1) 8 (.slice Ab nb cb) (by omega);have hk:=HOK.out.keep (((((((((Keep.setCell (k:=0) q0 (by decide) (.string nm)).trans (Keep.setCell (k:=1) q1 (by decide) (.bool sp))).trans (Keep.setCell (k:=2) q2 (by decide) (.int .i64 le))).trans (Keep.setCell (k:=3) q3 (by decide) (.int .i64 ti))).trans (Keep.setCell (k:=4) q4 (by decide) (.int .i64 ch))).trans (Keep.setCell (k:=5) q5 (by decide) (.int .i64 of_))).trans (Keep.setCell (k:=6) q6 (by decide) (.slice At nt ct))).trans (Keep.setCell (k:=7) q7 (by decide) (.slice Ag ng cg))).trans (Keep.setCell (k:=8) q8 (by decide) (.slice Ab nb cb)));have HQ:Hid ((((((((((W5.setCell ⟨w.heap.size+1,0,none⟩ (.string nm)).setCell ⟨w.heap.size+1,1,none⟩ (.bool sp)).setCell ⟨w.heap.size+1,2,none⟩ (.int .i64 le)).setCell ⟨w.heap.size+1,3,none⟩ (.int .i64 ti)).setCell ⟨w.heap.size+1,4,none⟩ (.int .i64 ch)).setCell ⟨w.heap.size+1,5,none⟩ (.int .i64 of_)).setCell ⟨w.heap.size+1,6,none⟩ (.slice At nt ct)).setCell ⟨w.heap.size+1,7,none⟩ (.slice Ag ng cg)).setCell ⟨w.heap.size+1,8,none⟩ (.slice Ab nb cb)).heap[w.heap.size+1]? = some (.cells #[.string nm,.bool sp,.int .i64 le,.int .i64 ti,.int .i64 ch,.int .i64 of_,.slice At nt ct,.slice Ag ng cg,.slice Ab nb cb] 103 (0,0))):=q9;have HSt:=iH s9;have HK:=iH hk;clear hk q0 s0 q1 s1 q2 s2 q3 s3 q4 s4 q5 s5 q6 s6 q7 s7 q8 s8 q9 s9;clear HB;go_wp2;have t1:=HQ.out;refine bodyPost_ret (v:=.agg #[.string nm,.bool sp,.int .i64 le,.int .i64 ti,.int .i64 ch,.int .i64 of_,.slice At nt ct,.slice Ag ng cg,.slice Ab nb cb]) (by simp[results,Tryz.results83,go_sem,World.cell?,t1]) rfl ⟨⟨nm,sp,le,ti,ch,of_,tk,gv,bk,⟨At,nt,ct⟩,⟨Ag,ng,cg⟩,⟨Ab,nb,cb⟩⟩,s',HF.out,rfl,HK.out,Hsm.out,HSt.out⟩
end
section
theorem BxAt.fin2 {V W:World} {g n c:Nat} {s:Sd} {ty:TypeId} {nm:ByteArray} {A:Option Addr} (h:BxAt V W g s ty [.string nm,.slice A n c] [.string ⟨#[]⟩,.slice none 0 0]) :
 GSp V ((W.setCell ⟨V.heap.size+1,0,none⟩ (.string nm)).setCell ⟨V.heap.size+1,1,none⟩ (.slice A n c)) g s ∧
 (∀q,q≠ty->Keep q W ((W.setCell ⟨V.heap.size+1,0,none⟩ (.string nm)).setCell ⟨V.heap.size+1,1,none⟩ (.slice A n c))) ∧
 ((W.setCell ⟨V.heap.size+1,0,none⟩ (.string nm)).setCell ⟨V.heap.size+1,1,none⟩ (.slice A n c)).heap[V.heap.size+1]? = some (.cells #[.string nm,.slice A n c] ty (0,0)):=by
 have q0:=h.res;have q1:=q0.set 0 (.string nm);have q2:=q1.set 1 (.slice A n c);exact⟨(h.st.set _ _ _ (by omega)).set _ _ _ (by omega),fun q hq=>(Keep.setCell (k:=0) q0 (Ne.symm hq) (.string nm)).trans (Keep.setCell (k:=1) q1 (Ne.symm hq) (.slice A n c)),q2⟩
theorem TbM.Ok.keeps {W W':World} {t:TbM} (h:t.Ok W) (h1:Keep 109 W W') (h2:Keep 136 W W'):t.Ok W':=⟨h.rows.keep h1 h2,h.name⟩
theorem TxM.Ok.keeps {W W':World} {t:TxM} (h:t.Ok W) (h1:Keep 129 W W'):t.Ok W':=⟨h.brs.keep h1,h.name⟩
theorem own_cut {α:Type} {f:α->List Value} (hf:∀x,(f x).length=2) {w:World} {base g cap n k:Nat} {e:TypeId} {l:List α} (h:w.ownsRow base e 2 (.slice (some ⟨g,0,none⟩) n cap) n (l.flatMap f)) (hn:l.length=n) (hk:k<=n) :
 w.ownsRow base e 2 (.slice (some ⟨g,0,none⟩) k cap) k ((l.take k).flatMap f):=by
 have hl:=h.1
 have hbt : (l.take k).flatMap f = (l.flatMap f).take (k * 2) := by
  clear h hl hn hk
  induction l generalizing k with
  | nil=>simp
  | cons x r ih =>
    cases k with
    | zero=>simp
    | succ k =>
      have e:(k+1)*2=(f x).length+k*2:=by rw[hf];omega
      rw[e,List.take_succ_cons,List.flatMap_cons,List.flatMap_cons,ih,List.take_length_add_append]
 refine⟨by rw[flat_len hf,List.length_take];omega,?_⟩;rcases h.2 with ⟨h0,_⟩|⟨g',cap',cur,hv,hb,hg,hc,hm,hs,ht⟩
 ·cases h0
 ·right;obtain⟨rfl,rfl⟩:g=g'∧cap=cap':=by simpa using hv
  refine⟨g,cap,cur,rfl,hb,hg,by omega,hm,hs,?_⟩;rw[hbt,<- ht,List.take_take];congr 1;omega
abbrev names4x:List Value:=[.string ⟨#[115,97,108,101]⟩,.string ⟨#[115,116,97,108,108]⟩,.string ⟨#[]⟩,.string ⟨#[66,105,103]⟩]
def names4xF (k:Int):ByteArray:=([⟨#[115,97,108,101]⟩,⟨#[115,116,97,108,108]⟩,⟨#[]⟩,⟨#[66,105,103]⟩]:List ByteArray)[k.toNat]?.getD ⟨#[]⟩
theorem names4x_at (j:Nat) (h:j<4):names4x[j]? = some (.string (names4xF j))∧(names4xF j).size<=8192:=by
 rcases(show j=0∨j=1∨j=2∨j=3 by omega)with rfl|rfl|rfl|rfl
 ·exact⟨rfl,by decide⟩
 ·exact⟨rfl,by decide⟩
 ·exact⟨rfl,by decide⟩
 ·exact⟨rfl,by decide⟩
abbrev names4t:List Value:=[.string ⟨#[99,104,101,115,116]⟩,.string ⟨#[104,101,114,98]⟩,.string ⟨#[]⟩,.string ⟨#[66,105,103]⟩]
def names4tF (k:Int):ByteArray:=([⟨#[99,104,101,115,116]⟩,⟨#[104,101,114,98]⟩,⟨#[]⟩,⟨#[66,105,103]⟩]:List ByteArray)[k.toNat]?.getD ⟨#[]⟩
theorem names4t_at (j:Nat) (h:j<4):names4t[j]? = some (.string (names4tF j))∧(names4tF j).size<=8192:=by
 rcases(show j=0∨j=1∨j=2∨j=3 by omega)with rfl|rfl|rfl|rfl
 ·exact⟨rfl,by decide⟩
 ·exact⟨rfl,by decide⟩
 ·exact⟨rfl,by decide⟩
 ·exact⟨rfl,by decide⟩
def WfP (l:List P2):Prop:=∀p∈l,(-9223372036854775808<=p.1∧p.1<=9223372036854775807)∧-9223372036854775808<=p.2∧p.2<=9223372036854775807
theorem WfP.snoc {l:List P2} {x y:Int} (h:WfP l) (hx:In64 x) (hy:In64 y):WfP (l ++ [(x,y)]):=fun p hp=>by
 rcases List.mem_append.1 hp with h1|h1
 ·exact h p h1
 ·rw[List.mem_singleton.1 h1];exact⟨hx,hy⟩
theorem WfP.take {l:List P2} (h:WfP l) (k:Nat):WfP (l.take k):=fun p hp=>h p (List.mem_of_mem_take hp)
def downB:Nat->List P2
 | 0=>[]
 | k+1=>(100000-((k+1:Nat):Int),((k+1:Nat):Int)) :: downB k
theorem downB_app (l:List P2) (k:Nat) (h:0<k):l ++ [(100000-(k:Int),(k:Int))] ++ downB (k-1)=l ++ downB k:=by
 cases k with
 | zero=>omega
 | succ k=>simp[downB]
def txBF (t:TxM) (s:Sd):TxM×Sd :=
 if dr s 3=0 then({ t.core with name:=names4xF (dr (nx s) 4) },nx (nx s)) else if dr s 3=1 then({ t.core with brs:=t.brs ++ [(num12 (dr (nx s) 12),num12 (dr (nx (nx s)) 12))] },nx (nx (nx s)))
 else({ t.core with brs:=t.brs.take (if dr (nx s) 2<=(t.brs.length:Int) then(dr (nx s) 2).toNat else t.brs.length) ++ downB (dr (nx (nx s)) 20).toNat },nx (nx (nx s)))
structure XsAt (V W : World) (g : Nat) (s : Sd) (nm : ByteArray) (vb v : Value) (n : Nat) (l : List P2) : Prop where
 bx:BxAt V W g s 115 [.string nm,vb] [.string ⟨#[]⟩,.slice none 0 0]
 own:W.ownsRow V.heap.size 129 2 v n (pcells l)
 len:l.length=n
 wf:WfP l
section
variable {V W W' : World} {g n : Nat} {s s' : Sd} {nm : ByteArray} {vb v : Value} {l : List P2}
theorem XsAt.next (h:XsAt V W g s nm vb v n l) (k:GSp W W' g s'):XsAt V W' g s' nm vb v n l :=
 ⟨h.bx.next k,k.own h.own (fun e=>by have:=row_base h.own g e;have:=h.bx.st.lt;omega),h.len,h.wf⟩
theorem XsAt.below (h:XsAt V W g s nm vb v n l) (hb:Below W.heap.size W W'):XsAt V W' g s nm vb v n l:=h.next ((GSp.refl h.bx.st.ok).below hb)
theorem XsAt.app {v':Value} {x y:Int} {m:Nat} (h:XsAt V W g s nm vb v n l) (hg:W.grownBy W' v.ownBlock) (ho:W'.ownsRow V.heap.size 129 2 v' m (pcells l ++ [.int .i64 x,.int .i64 y])) (hm:m=n+1) (hx:In64 x) (hy:In64 y):XsAt V W' g s nm vb v' m (l ++ [(x,y)]):=by
 have hbase:=row_base h.own;exact⟨⟨h.bx.st.grow hg hbase,h.bx.bk.grown hg (fun e=>row_neT h.own h.bx.bk (by decide) e.symm),h.bx.res.grown hg (fun e=>row_neT h.own h.bx.res (by decide) e.symm)⟩,by rw[pcells_snoc];exact ho,by simp[h.len,hm],h.wf.snoc hx hy⟩
theorem XsAt.put (h:XsAt V W g s nm vb v n l) (u:Value):XsAt V (W.setCell ⟨V.heap.size,1,none⟩ u) g s nm u v n l :=
 ⟨h.bx.set 1 u _ rfl,h.own.kept (grown_setCell W _ 1 u) (.inr (row_neT h.own h.bx.bk (by decide))),h.len,h.wf⟩
def TxP (V:World) (g:Nat) (t0:TxM) (sd:Sd) (e:Ending) (W:World):Prop:=∃(t:TxM) (s':Sd),txBF t0 sd=(t.core,s')∧e=.returned t.val∧t.Ok W∧GSp V W g s'
theorem XsAt.fin {A:Option Addr} {c:Nat} {t0:TxM} {sd:Sd} (h:XsAt V W g s nm (.slice A n c) (.slice A n c) n l) (hn:n<=1000) (hs:nm.size<=8192) (hF:txBF t0 sd=(⟨nm,l,sz0⟩,s)) :
 TxP V g t0 sd (.returned (.agg #[.string nm,.slice A n c])) ((W.setCell ⟨V.heap.size+1,0,none⟩ (.string nm)).setCell ⟨V.heap.size+1,1,none⟩ (.slice A n c)):=by
 obtain⟨f1,f2,_⟩:=h.bx.fin2;have hl:=h.len;exact⟨⟨nm,l,⟨A,n,c⟩⟩,s,hF,rfl,TxM.Ok.keeps ⟨⟨TRow.of_own h.own,hl.symm,by dsimp only;omega,h.wf⟩,hs⟩ (f2 129 (by decide)),f1⟩
end
theorem bracketsBent_p {w:World} {g:Nat} {sd:Sd} (t:TxM) (h:GOkP w g sd) (ht:t.Ok w) (hn9:t.brs.length<=500):Calls Tryz.prog 85 #[t.val,.pointer (some ⟨g,0,none⟩)] w (TxP w g t sd):=by
 obtain⟨i0,hinf,hz0,hz1,hz2⟩:=info_parts info129;obtain⟨nm,l,⟨A,n,c⟩⟩:=t;have hgl:=h.lt;have hlen:l.length=n:=ht.brs.len.symm;dsimp only at hn9;rw[hlen]at hn9;have HT:=iH ht;have HG0:=iH h;have Hpl:Hid ((pcells l).length=n*2):=by show _=_;rw[pcells_length,hlen]
 have hB0:=BxAt.new h 115 [.string nm,.slice A n c] [.string ⟨#[]⟩,.slice none 0 0];have hrow:Row _ _ A (pcells l):=(ht.brs.row.keep ((Keep.alloc 129 w (.cells #[.string nm,.slice A n c] 115)).trans (Keep.alloc 129 _ (.cells #[.string ⟨#[]⟩,.slice none 0 0] 115)))).row;have Hrow:=iH hrow;have HB0:=iH hB0;have hnm:=ht.name;dsimp only at hnm;have Hlen:=iH hlen;have HW:=iH (show WfP l from ht.brs.wf);clear h ht hB0 hrow hlen;go_enter Tryz.func85,Tryz.ntmps85;go_wp2_with(at_builtin;refine wpList_clone rfl (.tmp 7) (.tmp 9) 113 rfl w.heap.size 129 i0 (.agg #[.int .i64 0,.int .i64 0]) 2 16 Tryz.underlying113 hinf hz0 hz1 hz2 rfl (by decide) rfl A n c (pcells l) rfl Hpl.out Hrow.out (pcells_one l) (by unfold maxLen;omega) (by omega) (by simp;omega) ?_);intro v w1 hown hb1;have HS1:Hid (XsAt w w1 g sd nm (.slice A n c) v n l):=⟨HB0.out.below (by simp only[World.size_alloc];exact hb1),hown,Hlen.out,HW.out⟩;clear hb1 hown HB0 Hrow Hpl;go_wp2_with fail;(with_reducible refine(next_p 3 HS1.out.bx.st.ok (by omega) (by omega)).mono ?_);rintro e w2 ⟨k,hdk,rfl,k0,k1,hs⟩;have HDk:=iH hdk;clear hdk;have HS:=iH (HS1.out.next hs);clear hs HS1;obtain⟨W1,hW⟩:∃W1,w2=W1:=⟨_,rfl⟩;rw[hW]at HS⊢;clear hW;go_upto_block 0 with fail;go_cut [5] (fun v wx=>∃(m:Nat) (l':List P2) (s':Sd),txBF ⟨nm,l,⟨A,n,c⟩⟩ sd=(⟨nm,l',sz0⟩,s')∧m<=1000∧XsAt w wx g s' nm (.slice A n c) v m l')
 case first =>
  rcases(show k=0∨k=1∨k=2 by omega)with rfl|rfl|rfl
  ·have K:Hid (Calls Tryz.prog 68 #[.pointer (some ⟨g,0,none⟩),.int .i64 4] (W1.alloc (.cells names4x.toArray 9)) (NextP (W1.alloc (.cells names4x.toArray 9)) g (nx sd) 4)):=next_p 4 ((HS.out.below ((Below.refl _ _).alloc (Nat.le_refl _) _)).bx.st.ok) (by omega) (by omega);have HBa:=iH (HS.out.below ((Below.refl _ _).alloc (Nat.le_refl _) (.cells names4x.toArray 9)));have hg1:g<W1.heap.size:=HS.out.bx.st.ok.lt;dsimp only[names4x]at K HBa;go_wp2_with fail;(with_reducible refine K.out.mono ?_);rintro e w2 ⟨j0,hdj,rfl,j00,j01,hs⟩;obtain⟨j,rfl⟩:=Int.eq_ofNat_of_zero_le j00;have HDn:Hid (names4xF (dr (nx sd) 4)=names4xF j):=iH (by rw[hdj]);obtain⟨hs1,hs2⟩:=names4x_at j (by omega);clear hdj;generalize names4xF (j:Int)=s at *;obtain⟨hc,hl2⟩:=lit_at hg1 hs hs1;have HB2:=iH (HBa.out.next hs);clear hs hs1 K HBa HS;have x':w2.cell? ⟨w.heap.size,0,none⟩=some (.string nm):=HB2.out.bx.bk.cell 0;have f':=HB2.out.bx.bk.frozen 0;have l':=HB2.out.bx.bk.lt;have HE:=iH (HB2.out.bx.set 0 (.string s) [.string s,.slice A n c] rfl);have HTk:Hid (TxM.Ok ((((w2.setCell ⟨w.heap.size,0,none⟩ (.string s)).setCell ⟨w.heap.size+1,0,none⟩ (.string s)).setCell ⟨w.heap.size+1,1,none⟩ (.slice A n c))) ⟨s,l,⟨A,n,c⟩⟩) :=
    TxM.Ok.keeps ⟨(HT.out.brs.keep (HB2.out.bx.st.keep HG0.out 129 (by decide))).keep (Keep.setCell HB2.out.bx.bk (by decide) _),hs2⟩ (HE.out.fin2.2.1 129 (by decide))
   have HP:Hid (TxP w g ⟨nm,l,⟨A,n,c⟩⟩ sd (.returned (.agg #[.string s,.slice A n c])) ((((w2.setCell ⟨w.heap.size,0,none⟩ (.string s)).setCell ⟨w.heap.size+1,0,none⟩ (.string s)).setCell ⟨w.heap.size+1,1,none⟩ (.slice A n c)))):=⟨⟨s,l,⟨A,n,c⟩⟩,_,by simp[txBF,TxM.core,HDk.out,HDn.out],rfl,HTk.out,HE.out.fin2.1⟩;have z1:=HB2.out.bx.bk.k1;have y0:=HB2.out.bx.res.k0;have y1:=HB2.out.bx.res.k1;have f0:=HB2.out.bx.res.frozen 0;have f1:=HB2.out.bx.res.frozen 1;have l2:=HB2.out.bx.res.lt;have HQ:=iH HE.out.fin2.2.2;clear HE HTk HB2 HT;go_wp2;have t1:=HQ.out;refine bodyPost_ret (v:=.agg #[.string s,.slice A n c]) (by simp[results,Tryz.results85,go_sem,World.cell?,t1]) rfl HP.out
  ·go_wp2_with fail;(with_reducible refine(number_p HS.out.bx.st.ok).mono ?_);rintro e w3 ⟨x,hdx,rfl,hx,hs⟩;have HDx:=iH hdx;clear hdx;have HS3:=iH (HS.out.next hs);have Hx:=iH hx;clear hs HS hx;go_wp2_with fail;(with_reducible refine(number_p HS3.out.bx.st.ok).mono ?_);rintro e w4 ⟨y,hdy,rfl,hy,hs⟩;have HDy:=iH hdy;clear hdy;have HS4:=iH ((HS3.out.next hs).below ((Below.refl _ _).alloc (Nat.le_refl _) (.cells #[.int .i64 x,.int .i64 y] 129)));have Hy:=iH hy;have hsz:=HS4.out.bx.st.size;clear hs HS3 hy;go_wp2_with(at_builtin;refine wpList_append_lies _ rfl (.tmp 24) (.tmp 30) 113 rfl w.heap.size 129 i0 (.agg #[.int .i64 0,.int .i64 0]) 2 16 Tryz.underlying113 hinf hz0 hz1 hz2 rfl (by decide) _ n (pcells l) rfl HS4.out.own ⟨w4.heap.size,0,none⟩ 1 1 [.int .i64 x,.int .i64 y] rfl rfl (new2 _ _ _ _) (one2 _ _) (by omega) (by unfold maxLen;omega) (by omega) hsz (w4.heap.size+1) (by simp) ?_);intro g' cap w8 hown8 hgr8 _ _;have HE:=iH (HS4.out.app hgr8 hown8 rfl Hx.out Hy.out);clear hown8 hgr8 HS4;go_wp2;go_meet;exact⟨n+1,_,_,by simp[txBF,TxM.core,HDk.out,HDx.out,HDy.out],by omega,HE.out⟩
  ·go_wp2_with fail;(with_reducible refine(next_p 2 HS.out.bx.st.ok (by omega) (by omega)).mono ?_);rintro e w3 ⟨x,hdx,rfl,x0,x1,hs⟩;have HDx:=iH hdx;clear hdx;have HS3:=iH (HS.out.next hs);clear hs HS;by_cases hxn:x<=(n:Int)
   ·obtain⟨k0,rfl⟩:=Int.eq_ofNat_of_zero_le x0;have hkn:k0<=n:=by omega
    have hCut:∃(A':Option Addr) (c':Nat),v=.slice A' n c'∧k0<=c'∧XsAt w w3 g (nx (nx sd)) nm (.slice A n c) (.slice A' k0 c') k0 (l.take k0):=by
     obtain⟨A',c',hv,_⟩:=row_of_owns HS3.out.own;subst hv;rcases HS3.out.own.2 with ⟨h0,h1⟩|⟨g',cap',cur,hv',_⟩
     ·cases h0;obtain rfl:k0=0:=by omega
      exact⟨none,0,rfl,Nat.le_refl _,⟨HS3.out.bx,by rw[List.take_zero];exact World.ownsRow_nil _ _ _ _,by simp,HW.out.take 0⟩⟩
     ·cases hv';have:=own_cap HS3.out.own;exact⟨_,_,rfl,by omega,⟨HS3.out.bx,own_cut pc_len HS3.out.own HS3.out.len hkn,by rw[List.length_take,HS3.out.len];omega,HW.out.take k0⟩⟩
    obtain⟨A',c',rfl,hkc,hS4⟩:=hCut;have HS4:=iH hS4;clear hS4 HS3;have mk0:(0:Int)<=(k0:Int):=by omega
    have mk1:(k0:Int)<=(c':Int):=by omega
    go_wp2_with fail;(with_reducible refine(next_p 20 HS4.out.bx.st.ok (by omega) (by omega)).mono ?_);rintro e w4 ⟨y,hdy,rfl,y0,y1,hs⟩;obtain⟨k1,rfl⟩:=Int.eq_ofNat_of_zero_le y0;have HDy:=iH hdy;clear hdy;have HS5:=iH (HS4.out.next hs);clear hs HS4;go_wp2_with fail;obtain⟨LF,hLF⟩:∃LF,l.take k0 ++ downB k1=LF:=⟨_,rfl⟩;have HLF:Hid (txBF ⟨nm,l,⟨A,n,c⟩⟩ sd=(⟨nm,LF,sz0⟩,nx (nx (nx sd)))):=iH (by rw[<- hLF];simp[txBF,TxM.core,HDk.out,HDx.out,HDy.out,Hlen.out,hkn]);go_loopw [5,6] (fun v x wr=>∃(k m:Nat) (l':List P2),x=.int .i64 k∧k<=20∧m+k<=600∧l' ++ downB k=LF∧XsAt w wr g (nx (nx (nx sd))) nm (.slice A n c) v m l') (fun _ x _=>(intOf x).toNat)
    case atStart=>exact⟨k1,k0,_,rfl,by omega,by omega,hLF,HS5.out⟩
    case round =>
     clear HS5;clear hLF;obtain⟨k,m,l',rfl,hk20,hmk,hLk,hS⟩:=hrel;have HLk:=iH hLk;clear hLk;have HS6:=iH hS;clear hS;by_cases hk:0<k
     ·have HS7:=iH (HS6.out.below ((Below.refl _ _).alloc (Nat.le_refl _) (.cells #[.int .i64 (100000-(k:Int)),.int .i64 (k:Int)] 129)));have hsz:=HS7.out.bx.st.size;clear HS6;go_wp2_with(at_builtin;refine wpList_append_lies _ rfl (.tmp 47) (.tmp 52) 113 rfl w.heap.size 129 i0 (.agg #[.int .i64 0,.int .i64 0]) 2 16 Tryz.underlying113 hinf hz0 hz1 hz2 rfl (by decide) _ m (pcells l') rfl HS7.out.own ⟨wr.heap.size,0,none⟩ 1 1 [.int .i64 (100000-(k:Int)),.int .i64 (k:Int)] rfl rfl (new2 _ _ _ _) (one2 _ _) (by omega) (by unfold maxLen;omega) (by omega) hsz (wr.heap.size+1) (by simp) ?_);intro g' cap w8 hown8 hgr8 _ _;have HE:=iH (HS7.out.app hgr8 hown8 rfl (by unfold In64;omega) (by unfold In64;omega));clear hown8 hgr8 HS7;go_wp2;go_roundw
      case rel=>exact⟨k-1,m+1,_,by go_num,by omega,by omega,(downB_app l' k hk).trans HLk.out,HE.out⟩
      case measure=>simp[intOf];omega
     ·obtain rfl:k=0:=by omega
      go_wp2;go_meet;exact⟨m,l',_,by rw[HLF.out,<- HLk.out];simp[downB],by omega,HS6.out⟩
   ·have hkn:n<=n:=Nat.le_refl _;have hxn2:(n:Int)<x:=by omega
    have hCut:∃(A':Option Addr) (c':Nat),v=.slice A' n c'∧n<=c'∧XsAt w w3 g (nx (nx sd)) nm (.slice A n c) (.slice A' n c') n (l.take n):=by
     obtain⟨A',c',hv,_⟩:=row_of_owns HS3.out.own;subst hv;rcases HS3.out.own.2 with ⟨h0,h1⟩|⟨g',cap',cur,hv',_⟩
     ·cases h0;exact⟨none,0,rfl,Nat.le_refl _,⟨HS3.out.bx,by rw[List.take_zero];exact World.ownsRow_nil _ _ _ _,by simp,HW.out.take 0⟩⟩
     ·cases hv';have:=own_cap HS3.out.own;exact⟨_,_,rfl,by omega,⟨HS3.out.bx,own_cut pc_len HS3.out.own HS3.out.len hkn,by rw[List.length_take,HS3.out.len];omega,HW.out.take n⟩⟩
    obtain⟨A',c',rfl,hkc,hS4⟩:=hCut;have HS4:=iH hS4;clear hS4 HS3;have mk0:(0:Int)<=(n:Int):=by omega
    have mk1:(n:Int)<=(c':Int):=by omega
    go_wp2_with fail;(with_reducible refine(next_p 20 HS4.out.bx.st.ok (by omega) (by omega)).mono ?_);rintro e w4 ⟨y,hdy,rfl,y0,y1,hs⟩;obtain⟨k1,rfl⟩:=Int.eq_ofNat_of_zero_le y0;have HDy:=iH hdy;clear hdy;have HS5:=iH (HS4.out.next hs);clear hs HS4;go_wp2_with fail;obtain⟨LF,hLF⟩:∃LF,l.take n ++ downB k1=LF:=⟨_,rfl⟩;have HLF:Hid (txBF ⟨nm,l,⟨A,n,c⟩⟩ sd=(⟨nm,LF,sz0⟩,nx (nx (nx sd)))):=iH (by rw[<- hLF];simp[txBF,TxM.core,HDk.out,HDx.out,HDy.out,Hlen.out,if_neg (show ¬ x<=(n:Int) by omega)]);go_loopw [5,6] (fun v x wr=>∃(k m:Nat) (l':List P2),x=.int .i64 k∧k<=20∧m+k<=600∧l' ++ downB k=LF∧XsAt w wr g (nx (nx (nx sd))) nm (.slice A n c) v m l') (fun _ x _=>(intOf x).toNat)
    case atStart=>exact⟨k1,n,_,rfl,by omega,by omega,hLF,HS5.out⟩
    case round =>
     clear HS5;clear hLF;obtain⟨k,m,l',rfl,hk20,hmk,hLk,hS⟩:=hrel;have HLk:=iH hLk;clear hLk;have HS6:=iH hS;clear hS;by_cases hk:0<k
     ·have HS7:=iH (HS6.out.below ((Below.refl _ _).alloc (Nat.le_refl _) (.cells #[.int .i64 (100000-(k:Int)),.int .i64 (k:Int)] 129)));have hsz:=HS7.out.bx.st.size;clear HS6;go_wp2_with(at_builtin;refine wpList_append_lies _ rfl (.tmp 47) (.tmp 52) 113 rfl w.heap.size 129 i0 (.agg #[.int .i64 0,.int .i64 0]) 2 16 Tryz.underlying113 hinf hz0 hz1 hz2 rfl (by decide) _ m (pcells l') rfl HS7.out.own ⟨wr.heap.size,0,none⟩ 1 1 [.int .i64 (100000-(k:Int)),.int .i64 (k:Int)] rfl rfl (new2 _ _ _ _) (one2 _ _) (by omega) (by unfold maxLen;omega) (by omega) hsz (wr.heap.size+1) (by simp) ?_);intro g' cap w8 hown8 hgr8 _ _;have HE:=iH (HS7.out.app hgr8 hown8 rfl (by unfold In64;omega) (by unfold In64;omega));clear hown8 hgr8 HS7;go_wp2;go_roundw
      case rel=>exact⟨k-1,m+1,_,by go_num,by omega,by omega,(downB_app l' k hk).trans HLk.out,HE.out⟩
      case measure=>simp[intOf];omega
     ·obtain rfl:k=0:=by omega
      go_wp2;go_meet;exact⟨m,l',_,by rw[HLF.out,<- HLk.out];simp[downB],by omega,HS6.out⟩
 case rest =>
  clear HS HT HW;obtain⟨m,l',s',hF,hm,hS⟩:=hcut;have HFF:=iH hF;clear hF;obtain⟨A5,c5,rfl,_⟩:=row_of_owns hS.own;have HS:=iH hS;clear hS;obtain⟨W5,hW⟩:∃W5,wc=W5:=⟨_,rfl⟩;rw[hW]at HS⊢;clear hW;have z1:=HS.out.bx.bk.k1;have z0:=HS.out.bx.bk.k0;have g1:=HS.out.bx.bk.frozen 1;have y0:=HS.out.bx.res.k0;have y1:=HS.out.bx.res.k1;have f0:=HS.out.bx.res.frozen 0;have f1:=HS.out.bx.res.frozen 1;have l1:=HS.out.bx.bk.lt;have l2:=HS.out.bx.res.lt;have HP:=iH (HS.out.put (.slice A5 m c5));have HQ:=iH HP.out.bx.fin2.2.2;have HF:=iH (HP.out.fin hm hnm HFF.out);clear HS HP;go_wp2;have t1:=HQ.out;refine bodyPost_ret (v:=.agg #[.string nm,.slice A5 m c5]) (by simp[results,Tryz.results85,go_sem,World.cell?,t1]) rfl HF.out
end
end Go.Proofs.YthjfdfdgbpbanaaGreatDoor
