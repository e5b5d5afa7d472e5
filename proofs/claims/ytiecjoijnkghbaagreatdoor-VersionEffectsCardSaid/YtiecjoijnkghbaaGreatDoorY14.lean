/- The generator of changed catalogs: a copy of a row, a number, a changed amount list. Cores of catalogs. slices.SortFunc on at most 12 amounts: they come by their items. The closures of version.Merge and version.rewrite: an item's new place; amounts with new items, sorted. version.rewrite on any catalog with short amount lists. -/
import Derived.Test.YtiecjoijnkghbaaGreatDoorY5
import Derived.Test.YtiecjoijnkghbaaGreatDoorY11
import Derived.Test.YtiecjoijnkghbaaGreatDoorY13
import Derived.Laws.AppendOwnNone
import Derived.StillTailTactics
set_option linter.unusedVariables false
set_option linter.unusedSimpArgs false
set_option maxRecDepth 100000
set_option maxHeartbeats 4000000
open Go.RowKit
namespace Go.Proofs.YtiecjoijnkghbaaGreatDoor
section
set_option linter.unusedVariables false
set_option linter.unusedSimpArgs false
section
section
variable {P : Program} {w : World}
theorem run_clone_nil (t ty e:TypeId) (i:TypeInfo) (ht:P.underlying t=some (.slice e)) (hi:P.info? e=some i) (c:Nat) :
 (Builtin.append_ #[t,t] ty #[.slice none 0 0,.slice none 0 c]).run P w=.ok (.slice none 0 0) w:=by
 simp[Builtin.append_,run_underlying ht,sizeOf,typeInfo,hi,Builtin.lenOf,Builtin.firstCells]
theorem wpList_clone {ops:Array Oper} {rest:List Oper} {o:Oper} {a:Act} {Q:Exit->Act->World->Prop} (hgd:o.guard=none) (s x:Operand) (t:TypeId)
 (ho:o.op=.call { callee:=.builtin .append,args:=#[s,x],argTypes:=#[t,t] })
 (base:Nat) (e:TypeId) (i:TypeInfo) (z:Value) (size bytes:Nat) (ht:P.underlying t=some (.slice e)) (hi:P.info? e=some i) (hz:i.zero=some z)
 (hsize:i.size=size) (hby:i.bytes=bytes) (hzs:z.cells.size=size) (hsz:0<size) (hs:a.eval s=.slice none 0 0)
 (A:Option Addr) (m c:Nat) (news:List Value) (hx:a.eval x=.slice A m c) (hl:news.length=m*size) (hr:Row w w.heap.size A news) (h1:∀u∈news,u.oneCell'=true)
 (h63:m<=maxLen) (hbytes:m*bytes<=140737488355328) (hbase:base<=w.heap.size)
 (h:∀v' w',w'.ownsRow base e size v' m news->Below w.heap.size w w'->wpList P ops Q rest (a.put o.dst v') w'):wpList P ops Q (o :: rest) a w:=by
 have key:∀ad:Addr,A=some ad->(∀j u,news[j]? = some u->w.cell? (ad.add j)=some u)->wpList P ops Q (o :: rest) a w:=fun ad hA hc=>by
  subst hA;refine wpList_append_own_at _ hgd s x t ho base e i z size bytes ht hi hz hsize hby hzs hsz _ 0 [] hs (World.ownsRow_nil _ _ _ _) ad m c news hx hl hc h1 (by omega) (by rw[Nat.zero_add];exact hbytes) hbase fun v' w' h2 h3 _ _=>h v' w' (by simpa using h2) ⟨h3.os,h3.tape,h3.output,h3.size,fun b hb=>h3.block b hb (by simp[Value.ownBlock])⟩
 rcases hr with h0|⟨b,off,hA,hb,hc⟩
 ·cases A with
  | some ad=>exact key ad rfl (fun j u hu=>by rw[h0]at hu;simp at hu)
  | none =>
    have hm:m=0:=by
     rw[h0]at hl;rcases Nat.eq_zero_or_pos m with e|e
     ·exact e
     ·have:=Nat.mul_pos e hsz;simp at hl;omega
    subst hm;refine wpList_plain hgd fun K hK=>?_
    have hrun:=run_clone_nil (P:=P) (w:=w) t o.type e i ht hi c;unfold Oper.wp;simp[execOp,ho,resolve,invoke,builtin,hs,hx,hrun,Result.andThen];refine hK _ _ (h _ _ ?_ (Below.refl _ _));rw[h0];exact World.ownsRow_nil _ _ _ _
 ·refine key _ hA fun j u hu=>?_
  have e1:(⟨b,off,none⟩:Addr).add j=⟨b,off+j,none⟩:=by
   unfold Addr.add;split
   ·subst_vars;rfl
   ·rfl
  rw[e1];exact hc j u hu
end
def num12 (k:Int):Int:=([0,1,-1,2,100,101,1000000,1000001,1048576,1048577,10000,10001]:List Int)[k.toNat]?.getD 0
def NumP (V:World) (g:Nat) (s:Sd) (e:Ending) (W:World):Prop:=∃x,num12 (dr s 12)=x∧e=.returned (.int .i64 x)∧In64 x∧GSp V W g (nx s)
abbrev nums12:List Value:=[.int .i64 0,.int .i64 1,.int .i64 (-1),.int .i64 2,.int .i64 100,.int .i64 101,.int .i64 1000000,.int .i64 1000001,.int .i64 1048576,.int .i64 1048577,.int .i64 10000,.int .i64 10001]
theorem nums12_at (j:Nat) (h:j<12):nums12[j]? = some (.int .i64 (num12 j))∧In64 (num12 j):=by
 rcases(show j=0∨j=1∨j=2∨j=3∨j=4∨j=5∨j=6∨j=7∨j=8∨j=9∨j=10∨j=11 by omega)with rfl|rfl|rfl|rfl|rfl|rfl|rfl|rfl|rfl|rfl|rfl|rfl
 ·exact⟨rfl,by unfold In64;decide⟩
 ·exact⟨rfl,by unfold In64;decide⟩
 ·exact⟨rfl,by unfold In64;decide⟩
 ·exact⟨rfl,by unfold In64;decide⟩
 ·exact⟨rfl,by unfold In64;decide⟩
 ·exact⟨rfl,by unfold In64;decide⟩
 ·exact⟨rfl,by unfold In64;decide⟩
 ·exact⟨rfl,by unfold In64;decide⟩
 ·exact⟨rfl,by unfold In64;decide⟩
 ·exact⟨rfl,by unfold In64;decide⟩
 ·exact⟨rfl,by unfold In64;decide⟩
 ·exact⟨rfl,by unfold In64;decide⟩
theorem number_p {w:World} {g:Nat} {s:Sd} (h:GOkP w g s):Calls Tryz.prog 241 #[.pointer (some ⟨g,0,none⟩)] w (NumP w g s):=by
 have kb:=Bk.new w 3 nums12;have H1:=iH (((GSp.refl h).alloc (.cells nums12.toArray 3)));have hg:=h.lt;have KB:=iH kb;clear h kb;dsimp only[nums12]at H1 KB;have K:Hid (Calls Tryz.prog 96 #[.pointer (some ⟨g,0,none⟩),.int .i64 12] (w.alloc (.cells #[.int .i64 0,.int .i64 1,.int .i64 (-1),.int .i64 2,.int .i64 100,.int .i64 101,.int .i64 1000000,.int .i64 1000001,.int .i64 1048576,.int .i64 1048577,.int .i64 10000,.int .i64 10001] 3)) (NextP _ g s 12)):=next_p 12 H1.out.ok (by omega) (by omega);go_enter Tryz.func241,Tryz.ntmps241;go_wp2_with fail;(with_reducible refine K.out.mono ?_);rintro e w2 ⟨x,hd,rfl,x0,x1,hs⟩;obtain⟨j,rfl⟩:=Int.eq_ofNat_of_zero_le x0;have HD:Hid (num12 (dr s 12)=num12 j):=iH (by rw[hd]);obtain⟨hy,hin⟩:=nums12_at j (by omega);clear hd;generalize num12 (j:Int)=y at *;have kb2:Bk w2 w.heap.size 3 nums12:=hs.bk KB.out (by omega);have hc:w2.cell? ⟨w.heap.size,j,none⟩=some (.int .i64 y):=(kb2.cell j).trans hy;have hl:=kb2.lt;have HT:=iH (H1.out.trans hs);have Hin:=iH hin;clear hs kb2 hy K KB H1 hin;go_wp2;go_ret;exact⟨y,HD.out,rfl,Hin.out,HT.out⟩
theorem pcells_set (l:List P2) (k:Nat) (x y:Int) (h:k<l.length):pcells (l.set k (x,y))=((pcells l).set (k*2) (.int .i64 x)).set (k*2+1) (.int .i64 y):=by
 induction l generalizing k with
 | nil=>simp at h
 | cons a l ih =>
   cases k with
   | zero=>simp[pcells]
   | succ k =>
     have:=ih k (by simpa using h);have e:(k+1)*2=k*2+1+1:=by omega
     simp only[pcells,List.set_cons_succ,List.flatMap_cons]at this⊢;rw[this,e];simp[pc]
structure AmB (V W : World) (g : Nat) (s : Sd) (bx : Nat) (x y : Int) (v : Value) (n : Nat) (l : List P2) : Prop where
 st:GSp V W g s
 own:W.ownsRow V.heap.size 151 2 v n (pcells l)
 bk:Bk W bx 151 [.int .i64 x,.int .i64 y]
 ge:V.heap.size<=bx
 far:∀b,v.ownBlock=some b->b<bx
section
variable {V W W' : World} {g bx n : Nat} {s s' : Sd} {x y : Int} {v : Value} {l : List P2}
theorem AmB.next (h:AmB V W g s bx x y v n l) (k:GSp W W' g s'):AmB V W' g s' bx x y v n l :=
 ⟨h.st.trans k,k.own h.own (fun e=>by have:=row_base h.own g e;have:=h.st.lt;omega),k.bk h.bk (by have:=h.st.lt;have:=h.ge;omega),h.ge,h.far⟩
theorem AmB.below (h:AmB V W g s bx x y v n l) (hb:Below W.heap.size W W'):AmB V W' g s bx x y v n l:=h.next ((GSp.refl h.st.ok).below hb)
def num6 (k:Int):Int:=([0,1,3,-1,1099511627776,1099511627777]:List Int)[k.toNat]?.getD 0
def amtX (s:Sd):P2:=(dr s 11-1,num6 (dr (nx s) 6))
def amtQ (n:Nat) (s:Sd):Bool:=decide (0<n) && decide (dr (nx (nx s)) 2=0)
def amtF (l:List P2) (s:Sd):List P2×Sd :=
 if amtQ l.length s=true then(l.set (dr (nx (nx (nx s))) l.length).toNat (amtX s),nx (nx (nx (nx s)))) else(l ++ [amtX s],if 0<l.length then nx (nx (nx s)) else nx (nx s))
def AmtP (V:World) (g:Nat) (l0:List P2) (s:Sd) (e:Ending) (W:World):Prop:=∃A k c l s',amtF l0 s=(l,s')∧e=.returned (.slice A k c)∧PrV W 151 ⟨A,k,c⟩ l∧l.length<=l0.length+1∧GSp V W g s'
theorem AmB.put {gv cap k:Nat} (h:AmB V W g s bx x y (.slice (some ⟨gv,0,none⟩) n cap) n l) (hl:l.length=n) (hk:k<n) :
 (((W.setCell ⟨gv,k*2,none⟩ (.int .i64 x)).setCell ⟨gv,k*2+1,none⟩ (.int .i64 y))).ownsRow V.heap.size 151 2 (.slice (some ⟨gv,0,none⟩) n cap) n (pcells (l.set k (x,y)))∧GSp V ((W.setCell ⟨gv,k*2,none⟩ (.int .i64 x)).setCell ⟨gv,k*2+1,none⟩ (.int .i64 y)) g s:=by
 have hb:=row_base h.own gv rfl;refine⟨?_,(h.st.set _ _ _ hb).set _ _ _ hb⟩;rw[pcells_set l k x y (by omega)];exact((h.own.stored (k*2) (.int .i64 x)).1.stored (k*2+1) (.int .i64 y)).1
theorem AmB.cellk {gv cap k:Nat} (h:AmB V W g s bx x y (.slice (some ⟨gv,0,none⟩) n cap) n l) (hl:l.length=n) (hk:k<n) :
 W.cell? ⟨gv,k*2,none⟩=some (.int .i64 (l[k]'(by omega)).1)∧W.cell? ⟨gv,k*2+1,none⟩=some (.int .i64 (l[k]'(by omega)).2):=by
 have hc:=h.own.cells (g:=gv) rfl;have hlk:k<l.length:=by omega
 have e0:=flat_get (f:=pc) pc_len l k 0 hlk (by omega);have e1:=flat_get (f:=pc) pc_len l k 1 hlk (by omega);have h0:=hc (k*2) _ e0;have h1:=hc (k*2+1) _ e1;simp only[Addr.add]at h0 h1;refine⟨?_,?_⟩
 ·by_cases hz:k*2=0
  ·rw[if_pos hz]at h0;rw[hz];exact h0
  ·rw[if_neg hz,Nat.zero_add]at h0;exact h0
 ·rw[if_neg (by omega),Nat.zero_add]at h1;exact h1
theorem amtP_own {A:Option Addr} {c n0:Nat} {l0:List P2} {s0:Sd} (hF:amtF l0 s0=(l,s)) (h0:l0.length=n0) (ho:W.ownsRow V.heap.size 151 2 (.slice A n c) n (pcells l)) (hn:l.length=n) (hs:n<=n0+1) (hn0:n0<=1000) (hst:GSp V W g s)
 (hwf:∀p∈l,(-9223372036854775808<=p.1∧p.1<=9223372036854775807)∧-9223372036854775808<=p.2∧p.2<=9223372036854775807):AmtP V g l0 s0 (.returned (.slice A n c)) W :=
 ⟨A,n,c,l,s,hF,rfl,⟨TRow.of_own ho,hn.symm,by dsimp only;omega,hwf⟩,by omega,hst⟩
end
abbrev nums6:List Value:=[.int .i64 0,.int .i64 1,.int .i64 3,.int .i64 (-1),.int .i64 1099511627776,.int .i64 1099511627777]
theorem nums6_at (j:Nat) (h:j<6):nums6[j]? = some (.int .i64 (num6 j))∧-1<=num6 j∧num6 j<=1099511627777:=by
 rcases(show j=0∨j=1∨j=2∨j=3∨j=4∨j=5 by omega)with rfl|rfl|rfl|rfl|rfl|rfl
 ·exact⟨rfl,by decide,by decide⟩
 ·exact⟨rfl,by decide,by decide⟩
 ·exact⟨rfl,by decide,by decide⟩
 ·exact⟨rfl,by decide,by decide⟩
 ·exact⟨rfl,by decide,by decide⟩
 ·exact⟨rfl,by decide,by decide⟩
theorem pcells_one (l:List P2):∀u∈pcells l,u.oneCell'=true:=by
 intro u hu;simp only[pcells,List.mem_flatMap]at hu;obtain⟨p,_,hp⟩:=hu;simp only[pc,List.mem_cons,List.not_mem_nil,or_false]at hp;rcases hp with rfl|rfl <;> rfl
theorem wf_set {l:List P2} {k:Nat} {x y:Int} (h:∀p∈l,(-9223372036854775808<=p.1∧p.1<=9223372036854775807)∧-9223372036854775808<=p.2∧p.2<=9223372036854775807) (hx : -1<=x∧x<=100) (hy : -1<=y∧y<=1099511627777) :
 ∀p∈l.set k (x,y),(-9223372036854775808<=p.1∧p.1<=9223372036854775807)∧-9223372036854775808<=p.2∧p.2<=9223372036854775807:=fun p hp=>by
 rcases List.mem_or_eq_of_mem_set hp with h1|h1
 ·exact h p h1
 ·subst h1;dsimp only;omega
theorem wf_snoc {l:List P2} {x y:Int} (h:∀p∈l,(-9223372036854775808<=p.1∧p.1<=9223372036854775807)∧-9223372036854775808<=p.2∧p.2<=9223372036854775807) (hx : -1<=x∧x<=100) (hy : -1<=y∧y<=1099511627777) :
 ∀p∈l ++ [(x,y)],(-9223372036854775808<=p.1∧p.1<=9223372036854775807)∧-9223372036854775808<=p.2∧p.2<=9223372036854775807:=fun p hp=>by
 rcases List.mem_append.1 hp with h1|h1
 ·exact h p h1
 ·rw[List.mem_singleton.1 h1];dsimp only;omega
theorem amountsBent_p {w:World} {g:Nat} {sd:Sd} {s:Sl} {l:List P2} (h:GOkP w g sd) (hl:PrV w 151 s l) (hn:l.length<=1000):Calls Tryz.prog 242 #[.slice s.A s.n s.c,.pointer (some ⟨g,0,none⟩)] w (AmtP w g l sd):=by
 obtain⟨i0,hinf,hz0,hz1,hz2⟩:=info_parts info151;obtain⟨A,n,c⟩:=s;have hlen:l.length=n:=hl.len.symm;have Hlen:=iH hlen;have Hpl:Hid ((pcells l).length=n*2):=by show _=_;rw[pcells_length,hlen]
 have Hrow:Hid (Row w w.heap.size A (pcells l)):=hl.row.row;have Hwf:=iH hl.wf;have HG:=iH h;have hgl:=h.lt;rw[hlen]at hn;clear h hl hlen;go_enter Tryz.func242,Tryz.ntmps242;go_wp2_with(at_builtin;refine wpList_clone rfl (.tmp 7) (.tmp 8) 147 rfl w.heap.size 151 i0 (.agg #[.int .i64 0,.int .i64 0]) 2 16 Tryz.underlying147 hinf hz0 hz1 hz2 rfl (by decide) rfl A n c (pcells l) rfl Hpl.out Hrow.out (pcells_one l) (by unfold maxLen;omega) (by omega) (Nat.le_refl _) ?_);intro v w1 hown hb1;have HG1:=iH ((GSp.refl HG.out).below hb1);have HO1:=iH hown;have hs1:=hb1.size;clear hb1 hown HG Hrow Hpl;go_wp2_with fail;(with_reducible refine(next_p 11 HG1.out.ok (by omega) (by omega)).mono ?_);rintro e w2 ⟨x,hdx,rfl,x0,x1,hs⟩;have HDx:=iH hdx;clear hdx;have hs2:=hs.size;have HG2:=iH (HG1.out.trans hs);have HO2:=iH (hs.own HO1.out (fun e=>by have:=row_base HO1.out g e;omega));clear hs HG1 HO1;have kb:=Bk.new w2 3 nums6;have KB:=iH kb;have HG3:=iH (HG2.out.alloc (.cells nums6.toArray 3));have HO3:=iH (HO2.out.alloc (.cells nums6.toArray 3));clear kb HG2 HO2;dsimp only[nums6]at KB HG3 HO3;have K:Hid (Calls Tryz.prog 96 #[.pointer (some ⟨g,0,none⟩),.int .i64 6] (w2.alloc (.cells #[.int .i64 0,.int .i64 1,.int .i64 3,.int .i64 (-1),.int .i64 1099511627776,.int .i64 1099511627777] 3)) (NextP _ g (nx sd) 6)):=next_p 6 HG3.out.ok (by omega) (by omega);go_wp2_with fail;(with_reducible refine K.out.mono ?_);rintro e w3 ⟨q,hdq,rfl,q0,q1,hs⟩;obtain⟨j,rfl⟩:=Int.eq_ofNat_of_zero_le q0;have HDy:Hid (num6 (dr (nx sd) 6)=num6 j):=iH (by rw[hdq]);obtain⟨hy,y0,y1⟩:=nums6_at j (by omega);clear hdq;generalize num6 (j:Int)=y at *;have kb2:Bk w3 w2.heap.size 3 nums6:=hs.bk KB.out (by omega);have hc:w3.cell? ⟨w2.heap.size,j,none⟩=some (.int .i64 y):=(kb2.cell j).trans hy;have hl3:=kb2.lt;have HG4:=iH (HG3.out.trans hs);have HO4:=iH (hs.own HO3.out (fun e=>by have:=row_base HO3.out g e;omega));clear hs kb2 hy K KB HG3 HO3;obtain⟨A1,c1,hv,_⟩:=row_of_owns HO4.out;subst hv;have hfar:∀b,(Value.slice A1 n c1).ownBlock=some b->b<w3.heap.size:=fun b e=>(HO4.out.lt b e).2
 have HS0:Hid (AmB w (w3.alloc (.cells #[.int .i64 (x-1),.int .i64 y] 151)) g (nx (nx sd)) w3.heap.size (x-1) y (.slice A1 n c1) n l) :=
  ⟨HG4.out.alloc _,HO4.out.alloc _,Bk.new w3 151 [.int .i64 (x-1),.int .i64 y],by omega,hfar⟩
 clear HG4 HO4 hfar;go_upto_region 4 with fail;obtain⟨W4,hW4⟩:∃W4,w3.alloc (.cells #[.int .i64 (x-1),.int .i64 y] 151)=W4:=⟨_,rfl⟩;rw[hW4]at HS0⊢;obtain⟨bx,hbx⟩:∃bx,w3.heap.size=bx:=⟨_,rfl⟩;rw[hbx]at HS0⊢;obtain⟨z,hz⟩:∃z,x-1=z:=⟨_,rfl⟩;have hzb : -1<=z∧z<=100:=by omega
 have HXY:Hid (amtX sd=(z,y)):=iH (by unfold amtX;rw[HDx.out,HDy.out,hz]);rw[hz]at HS0⊢;clear HDx HDy;clear hW4 hbx hz hc hl3 hs2 hs1 x0 x1 q0 q1;obtain⟨x,hx⟩:∃x,z=x:=⟨_,rfl⟩;rw[hx]at HS0 hzb HXY⊢;clear hx;go_cut [26] (fun v wx=>∃q:Bool,v=.bool q∧amtQ n sd=q∧(q=true->0<n)∧AmB w wx g (if 0<n then nx (nx (nx sd)) else nx (nx sd)) bx x y (.slice A1 n c1) n l)
 case first =>
  rcases Nat.eq_zero_or_pos n with hn0|hn0
  ·subst hn0;go_wp2;go_meet;exact⟨false,rfl,rfl,fun e=>by simp at e,HS0.out⟩
  ·have e1:decide ((0:Int)<(n:Int))=true:=decide_eq_true (by omega);have e2:(0:Int)<(n:Int):=by omega
   go_wp2_with fail;(with_reducible refine(next_p 2 HS0.out.st.ok (by omega) (by omega)).mono ?_);rintro e w5 ⟨k,hdk,rfl,k0,k1,hs⟩;have HDk:=iH hdk;clear hdk;have HS5:=iH (HS0.out.next hs);clear hs HS0;obtain⟨q,hq⟩:∃q,(k == 0)=q:=⟨_,rfl⟩;go_wp2;go_meet;exact⟨_,rfl,by unfold amtQ;rw[HDk.out];simp[hn0,<- hq];rfl,fun _=>hn0,by rw[if_pos hn0];exact HS5.out⟩
 case rest =>
  clear HS0;obtain⟨q,rfl,hQ,hq,hS⟩:=hcut;have HQ:=iH hQ;clear hQ;have HS:=iH hS;clear hS;obtain⟨W5,hW⟩:∃W5,wc=W5:=⟨_,rfl⟩;rw[hW]at HS⊢;clear hW;cases q
  ·have y0':W5.cell? ⟨bx,0,none⟩=some (.int .i64 x):=HS.out.bk.cell 0;have y1':W5.cell? ⟨bx,1,none⟩=some (.int .i64 y):=HS.out.bk.cell 1;have yl:=HS.out.bk.lt;have HS6:=iH (HS.out.below ((Below.refl _ _).alloc (Nat.le_refl _) (.cells #[.int .i64 x,.int .i64 y] 151)));have hsz:=HS6.out.st.size;clear hq HS;go_wp2_with(at_builtin;refine wpList_append_lies _ rfl (.tmp 35) (.tmp 37) 147 rfl w.heap.size 151 i0 (.agg #[.int .i64 0,.int .i64 0]) 2 16 Tryz.underlying147 hinf hz0 hz1 hz2 rfl (by decide) _ n (pcells l) rfl HS6.out.own ⟨W5.heap.size,0,none⟩ 1 1 [.int .i64 x,.int .i64 y] rfl rfl (new2 _ _ _ _) (one2 _ _) (by omega) (by unfold maxLen;omega) (by omega) hsz (W5.heap.size+1) (by simp) ?_);intro g' cap w8 hown8 hgr8 _ _;have hb8:=row_base HS6.out.own;have HF:=iH (HS6.out.st.grow hgr8 hb8);have HO8:Hid (w8.ownsRow w.heap.size 151 2 (.slice (some ⟨g',0,none⟩) (n+1) cap) (n+1) (pcells (l ++ [(x,y)]))):=by show World.ownsRow _ _ _ _ _ _ _;rw[pcells_snoc];exact hown8
   clear hown8 hgr8 hb8 HS6;go_wp2;go_ret;exact amtP_own (by unfold amtF;rw[Hlen.out,HQ.out,HXY.out];rfl) Hlen.out HO8.out (by simp[Hlen.out]) (by omega) (by omega) HF.out (wf_snoc Hwf.out hzb ⟨y0,y1⟩)
  ·have hn0:=hq rfl;obtain⟨gv,cap,hv,_,_⟩:=HS.out.own.form hn0;cases hv;rw[if_pos hn0]at HS;have KI:Hid (Calls Tryz.prog 96 #[.pointer (some ⟨g,0,none⟩),.int .i64 (n:Int)] W5.drew (NextP W5.drew g (nx (nx (nx sd))) (n:Int))):=next_p (n:Int) (HS.out.below (Below.refl _ _).drew).st.ok (by omega) (by omega);have HS':=iH (HS.out.below (Below.refl _ _).drew);clear HS hq;have HS:=iH HS'.out;clear HS';go_wp2_with fail;refine wp_region_X (fun w'=>Bk w' bx 151 [.int .i64 x,.int .i64 y]) 7 (n:=8) rfl (by kernel_rfl) (HS.out.bk) (fun hS=>?_);refine X_take 0 (some 27) (v:=?_) (listed':=#[true,false,false,false,false,false,false,false]) rfl rfl rfl (by kernel_rfl) (fun _ _ _ h=>h) ⟨rfl,?_⟩ hS ?_;rotate_left
   ·intro w' hS';(go_simp;try with_reducible rfl)
   simp only[Act.put,Pa,Pb,Pc];refine X_take 1 (some 28) (v:=?_) (listed':=#[true,true,false,false,false,false,false,false]) rfl rfl rfl (by kernel_rfl) (fun _ _ _ h=>h) ⟨rfl,?_⟩ hS ?_;rotate_left
   ·intro w' hS';(go_simp;try with_reducible rfl)
   simp only[Act.put,Pa,Pb,Pc];refine X_take 2 (some 29) (v:=?_) (listed':=#[true,true,true,false,false,false,false,false]) rfl rfl rfl (by kernel_rfl) (fun _ _ _ h=>h) ⟨rfl,?_⟩ hS ?_;rotate_left
   ·intro w' hS';(go_simp;try with_reducible rfl)
   simp only[Act.put,Pa,Pb,Pc];refine X_take 3 (some 30) (v:=?_) (listed':=#[true,true,true,true,false,false,false,false]) rfl rfl rfl (by kernel_rfl) (fun _ _ _ h=>h) ⟨rfl,?_⟩ hS ?_;rotate_left
   ·intro w' hS';(go_simp;try with_reducible rfl)
   simp only[Act.put,Pa,Pb,Pc];refine X_take 5 (some 32) (v:=?_) (listed':=#[true,true,true,true,false,true,false,false]) rfl rfl rfl (by kernel_rfl) (fun _ _ _ h=>h) ⟨rfl,?_⟩ hS ?_;rotate_left
   ·intro w' hS';have e0:=hS'.k0;have e1:=hS'.k1;have el:=hS'.lt;(go_simp;try with_reducible rfl)
   simp only[Act.put,Pa,Pb,Pc];refine X_one 4 (listed':=#[true,true,true,true,true,true,false,false]) (by kernel_rfl) rfl rfl (fun K hK=>?_);go_simp;(with_reducible refine KI.out.mono ?_);rintro e w6 ⟨k0,hdk,rfl,k00,k01,hs⟩;obtain⟨k,rfl⟩:=Int.eq_ofNat_of_zero_le k00;have HDk:=iH hdk;clear hdk;have HS6:=iH (HS.out.next hs);refine hK _ _ HS6.out.bk ?_;clear hs hK k00;refine X_one 6 (listed':=#[true,true,true,true,true,true,true,false]) (by kernel_rfl) rfl rfl (fun K hK=>?_);go_simp;refine hK _ _ HS6.out.bk ?_;clear hK;refine X_tail (by kernel_rfl) ?_;refine A_one 7 (listed':=#[true,true,true,true,true,true,true,true]) (by kernel_rfl) rfl rfl (fun K hK=>?_);have hkn:k<n:=by omega
   have HP:=iH (HS6.out.put Hlen.out hkn);have zz:=HS6.out.cellk Hlen.out hkn;have z0:=zz.1;have z1:=zz.2;have f0:=HS6.out.own.frozenAt (k*2);have f1:=HS6.out.own.frozenAt (k*2+1);have gl:=(HS6.out.own.lt gv rfl).2;clear zz;go_simp;refine hK _ _ ?_;clear hK;refine A_done (by kernel_rfl) ?_;go_wp2;go_ret;exact amtP_own (by unfold amtF;rw[Hlen.out,HQ.out,if_pos rfl,HDk.out,HXY.out];rfl) Hlen.out HP.out.1 (by simp[Hlen.out]) (by omega) (by omega) HP.out.2 (wf_set Hwf.out hzb ⟨y0,y1⟩)
end
abbrev sz0:Sl:=⟨none,0,0⟩
def RuM.core (r:RuM):RuM:={ r with st:=sz0,sg:=sz0,sb:=sz0 }
def RwM.core (r:RwM):RwM:={ r with sg:=sz0 }
def TbM.core (t:TbM):TbM:=⟨t.name,t.rows.map RwM.core,sz0⟩
def TxM.core (t:TxM):TxM:={ t with sb:=sz0 }
def CatM.core (m:CatM):CatM:=⟨m.items,m.rules.map RuM.core,m.tables.map TbM.core,m.taxes.map TxM.core,sz0,sz0,sz0,sz0⟩
theorem Cp.core {α:Type} {C:World->Nat->α->α->Prop} {sls:α->List Sl} {W:World} {base:Nat} {l l':List α} (h:Cp C sls W base l l') (f:α->α) (hC:∀x x',C W base x x'->f x'=f x):l'.map f=l.map f:=by
 apply List.ext_getElem
 ·simp[h.1]
 ·intro i h1 h2;simp only[List.getElem_map];exact hC _ _ (h.2.1 i _ _ (List.getElem?_eq_getElem (by simpa using h2)) (List.getElem?_eq_getElem (by simpa using h1)))
theorem RuC.core {W:World} {base:Nat} {r r':RuM} (h:RuC W base r r'):r'.core=r.core:=by rw[h.same];rfl
theorem RwC.core {W:World} {base:Nat} {r r':RwM} (h:RwC W base r r'):r'.core=r.core:=by rw[h.same];rfl
theorem TxC.core {W:World} {base:Nat} {r r':TxM} (h:TxC W base r r'):r'.core=r.core:=by rw[h.same];rfl
theorem TbC.core {W:World} {base:Nat} {r r':TbM} (h:TbC W base r r'):r'.core=r.core:=by simp only[TbM.core,h.name,h.rows.core RwM.core fun _ _ k=>k.core]
theorem CatC.core {W:World} {base:Nat} {m m':CatM} (h:CatC W base m m'):m'.core=m.core:=by
 simp only[CatM.core,h.items,h.rules.core RuM.core fun _ _ k=>k.core,h.tables.core TbM.core fun _ _ k=>k.core,h.taxes.core TxM.core fun _ _ k=>k.core]
end
set_option linter.unusedVariables false
set_option linter.unusedSimpArgs false
theorem notnan (x:Int) (w:World):Calls Tryz.prog 232 #[.int .i64 x] w fun e w'=>e=.returned (.bool false)∧w=w':=by
 have h:(x != x)=false:=by simp
 go_enter Tryz.func232,Tryz.ntmps232;go_wp2;go_ret;exact⟨rfl,rfl⟩
def cmpI (x y:Int):Int:=if x<y then -1 else if y<x then 1 else 0
theorem compare_any (x y:Int) (w:World):Calls Tryz.prog 86 #[.int .i64 x,.int .i64 y] w fun e w'=>e=.returned (.int .i64 (cmpI x y))∧w=w':=by
 have Hx:=iH (notnan x w);have Hy:=iH (notnan y w);go_enter Tryz.func86,Tryz.ntmps86;go_wp2_with fail;refine Hx.out.mono ?_;rintro e w1 ⟨rfl,rfl⟩;go_wp2_with fail;refine Hy.out.mono ?_;rintro e w1 ⟨rfl,rfl⟩;by_cases h1:x<y
 ·have d1:decide (x<y)=true:=by simpa using h1
  go_wp2;go_ret;exact⟨by simp[cmpI,h1],rfl⟩
 ·have d1:decide (x<y)=false:=by simpa using h1
  have Hc:Hid (¬ y<x->cmpI x y=0):=by show ¬ y<x->cmpI x y=0;intro h2;rw[cmpI,if_neg h1,if_neg h2]
  by_cases h2:y<x
  ·have d2:decide (y<x)=true:=by simpa using h2
   go_wp2;go_ret;exact⟨by simp[cmpI,h1,h2],rfl⟩
  ·have d2:decide (y<x)=false:=by simpa using h2
   have Hz:=iH (Hc.out h2);clear Hc;go_wp2;go_ret;exact⟨by rw[Hz.out];rfl,rfl⟩
theorem byItem (x1 x2 y1 y2:Int) (w:World):Calls Tryz.prog 209 #[.agg #[.int .i64 x1,.int .i64 x2],.agg #[.int .i64 y1,.int .i64 y2]] w fun e w'=>e=.returned (.int .i64 (cmpI x1 y1))∧Below w.heap.size w w':=by
 have X0:Below w.heap.size w ((w.alloc (.cells #[.int .i64 x1,.int .i64 x2] 151)).alloc (.cells #[.int .i64 y1,.int .i64 y2] 151)):=((Below.refl _ _).alloc (Nat.le_refl _) _).alloc (by simp) _;have HC:=iH (compare_any x1 y1);have HX:=iH X0;clear X0;go_enter Tryz.func209,Tryz.ntmps209;go_wp2_with fail;refine(HC.out _).mono ?_;rintro e w1 ⟨rfl,rfl⟩;go_wp2;go_ret;exact⟨rfl,HX.out⟩
theorem len_small (n:Nat) (hn:n<=12) (w:World):Calls Tryz.prog 231 #[.int .u64 n] w fun e w'=>∃y,e=.returned (.int .i64 y)∧w=w':=by
 have K:Hid (Calls Tryz.prog 339 #[.int .u64 n] w fun e w'=>∃y,e=.returned (.int .i64 y)∧w=w'):=by
  show Calls _ _ _ _ _;rcases(show n=0∨n=1∨n=2∨n=3∨n=4∨n=5∨n=6∨n=7∨n=8∨n=9∨n=10∨n=11∨n=12 by omega)with rfl|rfl|rfl|rfl|rfl|rfl|rfl|rfl|rfl|rfl|rfl|rfl|rfl
  all_goals
   go_enter Tryz.func339,Tryz.ntmps339;go_wp2;go_ret;exact⟨_,rfl,rfl⟩
 go_enter Tryz.func231,Tryz.ntmps231;go_wp2_with fail;refine K.out.mono ?_;rintro e w1 ⟨y,rfl,rfl⟩;go_wp2;go_ret;exact⟨y,rfl,rfl⟩
theorem grown_tr {a b c:World} {r:Option Nat} (h:a.grownBy b r) (k:b.grownBy c r):a.grownBy c r :=
 ⟨k.os.trans h.os,k.tape.trans h.tape,k.output.trans h.output,Nat.le_trans h.size k.size,fun b hb hn=>(k.block b (Nat.lt_of_lt_of_le hb h.size) hn).trans (h.block b hb hn)⟩
structure SrtO (w W : World) (base g cap n : Nat) (l : List P2) : Prop where
 gr:w.grownBy W (some g)
 own:W.ownsRow base 151 2 (.slice (some ⟨g,0,none⟩) n cap) n (pcells l)
theorem SrtO.below {w W W':World} {base g cap n:Nat} {l:List P2} (h:SrtO w W base g cap n l) (hb:Below W.heap.size W W'):SrtO w W' base g cap n l :=
 ⟨grown_tr h.gr (grown_of_below hb (some g)),h.own.kept (grown_of_below hb none) (by simp[Value.ownBlock])⟩
theorem own_p2 {w:World} {base g cap n:Nat} {l:List P2} (h:w.ownsRow base 151 2 (.slice (some ⟨g,0,none⟩) n cap) n (pcells l)) {k:Nat} (hk:k<l.length) :
 w.cell? ⟨g,k*2,none⟩=some (.int .i64 l[k].1)∧w.cell? ⟨g,k*2+1,none⟩=some (.int .i64 l[k].2):=by
 have key:∀r,r<2->∀u,(pc l[k])[r]? = some u->w.cell? ⟨g,k*2+r,none⟩=some u:=fun r hr u hu=>by
  have hc:=h.cells (g:=g) rfl (k*2+r) u ((flat_get pc_len l k r hk hr).trans hu);unfold Addr.add at hc;split at hc
  ·rename_i h0;rw[h0];exact hc
  ·simpa using hc
 exact⟨key 0 (by omega) _ rfl,key 1 (by omega) _ rfl⟩
theorem pcells_setk (l:List P2) (k:Nat) (t:P2) (h:k<l.length):pcells (l.set k t)=((pcells l).set (k*2) (.int .i64 t.1)).set (k*2+1) (.int .i64 t.2):=by
 induction l generalizing k with
 | nil=>simp at h
 | cons a l ih =>
   cases k with
   | zero=>simp[pcells,pc]
   | succ k =>
     have:=ih k (by simpa using h);have e:(k+1)*2=k*2+1+1:=by omega
     simp only[pcells,List.set_cons_succ,List.flatMap_cons]at this⊢;rw[this,e];simp[pc,List.set_cons_succ]
def insAt (s:List P2) (x:P2) (r:List P2) (j:Nat):List P2:=s.take j ++ x :: (s.drop j ++ r)
theorem insAt_len (s:List P2) (x:P2) (r:List P2) (j:Nat):(insAt s x r j).length=s.length+1+r.length:=by
 simp only[insAt,List.length_append,List.length_take,List.length_cons,List.length_drop];omega
theorem insAt_get (s:List P2) (x:P2) (r:List P2) (j:Nat) (h:j<=s.length) (hi:j<(insAt s x r j).length):(insAt s x r j)[j]=x:=by
 simp only[insAt];have hl:(s.take j).length=j:=by rw[List.length_take];omega
 rw[List.getElem_append_right (by omega)];simp[hl,Nat.min_eq_left h]
theorem insAt_pre (s:List P2) (x:P2) (r:List P2) (j:Nat) (h:j<s.length) (hi:j<(insAt s x r (j+1)).length):(insAt s x r (j+1))[j]=s[j]:=by
 simp only[insAt];rw[List.getElem_append_left (by rw[List.length_take];omega)];simp
theorem insAt_swap (s:List P2) (x:P2) (r:List P2) (j:Nat) (h:j<s.length):((insAt s x r (j+1)).set (j+1) s[j]).set j x=insAt s x r j:=by
 have e1:s.take (j+1)=s.take j ++ [s[j]]:=by rw[List.take_add_one,List.getElem?_eq_getElem h];rfl
 have e2:s.drop j=s[j] :: s.drop (j+1):=List.drop_eq_getElem_cons h;have hl:(s.take j).length=j:=by rw[List.length_take];omega
 simp only[insAt,e1,e2];rw[List.append_assoc,List.set_append_right _ _ (by omega),hl,show j+1-j=1 by omega];simp only[List.singleton_append,List.set_cons_succ,List.set_cons_zero];rw[List.set_append_right _ _ (by omega),hl,Nat.sub_self,List.set_cons_zero,List.cons_append]
theorem SrtO.swap {w W:World} {base g cap n:Nat} {l:List P2} (h:SrtO w W base g cap n l) (i j:Nat) (p q:P2) (hi:i<l.length) (hj:j<l.length) :
 SrtO w ((((W.setCell ⟨g,i*2,none⟩ (.int .i64 p.1)).setCell ⟨g,i*2+1,none⟩ (.int .i64 p.2)).setCell ⟨g,j*2,none⟩ (.int .i64 q.1)).setCell ⟨g,j*2+1,none⟩ (.int .i64 q.2)) base g cap n ((l.set i p).set j q):=by
 refine⟨grown_tr (grown_tr (grown_tr (grown_tr h.gr (grown_setCell _ g _ _)) (grown_setCell _ g _ _)) (grown_setCell _ g _ _)) (grown_setCell _ g _ _),?_⟩;rw[pcells_setk _ _ _ (by simpa using hj),pcells_setk _ _ _ hi];exact((((h.own.stored _ _).1.stored _ _).1.stored _ _).1.stored _ _).1
theorem isort_any {w : World} {base g cap n K : Nat} {l : List P2} (ho : w.ownsRow base 151 2 (.slice (some ⟨g, 0, none⟩) n cap) n (pcells l)) (hl : n = l.length) (hn : n <= 12) (h1 : 1 <= n) (hK : ∀ p ∈ l, 0 <= p.1 ∧ p.1 < (K : Int)) :
 Calls Tryz.prog 372 #[.slice (some ⟨g,0,none⟩) n cap,.int .i64 0,.int .i64 n,.func (.func 209) #[] #[]] w fun e w'=>e=.returned (.tuple #[])∧SrtO w w' base g cap n (bkt l K):=by
 have hS0:SrtO w w base g cap n l:=⟨⟨rfl,rfl,rfl,Nat.le_refl _,fun _ _ _=>rfl⟩,ho⟩;have HS0:=iH hS0;have Hl:=iH hl;have HK:=iH hK
 have hst : bkt (l.take 1) K ++ l.drop 1 = l := by
  have hlen:=bkt_len l K hK 1 (by omega);cases l with
  | nil=>simp at hl;omega
  | cons a t =>
    simp at hlen⊢
    match hb:bkt [a] K,hlen with
    | [b], _ =>
      have e:b=a:=List.mem_singleton.1 (bkt_mem [a] K b (by rw[hb];exact List.mem_singleton.2 rfl));rw[e];rfl
 have Hst:=iH hst;clear hS0 ho hl hK hst;go_enter Tryz.func372,Tryz.ntmps372;go_wp2_with fail;go_loopw [8] (fun i wr=>∃k:Nat,1<=k∧k<=n∧i=.int .i64 k∧SrtO w wr base g cap n (bkt (l.take k) K ++ l.drop k)) (fun i _=>n-(intOf i).toNat)
 case atStart=>exact⟨1,Nat.le_refl _,h1,rfl,by rw[Hst.out];exact HS0.out⟩
 case round =>
  obtain⟨k,hk1,hk,rfl,hS⟩:=hrel;have HS:=iH hS;clear hS HS0 Hst;by_cases hlt:k<n
  ·have hkl : k < l.length := by have := Hl.out; omega
   have hd14:decide ((k:Int)<(n:Int))=true:=by simp;omega
   have hsl:(bkt (l.take k) K).length=k:=bkt_len l K HK.out k (by omega);have hso:=bkt_sorted (l.take k) K;have hnx:insR l[k] (bkt (l.take k) K) ++ l.drop (k+1)=bkt (l.take (k+1)) K ++ l.drop (k+1):=by
    have hb:=HK.out l[k] (List.getElem_mem hkl);rw[<- bkt_snoc _ _ _ hb.1 hb.2];have e:l.take (k+1)=l.take k ++ [l[k]]:=by rw[List.take_add_one,List.getElem?_eq_getElem hkl];rfl
    rw[e]
   have hst:bkt (l.take k) K ++ l.drop k=insAt (bkt (l.take k) K) l[k] (l.drop (k+1)) k:=by
    have t1:(bkt (l.take k) K).take k=bkt (l.take k) K:=List.take_of_length_le (by omega);have t2:(bkt (l.take k) K).drop k=[]:=List.drop_of_length_le (by omega);rw[insAt,t1,t2,List.drop_eq_getElem_cons hkl,List.nil_append]
   rw[hst]at HS;have hrl:(l.drop (k+1)).length=n-(k+1):=by rw[List.length_drop];have:=Hl.out;omega
   have Hsl:=iH hsl;have Hso:=iH hso;have Hnx:=iH hnx;have Hrl:=iH hrl;clear hsl hso hnx hst hrl;generalize bkt (l.take k) K=s at *;generalize hrr:l.drop (k+1)=r at *;have HR:=iH hrr;clear hrr;generalize l[k]=x at *;clear hkl;go_wp2_with fail;go_loopw [9] (fun i wq=>∃j:Nat,i=.int .i64 (j:Int)∧j<=k∧(∀p∈s.drop j,x.1<p.1)∧SrtO w wq base g cap n (insAt s x r j)) (fun i _=>(intOf i).toNat)
   case atStart=>exact⟨k,rfl,Nat.le_refl _,by rw[List.drop_of_length_le (Nat.le_of_eq Hsl.out)];simp,HS.out⟩
   case round =>
    clear HS;obtain⟨j,rfl,hj,hd,hS⟩:=hrel;have HS:=iH hS;have HD:=iH hd;clear hS hd;cases j with
    | zero =>
      have d0:decide ((0:Int)<((0:Nat):Int))=false:=by simp
      have HF:Hid (SrtO w wr base g cap n (bkt (l.take (k+1)) K ++ r)):=by
       have h:=HS.out;have e:=insR_at x s 0 (by omega) Hso.out HD.out (fun p _=>.inl rfl);have e2:insAt s x r 0=insR x s ++ r:=by rw[<- e];simp[insAt]
       rw[e2,Hnx.out]at h;exact iH h
      clear HS HD;go_wp2_with fail;go_quiet (fail);go_wp2;go_roundw
      case rel=>exact⟨k+1,by omega,by omega,by go_num,by rw[HR.out];exact HF.out.below (bel_drewN (Below.refl _ _) _)⟩
      case measure=>simp[intOf];omega
    | succ j =>
      have hjs:j<s.length:=by have:=Hsl.out;omega
      have hln:(insAt s x r (j+1)).length=n:=by rw[insAt_len,Hsl.out,Hrl.out];omega
      have hc0:=own_p2 HS.out.own (k:=j) (by omega);have hc1:=own_p2 HS.out.own (k:=j+1) (by omega);rw[insAt_pre s x r j hjs (by omega)]at hc0;rw[insAt_get s x r (j+1) (by omega) (by omega)]at hc1;have HW:=iH (fun(W:World) (h:SrtO w W base g cap n (insAt s x r (j+1)))=>h.swap (j+1) j s[j] x (by omega) (by omega));rw[insAt_swap s x r j hjs]at HW;have HDn:Hid (x.1<s[j].1->∀p∈s.drop j,x.1<p.1):=by
       show x.1<s[j].1->∀p∈s.drop j,x.1<p.1;intro h p hp;rw[List.drop_eq_getElem_cons hjs]at hp;rcases List.mem_cons.1 hp with rfl|hp
       ·exact h
       ·exact HD.out p hp
      have HE:Hid (¬ x.1<s[j].1->insAt s x r (j+1)=bkt (l.take (k+1)) K ++ r):=by
       show ¬ x.1<s[j].1->insAt s x r (j+1)=bkt (l.take (k+1)) K ++ r;intro h;have e:=insR_at x s (j+1) (by omega) Hso.out HD.out (fun p hp=>.inr (by rw[Nat.add_sub_cancel,List.getElem?_eq_getElem hjs]at hp;cases hp;omega));rw[<- Hnx.out,<- e];simp[insAt]
      have hgl:g<wr.heap.size:=(HS.out.own.lt g rfl).2;have hb0:=HK;clear HD hln;generalize s[j]=y at *;clear hjs;obtain⟨x1,x2⟩:=x;obtain⟨y1,y2⟩:=y;dsimp only at *;obtain⟨c0,c1⟩:=hc0;obtain⟨d0,d1⟩:=hc1;have ej:((j+1:Nat):Int)=(j:Int)+1:=by omega
      rw[ej];have hcall:=iH (byItem x1 x2 y1 y2);have f0:=HS.out.own.frozenAt (j*2);have f1:=HS.out.own.frozenAt (j*2+1);have f2:=HS.out.own.frozenAt ((j+1)*2);have f3:=HS.out.own.frozenAt ((j+1)*2+1);have a1:IntKind.i64.wrap ((j:Int)+1-1)=(j:Int):=IntWalk.i64_in _ (by omega) |>.trans (by omega)
      have a2:((j:Int)+1).toNat=j+1:=by omega
      have a3:(0:Int)<(j:Int)+1:=by omega
      have a8:IntKind.i64.wrap (j:Int)=(j:Int):=IntWalk.i64_in _ (by omega);have a9:j<n:=by omega
      have a5:decide ((0:Int)<(j:Int)+1)=true:=decide_eq_true a3;have a6:(0:Int)<=(j:Int)+1:=by omega
      have a7:((j:Int)+1-1).toNat=j:=by omega
      have a10:(j:Int)+1<(n:Int):=by omega
      have a11:(j:Int)<(n:Int):=by omega
      go_wp2_with fail;go_still_tail 14,(by kernel_rfl);change wpList _ _ _ _ _ wr.drew;have hwd:Below wr.heap.size wr wr.drew:=(Below.refl _ wr).drew;go_wp2_with fail;refine(hcall.out wr.drew).mono ?_;rintro e wA ⟨rfl,hbA⟩;have GA:=hwd.trans hbA;have HSA:=iH (HS.out.below GA);have k0:=(GA.cell (p:=⟨g,j*2,none⟩) hgl).trans c0;have k1:=(GA.cell (p:=⟨g,j*2+1,none⟩) hgl).trans c1;have l0:=(GA.cell (p:=⟨g,(j+1)*2,none⟩) hgl).trans d0;have l1:=(GA.cell (p:=⟨g,(j+1)*2+1,none⟩) hgl).trans d1;have m0:=HSA.out.own.frozenAt (j*2);have m1:=HSA.out.own.frozenAt (j*2+1);have m2:=HSA.out.own.frozenAt ((j+1)*2);have m3:=HSA.out.own.frozenAt ((j+1)*2+1);have ml:g<wA.heap.size:=(HSA.out.own.lt g rfl).2;clear c0 c1 d0 d1 f0 f1 f2 f3 hgl hbA hwd hcall GA HS;by_cases hxy:x1<y1
      ·have hR2:decide (cmpI x1 y1<0)=true:=by simp[cmpI,hxy]
       have HNEW:=iH (HW.out wA HSA.out);have HDD:=iH (HDn.out hxy);clear HW HDn HE HSA hxy;generalize cmpI x1 y1=R at *;go_wp2_with fail
       go_region
       go_wp2;go_roundw
       case rel=>exact⟨j,by go_num,by omega,HDD.out,HNEW.out.below (Below.refl _ _).drew⟩
       case measure=>simp[intOf]
      ·have hR2:decide (cmpI x1 y1<0)=false:=by
        simp only[cmpI,if_neg hxy];split <;> simp
       have HEE:=iH (HE.out (by omega));clear HW HDn HE hxy;generalize cmpI x1 y1=R at *;go_wp2;go_roundw
       case rel=>exact⟨k+1,by omega,by omega,by go_num,by rw[HR.out,<- HEE.out];exact HSA.out⟩
       case measure=>simp[intOf];omega
  ·obtain rfl:n=k:=by omega
   have HF:Hid (SrtO w wr base g cap n (bkt l K)):=by
    have h:=HS.out;have e1:l.take n=l:=by rw[Hl.out,List.take_length]
    have e2:l.drop n=[]:=by rw[Hl.out,List.drop_length]
    rw[e1,e2,List.append_nil]at h;exact iH h
   clear HS;go_wp2
   go_end0
   exact⟨rfl,HF.out⟩
def SortQ (w:World) (base:Nat) (s:Sl) (l:List P2) (e:Ending) (w':World):Prop:=e=.returned (.tuple #[])∧w.grownBy w' (Value.slice s.A s.n s.c).ownBlock∧PrO w' 151 base s l
theorem pdq_any {w:World} {base K:Nat} {s:Sl} {l:List P2} (lim:Int) (h:PrO w 151 base s l) (hn:l.length<=12) (hK:∀p∈l,0<=p.1∧p.1<(K:Int)) :
 Calls Tryz.prog 313 #[.slice s.A s.n s.c,.int .i64 0,.int .i64 s.n,.int .i64 lim,.func (.func 209) #[] #[]] w (SortQ w base s (bkt l K)):=by
 have HI:Hid (Calls Tryz.prog 372 #[.slice s.A s.n s.c,.int .i64 0,.int .i64 s.n,.func (.func 209) #[] #[]] w (SortQ w base s (bkt l K))):=by
  show Calls _ _ _ _ _;have hl:=h.len;have hlb:=bkt_len l K hK l.length (Nat.le_refl _);rw[List.take_length]at hlb;have hwf:∀p∈bkt l K,(-9223372036854775808<=p.1∧p.1<=9223372036854775807)∧-9223372036854775808<=p.2∧p.2<=9223372036854775807:=fun p hp=>h.wf p (bkt_mem l K p hp)
  rcases Nat.eq_zero_or_pos s.n with hz|hz
  ·have e0:l=[]:=List.eq_nil_of_length_eq_zero (by omega);have e1:bkt l K=[]:=List.eq_nil_of_length_eq_zero (by omega);have HF:Hid (SortQ w base s (bkt l K) (.returned (.tuple #[])) w):=⟨rfl,⟨rfl,rfl,rfl,Nat.le_refl _,fun _ _ _=>rfl⟩,by rw[e1,<- e0];exact h⟩;rw[hz];obtain⟨A,n,c⟩:=s;dsimp only at hz⊢;subst hz;clear h hl hlb hwf e0 e1;go_enter Tryz.func372,Tryz.ntmps372;go_wp2_with fail;refine wp_loop_rounds 1 ?_;rw[rounds_succ];go_wp2;exact bodyPost_ret (results_none rfl _ _ _) rfl HF.out
  ·obtain⟨A,n,c⟩:=s;dsimp only at *;obtain⟨g,cap,hv⟩:=row_some h.own hz;cases hv;have hl2:n=l.length:=hl;have:=isort_any (K:=K) h.own hl2 (show n<=12 by omega) hz hK;exact this.mono fun e w' ⟨he,hs⟩=>⟨he,hs.gr,hs.own,by rw[hlb];exact hl,h.small,hwf⟩
 have hd:s.n<=12:=by have:=h.len;omega
 obtain⟨A,n,c⟩:=s;dsimp only at *;clear h;go_enter Tryz.func313,Tryz.ntmps313;go_wp2_with fail;refine wp_loop_rounds 1 ?_;rw[rounds_succ];go_wp2_with fail;refine HI.out.mono ?_;rintro e w1 ⟨rfl,hg,hp⟩;go_wp2;refine bodyPost_ret (results_none rfl _ _ _) rfl ?_;exact⟨rfl,hg,hp⟩
theorem sort_am {w:World} {base K:Nat} {s:Sl} {l:List P2} (h:PrO w 151 base s l) (hn:l.length<=12) (hK:∀p∈l,0<=p.1∧p.1<(K:Int)) :
 Calls Tryz.prog 208 #[.slice s.A s.n s.c,.func (.func 209) #[] #[]] w (SortQ w base s (bkt l K)):=by
 have HI:=iH (fun lim=>pdq_any lim h hn hK);have hd:s.n<=12:=by have:=h.len;omega
 have HL:=iH (len_small s.n hd w);obtain⟨A,n,c⟩:=s;dsimp only at *;clear h;go_enter Tryz.func208,Tryz.ntmps208;go_wp2_with fail;refine HL.out.mono ?_;rintro e w1 ⟨y,rfl,rfl⟩;go_wp2_with fail;refine(HI.out _).mono ?_;rintro e w1 ⟨rfl,hg,hp⟩;go_wp2
 go_end0
 exact⟨rfl,hg,hp⟩
def PlV (W:World) (pb:Nat) (pl:List Int):Prop:=∃gp:Nat,Bk W pb 22 [.slice (some ⟨gp,0,none⟩) pl.length pl.length]∧Bk W gp 3 (ints pl)
theorem PlV.below {W W':World} {pb:Nat} {pl:List Int} (h:PlV W pb pl) (hb:Below W.heap.size W W'):PlV W' pb pl:=by
 obtain⟨gp,h1,h2⟩:=h;exact⟨gp,h1.below hb h1.lt,h2.below hb h2.lt⟩
theorem PlV.grown {W W':World} {pb base n:Nat} {pl:List Int} {v:Value} {xs:List Value} {r:Option Nat} (h:PlV W pb pl) (hg:W.grownBy W' r) (ho:W.ownsRow base 151 2 v n xs) (hr:r=v.ownBlock):PlV W' pb pl:=by
 obtain⟨gp,h1,h2⟩:=h;subst hr;exact⟨gp,h1.grown hg (fun e=>row_neP ho h1 (by decide) e.symm),h2.grown hg (fun e=>row_neP ho h2 (by decide) e.symm)⟩
def plAt (pl:List Int) (x:Int):Int:=pl[x.toNat]?.getD 0
theorem ints_get (pl:List Int) (k:Nat) (h:k<pl.length):(ints pl)[k]? = some (.int .i64 pl[k]):=by simp[ints,h]
theorem place_any {W:World} {pb:Nat} {pl:List Int} (h:PlV W pb pl) (x:Nat) (hx:x<pl.length):Calls Tryz.prog 70 #[.int .i64 x,.pointer (some ⟨pb,0,none⟩)] W fun e w'=>e=.returned (.int .i64 (plAt pl x))∧W=w':=by
 obtain⟨gp,h1,h2⟩:=h;have c0:=h1.k0;have c1:W.cell? ⟨gp,x,none⟩=some (.int .i64 pl[x]):=(h2.cell x).trans (ints_get pl x hx);have l0:=h1.lt;have l1:=h2.lt;have hv:Hid (plAt pl x=pl[x]):=by show plAt pl x=pl[x];simp[plAt,hx]
 have i0:(0:Int)<=(x:Int):=by omega
 have i1:(x:Int)<(pl.length:Int):=by omega
 generalize pl[x]=y at *;go_enter Tryz.func70,Tryz.ntmps70;go_wp2;go_ret;exact⟨by rw[hv.out];rfl,rfl⟩
def mvA (pl:List Int) (p:P2):P2:=(plAt pl p.1,p.2)
theorem SrtO.set1 {w W:World} {base g cap n:Nat} {l:List P2} (h:SrtO w W base g cap n l) (k:Nat) (y:Int) (hk:k<l.length):SrtO w (W.setCell ⟨g,k*2,none⟩ (.int .i64 y)) base g cap n (l.set k (y,l[k].2)):=by
 refine⟨grown_tr h.gr (grown_setCell _ g _ _),?_⟩;have e:pcells (l.set k (y,l[k].2))=(pcells l).set (k*2) (.int .i64 y):=by
  rw[pcells_setk _ _ _ hk];have hg:((pcells l).set (k*2) (.int .i64 y))[k*2+1]? = some (.int .i64 l[k].2):=by
   rw[List.getElem?_set_ne (by omega)];exact(flat_get pc_len l k 1 hk (by omega))
  apply List.ext_getElem?;intro i;by_cases hi:i=k*2+1
  ·subst hi;rw[hg,List.getElem?_set_self (by rw[List.length_set,pcells_len1];omega)]
  ·rw[List.getElem?_set_ne (fun e=>hi e.symm)]
 rw[e];exact(h.own.stored _ _).1
theorem mv_step (f:P2->P2) (l:List P2) (k:Nat) (hk:k<l.length):((l.take k).map f ++ l.drop k).set k (f l[k])=(l.take (k+1)).map f ++ l.drop (k+1):=by
 have e:l.take (k+1)=l.take k ++ [l[k]]:=by rw[List.take_add_one,List.getElem?_eq_getElem hk];rfl
 have hl:((l.take k).map f).length=k:=by rw[List.length_map,List.length_take];omega
 rw[List.set_append_right _ _ (by omega),hl,Nat.sub_self,List.drop_eq_getElem_cons hk,List.set_cons_zero,e,List.map_append,List.append_assoc];rfl
theorem mv_get (f:P2->P2) (l:List P2) (k:Nat) (hk:k<l.length) (h:k<((l.take k).map f ++ l.drop k).length):((l.take k).map f ++ l.drop k)[k]=l[k]:=by
 have hl:((l.take k).map f).length=k:=by rw[List.length_map,List.length_take];omega
 rw[List.getElem_append_right (by omega)];simp[hl,Nat.min_eq_left (Nat.le_of_lt hk)]
theorem mv_len (f:P2->P2) (l:List P2) (k:Nat) (hk:k<=l.length):((l.take k).map f ++ l.drop k).length=l.length:=by simp;omega
structure RwK (W : World) (tb pb : Nat) (pl : List Int) (K : Nat) : Prop where
 box:Bk W tb 122 [.func (.func 70) #[] #[.pointer (some ⟨pb,0,none⟩)]]
 plv:PlV W pb pl
 pos:∀x∈pl,0<=x∧x<(K:Int)
 K64:K<=1000000
theorem RwK.below {W W':World} {tb pb K:Nat} {pl:List Int} (h:RwK W tb pb pl K) (hb:Below W.heap.size W W'):RwK W' tb pb pl K:=⟨h.box.below hb h.box.lt,h.plv.below hb,h.pos,h.K64⟩
theorem RwK.grown {W W':World} {tb pb K base n:Nat} {pl:List Int} {v:Value} {xs:List Value} (h:RwK W tb pb pl K) (hg:W.grownBy W' v.ownBlock) (ho:W.ownsRow base 151 2 v n xs):RwK W' tb pb pl K :=
 ⟨h.box.grown hg (fun e=>row_neP ho h.box (by decide) e.symm),h.plv.grown hg ho rfl,h.pos,h.K64⟩
theorem plAt_mem {pl:List Int} {x:Int} (h0:0<=x) (h1:x<(pl.length:Int)):plAt pl x∈pl:=by
 have:x.toNat<pl.length:=by omega
 simp only[plAt,List.getElem?_eq_getElem this,Option.getD_some];exact List.getElem_mem _
theorem amounts_rw {w:World} {base tb pb K:Nat} {pl:List Int} {s:Sl} {l:List P2} (h:PrO w 151 base s l) (hk:RwK w tb pb pl K) (hn:l.length<=12) (hr:∀p∈l,0<=p.1∧p.1<(pl.length:Int)) :
 Calls Tryz.prog 207 #[.slice s.A s.n s.c,.pointer (some ⟨tb,0,none⟩)] w (SortQ w base s (bkt (l.map (mvA pl)) K)):=by
 have hpos:∀p∈l.map (mvA pl),0<=p.1∧p.1<(K:Int):=fun p hp=>by
  obtain⟨q,hq,rfl⟩:=List.mem_map.1 hp;exact hk.pos _ (plAt_mem (hr q hq).1 (hr q hq).2)
 have HP:=iH hpos;have Hs:=iH h.small;rcases Nat.eq_zero_or_pos s.n with hz|hz
 ·have e0:l=[]:=List.eq_nil_of_length_eq_zero (by have:=h.len;omega);subst e0;have HS:=iH (sort_am (K:=K) h hn (by simp));obtain⟨A,n,c⟩:=s;dsimp only at hz HS⊢;subst hz;clear h hpos HP Hs;go_enter Tryz.func207,Tryz.ntmps207;go_wp2_with fail;refine wp_loop_rounds 1 ?_;rw[rounds_succ];go_wp2_with fail;refine HS.out.mono ?_;rintro e w1 ⟨rfl,hg,hp⟩;go_wp2
  go_end0
  exact⟨rfl,hg,hp⟩
 ·have HR:=iH hr;have HK:=iH hk;have HH:=iH h;have hl:Hid (s.n=l.length):=h.len;have hn12:s.n<=12:=by have:=h.len;omega
  obtain⟨A,n,c⟩:=s;dsimp only at *;obtain⟨g,cap,hv⟩:=row_some h.own hz;cases hv;have HS0:Hid (SrtO w w base g c n l):=⟨⟨rfl,rfl,rfl,Nat.le_refl _,fun _ _ _=>rfl⟩,h.own⟩;clear h hr hk hpos;go_enter Tryz.func207,Tryz.ntmps207;go_wp2_with fail;go_loopw [6] (fun i wr=>∃k:Nat,k<=n∧i=.int .i64 k∧SrtO w wr base g c n ((l.take k).map (mvA pl) ++ l.drop k)) (fun i _=>n-(intOf i).toNat)
  case atStart=>exact⟨0,Nat.zero_le _,rfl,by simpa using HS0.out⟩
  case round =>
   obtain⟨k,hk,rfl,hS⟩:=hrel;have HS:=iH hS;clear hS HS0;by_cases hlt:k<n
   ·have hkl:k<l.length:=by have:=hl.out;omega
    have hln:=mv_len (mvA pl) l k (by omega);have hc:=(own_p2 HS.out.own (k:=k) (by omega)).1;rw[mv_get (mvA pl) l k hkl (by omega)]at hc;have hc2:=(own_p2 HS.out.own (k:=k) (by omega)).2;rw[mv_get (mvA pl) l k hkl (by omega)]at hc2;have HW:=iH (fun(W:World) (h:SrtO w W base g c n ((l.take k).map (mvA pl) ++ l.drop k))=>h.set1 k (plAt pl l[k].1) (by omega));have he:=mv_get (mvA pl) l k hkl (by omega);rw[he]at HW;have HM:=iH (mv_step (mvA pl) l k hkl);have hx:=HR.out l[k] (List.getElem_mem hkl);have HKr:=iH (HK.out.grown HS.out.gr HH.out.own);have HF:Hid (∀W:World,SrtO w W base g c n ((l.take k).map (mvA pl) ++ l.drop k)->SrtO w (W.setCell ⟨g,k*2,none⟩ (.int .i64 (plAt pl l[k].1))) base g c n ((l.take (k+1)).map (mvA pl) ++ l.drop (k+1))):=by
     show ∀W:World,_->_;intro W h;have:=HW.out W h;rw[show(plAt pl l[k].1,l[k].2)=mvA pl l[k] from rfl,HM.out]at this;exact this
    clear HW HM he;have hb:=HKr.out.box;have b0:=hb.k0;have bl:=hb.lt;have gl:g<wr.heap.size:=(HS.out.own.lt g rfl).2;have fz:=HS.out.own.frozenAt (k*2);obtain⟨x,hxx⟩:=Int.eq_ofNat_of_zero_le hx.1;rw[hxx]at hc HF;have hx2:x<pl.length:=by have:=hx.2;omega
    have KC:=iH (place_any (HKr.out.plv.below (Below.refl _ wr).drew) x hx2);have i0:(0:Int)<=(k:Int):=by omega
    have i1:(k:Int)<(n:Int):=by omega
    generalize plAt pl (x:Int)=y at *;clear hx hxx hkl hln hb HKr hc2;go_wp2_with fail;refine wp_region_X (fun w'=>w'.cell? ⟨tb,0,none⟩=some (.func (.func 70) #[] #[.pointer (some ⟨pb,0,none⟩)])∧tb<w'.heap.size∧w'.cell? ⟨g,k*2,none⟩=some (.int .i64 x)∧g<w'.heap.size) 11 (n:=12) rfl (by kernel_rfl) (⟨b0,bl,hc,gl⟩) (fun hS=>?_);refine X_take 0 (some 9) (v:=?_) (listed':=#[true,false,false,false,false,false,false,false,false,false,false,false]) rfl rfl rfl (by kernel_rfl) (fun _ _ _ h=>h) ⟨rfl,?_⟩ hS ?_;rotate_left
    ·intro w' hS';(go_simp;try with_reducible rfl)
    simp only[Act.put,Pa,Pb,Pc];refine X_take 1 (some 10) (v:=?_) (listed':=#[true,true,false,false,false,false,false,false,false,false,false,false]) rfl rfl rfl (by kernel_rfl) (fun _ _ _ h=>h) ⟨rfl,?_⟩ hS ?_;rotate_left
    ·intro w' hS';(go_simp;try with_reducible rfl)
    simp only[Act.put,Pa,Pb,Pc];refine X_take 2 (some 11) (v:=?_) (listed':=#[true,true,true,false,false,false,false,false,false,false,false,false]) rfl rfl rfl (by kernel_rfl) (fun _ _ _ h=>h) ⟨rfl,?_⟩ hS ?_;rotate_left
    ·intro w' hS';obtain⟨e0,e1,_,_⟩:=hS';(go_simp;try with_reducible rfl)
    simp only[Act.put,Pa,Pb,Pc];refine X_take 3 (some 12) (v:=?_) (listed':=#[true,true,true,true,false,false,false,false,false,false,false,false]) rfl rfl rfl (by kernel_rfl) (fun _ _ _ h=>h) ⟨rfl,?_⟩ hS ?_;rotate_left
    ·intro w' hS';(go_simp;try with_reducible rfl)
    simp only[Act.put,Pa,Pb,Pc];refine X_take 4 (some 13) (v:=?_) (listed':=#[true,true,true,true,true,false,false,false,false,false,false,false]) rfl rfl rfl (by kernel_rfl) (fun _ _ _ h=>h) ⟨rfl,?_⟩ hS ?_;rotate_left
    ·intro w' hS';(go_simp;try with_reducible rfl)
    simp only[Act.put,Pa,Pb,Pc];refine X_take 5 (some 14) (v:=?_) (listed':=#[true,true,true,true,true,true,false,false,false,false,false,false]) rfl rfl rfl (by kernel_rfl) (fun _ _ _ h=>h) ⟨rfl,?_⟩ hS ?_;rotate_left
    ·intro w' hS';(go_simp;try with_reducible rfl)
    simp only[Act.put,Pa,Pb,Pc];refine X_take 6 (some 15) (v:=?_) (listed':=#[true,true,true,true,true,true,true,false,false,false,false,false]) rfl rfl rfl (by kernel_rfl) (fun _ _ _ h=>h) ⟨rfl,?_⟩ hS ?_;rotate_left
    ·intro w' hS';(go_simp;try with_reducible rfl)
    simp only[Act.put,Pa,Pb,Pc];refine X_take 7 (some 16) (v:=?_) (listed':=#[true,true,true,true,true,true,true,true,false,false,false,false]) rfl rfl rfl (by kernel_rfl) (fun _ _ _ h=>h) ⟨rfl,?_⟩ hS ?_;rotate_left
    ·intro w' hS';obtain⟨_,_,e0,e1⟩:=hS';(go_simp;try with_reducible rfl)
    simp only[Act.put,Pa,Pb,Pc];refine X_one 8 (listed':=#[true,true,true,true,true,true,true,true,true,false,false,false]) (by kernel_rfl) rfl rfl (fun K hK=>?_);go_simp;refine KC.out.mono ?_;rintro e wA ⟨rfl,rfl⟩;refine hK _ _ hS ?_;clear hK;refine X_one 9 (listed':=#[true,true,true,true,true,true,true,true,true,true,false,false]) (by kernel_rfl) rfl rfl (fun K hK=>?_);go_simp;refine hK _ _ hS ?_;clear hK;refine X_one 10 (listed':=#[true,true,true,true,true,true,true,true,true,true,true,false]) (by kernel_rfl) rfl rfl (fun K hK=>?_);go_simp;refine hK _ _ hS ?_;clear hK;refine X_tail (by kernel_rfl) ?_;refine A_one 11 (listed':=#[true,true,true,true,true,true,true,true,true,true,true,true]) (by kernel_rfl) rfl rfl (fun K hK=>?_);have fz2:wr.drew.frozen? ⟨g,k*2,none⟩=false:=fz;obtain⟨_,_,e0,e1⟩:=hS;go_simp;refine hK _ _ ?_;clear hK;refine A_done (by kernel_rfl) ?_;have HZ:=iH (HF.out _ (HS.out.below (Below.refl _ wr).drew));clear HF HS KC;go_wp2_with fail;go_roundw
    case rel=>exact⟨k+1,by omega,by go_num,HZ.out⟩
    case measure=>simp[intOf];omega
   ·obtain rfl:n=k:=by omega
    have HF:Hid (SrtO w wr base g c n (l.map (mvA pl))):=by
     have h:=HS.out;have e1:l.take n=l:=by rw[hl.out,List.take_length]
     have e2:l.drop n=[]:=by rw[hl.out,List.drop_length]
     rw[e1,e2,List.append_nil]at h;exact iH h
    have hwf:∀p∈l.map (mvA pl),(-9223372036854775808<=p.1∧p.1<=9223372036854775807)∧-9223372036854775808<=p.2∧p.2<=9223372036854775807:=fun p hp=>by
     have hq:=HP.out p hp;have hK:=HK.out.K64;obtain⟨q,hq2,rfl⟩:=List.mem_map.1 hp;exact⟨by omega,(HH.out.wf q hq2).2⟩
    have HO:Hid (PrO wr 151 base ⟨some ⟨g,0,none⟩,n,c⟩ (l.map (mvA pl))):=⟨HF.out.own,by rw[List.length_map];exact hl.out,Hs.out,hwf⟩;have HQ:=iH (sort_am (K:=K) HO.out (by rw[List.length_map];exact hn) HP.out);clear HS hwf HO;go_wp2_with fail;refine HQ.out.mono ?_;rintro e w1 ⟨rfl,hg,hp⟩;have HG:=iH (grown_tr HF.out.gr hg);go_wp2
    go_end0
    exact⟨rfl,HG.out,hp⟩
set_option linter.unusedVariables false
set_option linter.unusedSimpArgs false
abbrev SlP:=Sl×List P2
def amL (pl:List Int) (K:Nat) (l:List P2):List P2:=bkt (l.map (mvA pl)) K
def amP (pl:List Int) (K:Nat) (x:SlP):SlP:=(x.1,amL pl K x.2)
def mvR (pl:List Int) (K:Nat) (r:RuM):RuM:={ r with take:=amL pl K r.take,give:=amL pl K r.give,back:=amL pl K r.back }
def mvW (pl:List Int) (K:Nat) (r:RwM):RwM:={ r with give:=amL pl K r.give }
def mvT (pl:List Int) (K:Nat) (t:TbM):TbM:={ t with rows:=t.rows.map (mvW pl K) }
def ruL (r:RuM):List SlP:=[(r.st,r.take),(r.sg,r.give),(r.sb,r.back)]
def tbL (t:TbM):List SlP:=t.rows.map fun r=>(r.sg,r.give)
def AllP (W:World) (base:Nat) (l:List SlP):Prop:=∀x∈l,PrO W 151 base x.1 x.2
theorem Apart.symm {a b:Sl} (h:Apart a b):Apart b a:=fun g hb ha=>h g ha hb
theorem AllP.step {W W':World} {base:Nat} {pl:List Int} {K:Nat} {done rest:List SlP} {x:SlP} {e:Ending} (h:AllP W base (done.map (amP pl K) ++ x :: rest)) (hd:((done ++ x :: rest).map (·.1)).Pairwise Apart) (hs:SortQ W base x.1 (amL pl K x.2) e W') :
 AllP W' base ((done ++ [x]).map (amP pl K) ++ rest):=by
 rw[List.map_append,List.map_cons,List.pairwise_append]at hd;obtain⟨_,h2,h3⟩:=hd;rw[List.pairwise_cons]at h2;intro y hy;simp only[List.map_append,List.map_cons,List.map_nil,List.append_assoc,List.mem_append,List.mem_singleton]at hy;rcases hy with hy|hy|hy
 ·obtain⟨z,hz,rfl⟩:=List.mem_map.1 hy;have hp:=h _ (List.mem_append_left _ hy);have ha:=h3 z.1 (List.mem_map.2 ⟨z,hz,rfl⟩) x.1 (List.mem_cons_self ..);exact hp.grown hs.2.1 fun g hg hz=>ha g hz hg
 ·subst hy;exact hs.2.2
 ·have hp:=h _ (List.mem_append_right _ (List.mem_cons_of_mem _ hy));have ha:=h2.1 y.1 (List.mem_map.2 ⟨y,hy,rfl⟩);exact hp.grown hs.2.1 fun g hg hz=>ha g hg hz
theorem AllP.below {W W':World} {base:Nat} {l:List SlP} (h:AllP W base l) (hb:Below W.heap.size W W'):AllP W' base l:=fun x hx=>(h x hx).below hb
theorem Bk.keep {W W':World} {g:Nat} {t:TypeId} {xs:List Value} (h:Bk W g t xs) (hk:Keep t W W'):Bk W' g t xs:=hk g _ _ h
theorem RwK.keep {W W':World} {tb pb K:Nat} {pl:List Int} (h:RwK W tb pb pl K) (hk:∀t,t≠151->Keep t W W'):RwK W' tb pb pl K:=by
 obtain⟨gp,h1,h2⟩:=h.plv;exact⟨h.box.keep (hk 122 (by decide)),⟨gp,h1.keep (hk 22 (by decide)),h2.keep (hk 3 (by decide))⟩,h.pos,h.K64⟩
structure RwSt (w W : World) (tb pb b6 b7 K : Nat) (pl : List Int) (m : CatM) : Prop where
 bel:Below w.heap.size w W
 rk:RwK W tb pb pl K
 k6:Bk W b6 28 [.slice none 0 0,.slice none 0 0,.slice none 0 0,.slice none 0 0]
 k7:Bk W b7 28 (catSL m.si m.sr m.st m.sx)
 its:TRow W 42 m.si.A (icells m.items)
 rr:TRow W 149 m.sr.A (m.rules.flatMap RuM.cells)
 tt:TRow W 173 m.st.A (m.tables.flatMap TbM.cells)
 ro:∀t∈m.tables,TRow W 175 t.sr.A (t.rows.flatMap RwM.cells)
 xx:TRow W 93 m.sx.A (m.taxes.flatMap TxM.cells)
 br:∀t∈m.taxes,PrV W 186 t.sb t.brs
theorem RwSt.keep {w W W':World} {tb pb b6 b7 K:Nat} {pl:List Int} {m:CatM} (h:RwSt w W tb pb b6 b7 K pl m) (hk:∀t,t≠151->Keep t W W') (hb:Below w.heap.size w W'):RwSt w W' tb pb b6 b7 K pl m :=
 ⟨hb,h.rk.keep hk,h.k6.keep (hk 28 (by decide)),h.k7.keep (hk 28 (by decide)),h.its.keep (hk 42 (by decide)),h.rr.keep (hk 149 (by decide)),h.tt.keep (hk 173 (by decide)),fun t ht=>(h.ro t ht).keep (hk 175 (by decide)),h.xx.keep (hk 93 (by decide)),fun t ht=>(h.br t ht).keep (hk 186 (by decide))⟩
theorem RwSt.below {w W W':World} {tb pb b6 b7 K:Nat} {pl:List Int} {m:CatM} (h:RwSt w W tb pb b6 b7 K pl m) (hb:Below W.heap.size W W'):RwSt w W' tb pb b6 b7 K pl m :=
 h.keep (fun _ _=>.below hb) (h.bel.trans (hb.mono h.bel.size))
theorem keep_sort {W W':World} {base:Nat} {s:Sl} {l l':List P2} {e:Ending} (hs:SortQ W base s l' e W') (ho:PrO W 151 base s l):∀t,t≠151->Keep t W W':=fun _ ht=>Keep.own ho.own hs.2.1 (Ne.symm ht)
theorem RwSt.sort {w W W':World} {tb pb b6 b7 K base:Nat} {pl:List Int} {m:CatM} {s:Sl} {l l':List P2} {e:Ending} (h:RwSt w W tb pb b6 b7 K pl m) (hs:SortQ W base s l' e W') (ho:PrO W 151 base s l) (hb:w.heap.size<=base):RwSt w W' tb pb b6 b7 K pl m :=
 h.keep (keep_sort hs ho) (h.bel.grown hs.2.1 h.bel.size (fun g hg=>by have:=(ho.at_ hg).1;omega))
structure AmS (W : World) (base : Nat) (pl : List Int) (K : Nat) (done rest : List SlP) : Prop where
 all:AllP W base (done.map (amP pl K) ++ rest)
 ap:((done ++ rest).map (·.1)).Pairwise Apart
 short:∀x∈rest,x.2.length<=12∧∀p∈x.2,0<=p.1∧p.1<(pl.length:Int)
theorem AmS.below {W W':World} {base K:Nat} {pl:List Int} {done rest:List SlP} (h:AmS W base pl K done rest) (hb:Below W.heap.size W W'):AmS W' base pl K done rest:=⟨h.all.below hb,h.ap,h.short⟩
theorem AmS.head {W:World} {base K:Nat} {pl:List Int} {done rest:List SlP} {x:SlP} (h:AmS W base pl K done (x :: rest)):PrO W 151 base x.1 x.2:=h.all x (by simp)
theorem AmS.step {W W':World} {base K:Nat} {pl:List Int} {done rest:List SlP} {x:SlP} {e:Ending} (h:AmS W base pl K done (x :: rest)) (hs:SortQ W base x.1 (amL pl K x.2) e W'):AmS W' base pl K (done ++ [x]) rest :=
 ⟨h.all.step h.ap hs,by simpa using h.ap,fun y hy=>h.short y (List.mem_cons_of_mem _ hy)⟩
theorem AmS.call {w W:World} {tb pb b6 b7 base K:Nat} {pl:List Int} {m:CatM} {done rest:List SlP} {x:SlP} (h:AmS W base pl K done (x :: rest)) (hr:RwSt w W tb pb b6 b7 K pl m) :
 Calls Tryz.prog 207 #[.slice x.1.A x.1.n x.1.c,.pointer (some ⟨tb,0,none⟩)] W (SortQ W base x.1 (amL pl K x.2)) :=
 amounts_rw h.head hr.rk (h.short x (List.mem_cons_self ..)).1 (h.short x (List.mem_cons_self ..)).2
def mvC (pl:List Int) (K:Nat) (m:CatM):CatM:={ m with rules:=m.rules.map (mvR pl K),tables:=m.tables.map (mvT pl K) }
theorem mvR_cells (pl:List Int) (K:Nat) (l:List RuM):(l.map (mvR pl K)).flatMap RuM.cells=l.flatMap RuM.cells:=by
 induction l with
 | nil=>rfl
 | cons a l ih=>simp only[List.map_cons,List.flatMap_cons,ih];rfl
theorem mvW_cells (pl:List Int) (K:Nat) (l:List RwM):(l.map (mvW pl K)).flatMap RwM.cells=l.flatMap RwM.cells:=by
 induction l with
 | nil=>rfl
 | cons a l ih=>simp only[List.map_cons,List.flatMap_cons,ih];rfl
theorem mvT_cells (pl:List Int) (K:Nat) (l:List TbM):(l.map (mvT pl K)).flatMap TbM.cells=l.flatMap TbM.cells:=by
 induction l with
 | nil=>rfl
 | cons a l ih=>simp only[List.map_cons,List.flatMap_cons,ih];rfl
def allL (m:CatM):List SlP:=m.rules.flatMap ruL ++ m.tables.flatMap tbL
theorem rw_ok {w W:World} {tb pb b6 b7 base K:Nat} {pl:List Int} {m:CatM} (h:RwSt w W tb pb b6 b7 K pl m) (ha:AmS W base pl K (allL m) []) (hi:ItsV W m.si m.items) (hn1:m.sr.n=m.rules.length) (hn2:m.st.n=m.tables.length) (hn3:m.sx.n=m.taxes.length)
 (hs:m.sr.n<=100000∧m.st.n<=100000∧m.sx.n<=100000) (hnm:(∀r∈m.rules,r.name.size<=8192)∧(∀t∈m.tables,t.name.size<=8192∧t.sr.n=t.rows.length∧t.sr.n<=100000)∧∀t∈m.taxes,t.name.size<=8192):(mvC pl K m).Ok W:=by
 have hall:=ha.all;rw[List.append_nil]at hall;have hp:∀x∈allL m,PrO W 151 base x.1 (amL pl K x.2):=fun x hx=>hall _ (List.mem_map.2 ⟨x,hx,rfl⟩)
 refine⟨hi,⟨by show TRow W 149 m.sr.A ((m.rules.map (mvR pl K)).flatMap RuM.cells);rw[mvR_cells];exact h.rr,by show m.sr.n=(m.rules.map (mvR pl K)).length;rw[List.length_map];exact hn1,hs.1,fun r' hr=>?_⟩,
  ⟨by show TRow W 173 m.st.A ((m.tables.map (mvT pl K)).flatMap TbM.cells);rw[mvT_cells];exact h.tt,by show m.st.n=(m.tables.map (mvT pl K)).length;rw[List.length_map];exact hn2,hs.2.1,fun r' hr=>?_⟩,
  ⟨h.xx,hn3,hs.2.2,fun t ht=>⟨h.br t ht,hnm.2.2 t ht⟩⟩⟩
 ·obtain⟨r,hr0,rfl⟩:=List.mem_map.1 hr;have hx:∀x∈ruL r,PrO W 151 base x.1 (amL pl K x.2):=fun x hx=>hp x (List.mem_append_left _ (List.mem_flatMap.2 ⟨r,hr0,hx⟩))
  exact⟨(hx (r.st,r.take) (by simp[ruL])).prV,(hx (r.sg,r.give) (by simp[ruL])).prV,(hx (r.sb,r.back) (by simp[ruL])).prV,hnm.1 r hr0⟩
 ·obtain⟨t,ht,rfl⟩:=List.mem_map.1 hr;have hx:∀x∈tbL t,PrO W 151 base x.1 (amL pl K x.2):=fun x hx=>hp x (List.mem_append_right _ (List.mem_flatMap.2 ⟨t,ht,hx⟩))
  refine⟨⟨by show TRow W 175 t.sr.A ((t.rows.map (mvW pl K)).flatMap RwM.cells);rw[mvW_cells];exact h.ro t ht,by show t.sr.n=(t.rows.map (mvW pl K)).length;rw[List.length_map];exact(hnm.2.1 t ht).2.1,(hnm.2.1 t ht).2.2,fun r' hr'=>?_⟩,(hnm.2.1 t ht).1⟩;obtain⟨r,hr,rfl⟩:=List.mem_map.1 hr';exact(hx (r.sg,r.give) (List.mem_map.2 ⟨r,hr,rfl⟩)).prV
theorem CatC.allP {W:World} {base:Nat} {m m':CatM} (h:CatC W base m m'):AllP W base (allL m'):=by
 intro x hx;rcases List.mem_append.1 hx with hx|hx
 ·obtain⟨r',hr,hx⟩:=List.mem_flatMap.1 hx;obtain⟨r,hc⟩:=h.rules.mem hr;simp only[ruL,List.mem_cons,List.not_mem_nil,or_false]at hx;rcases hx with rfl|rfl|rfl
  ·exact hc.take
  ·exact hc.give
  ·exact hc.back
 ·obtain⟨t',ht,hx⟩:=List.mem_flatMap.1 hx;obtain⟨t,hc⟩:=h.tables.mem ht;obtain⟨r',hr,rfl⟩:=List.mem_map.1 hx;obtain⟨r,hd⟩:=hc.rows.mem hr;exact hd.give
theorem allL_fst (m:CatM):(allL m).map (·.1)=m.rules.flatMap ruS ++ m.tables.flatMap tbS:=by
 have h1:∀l:List RuM,(l.flatMap ruL).map (·.1)=l.flatMap ruS:=fun l=>by
  induction l with
  | nil=>rfl
  | cons a l ih=>simp only[List.flatMap_cons,List.map_append,ih];rfl
 have h3:∀l:List RwM,(l.map fun r=>(r.sg,r.give)).map (·.1)=l.flatMap rwS:=fun l=>by
  induction l with
  | nil=>rfl
  | cons a l ih=>simp only[List.map_cons,List.flatMap_cons,ih];rfl
 have h2:∀l:List TbM,(l.flatMap tbL).map (·.1)=l.flatMap tbS:=fun l=>by
  induction l with
  | nil=>rfl
  | cons a l ih=>simp only[List.flatMap_cons,List.map_append,ih];rw[tbL,h3];rfl
 simp only[allL,List.map_append,h1,h2]
theorem CatC.apartL {W:World} {base:Nat} {m m':CatM} (h:CatC W base m m'):((allL m').map (·.1)).Pairwise Apart:=by
 rw[allL_fst,List.pairwise_append];exact⟨h.rules.2.2,h.tables.2.2,h.ap⟩
end Go.Proofs.YtiecjoijnkghbaaGreatDoor
