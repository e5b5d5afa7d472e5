/- MarkMatches: the walk. The generator of changed catalogs: a copy of a row, a number, a changed amount list. -/
import Derived.Test.YtocodlpgaamblaaGreatDoorL16
import Derived.Test.YtocodlpgaamblaaGreatDoorL18
import Derived.Laws.AppendOwnNone
set_option linter.unusedVariables false
set_option linter.unusedSimpArgs false
set_option maxRecDepth 100000
set_option maxHeartbeats 4000000
open Go.RowKit
namespace Go.Proofs.YtocodlpgaamblaaGreatDoor
structure MksV (w : World) (A : Option Addr) (Ms : List MkM) : Prop where
 row:TRow w 35 A (mcells Ms)
 each:∀M∈Ms,M.Ok w 35 (fun _=>True)
theorem MksV.below {w w':World} {A:Option Addr} {Ms:List MkM} (h:MksV w A Ms) (hb:Below w.heap.size w w'):MksV w' A Ms:=⟨h.row.keep (.below hb),fun M hM=>(h.each M hM).bel hb⟩
theorem MksV.at_ {w:World} {A:Option Addr} {Ms:List MkM} (h:MksV w A Ms) (k:Nat) (hk:k<Ms.length):∃b off,A=some ⟨b,off,none⟩∧b<w.heap.size∧∀r u,(Ms[k]).cells[r]? = some u->w.cell? ⟨b,off+k*4+r,none⟩=some u :=
 TRow.at_ (f:=MkM.cells) MkM.cells_len h.row k hk (by omega)
section
theorem own_capN {W:World} {base:Nat} {e:TypeId} {size n c:Nat} {A:Option Addr} {xs:List Value} (h:W.ownsRow base e size (.slice A n c) n xs):n<=c:=by
 rcases h.2 with ⟨hv,hn⟩|⟨g,cap,cur,hv,_,_,hc,_⟩
 ·omega
 ·cases hv;exact hc
theorem pcells_length (l:List P2):(pcells l).length=l.length*2:=flat_len pc_len l
theorem icells_set (l:List It) (k:Nat) (t:It) (h:k<l.length):icells (l.set k t)=(((((((icells l).set (k*7) (.string t.name)).set (k*7+1) (.bool t.object)).set (k*7+2) (.bool t.mixed)).set (k*7+3) (.bool t.coin)).set (k*7+4) (.int .i64 t.wear)).set (k*7+5) (.int .i64 t.bnd)).set (k*7+6) (.int .i64 t.level):=by
 induction l generalizing k with
 | nil=>simp at h
 | cons a l ih =>
   cases k with
   | zero=>simp[icells]
   | succ k =>
     have:=ih k (by simpa using h);have e:(k+1)*7=k*7+1+1+1+1+1+1+1:=by omega
     rw[List.set_cons_succ,icells_cons,this,icells_cons,e];simp[List.set_cons_succ]
section
variable {P : Program} {w : World}
theorem run_clone_nil (t ty e:TypeId) (i:TypeInfo) (ht:P.underlying t=some (.slice e)) (hi:P.info? e=some i) (c:Nat) :
 (Builtin.append_ #[t,t] ty #[.slice none 0 0,.slice none 0 c]).run P w=.ok (.slice none 0 0) w:=by
 simp[Builtin.append_,run_underlying ht,sizeOf,typeInfo,hi,Builtin.lenOf,Builtin.firstCells]
theorem wpList_clone {ops:Array Oper} {rest:List Oper} {o:Oper} {a:Act} {Q:Exit->Act->World->Prop} (hgd:o.guard=none) (s x:Operand) (t:TypeId)
 (ho:o.op=.call { callee:=.builtin .append,args:=#[s,x],argTypes:=#[t,t] })
 (base:Nat) (e:TypeId) (i:TypeInfo) (z:Value) (size bytes:Nat) (ht:P.underlying t=some (.slice e)) (hi:P.info? e=some i) (hz:i.zero=some z)
 (hsize:i.size=size) (hby:i.bytes=bytes) (hzs:z.cells.size=size) (hsz:0<size) (hs:a.eval s=.slice none 0 0)
 (A:Option Addr) (m c:Nat) (news:List Value) (hx:a.eval x=.slice A m c) (hl:news.length=m*size) (hr:Row w w.heap.size A news) (h1:∀u∈news,u.oneCell'=true)
 (h63:m<=maxLen) (hbytes:m*bytes<=140737488355328) (hbase:base<=w.heap.size)
 (h:∀v' w',w'.ownsRow base e size v' m news->Below w.heap.size w w'->wpList P ops Q rest (a.put o.dst v') w'):wpList P ops Q (o :: rest) a w:=by
 have key:∀ad:Addr,A=some ad->(∀j u,news[j]? = some u->w.cell? (ad.add j)=some u)->wpList P ops Q (o :: rest) a w:=fun ad hA hc=>by
  subst hA;refine wpList_append_own_at _ hgd s x t ho base e i z size bytes ht hi hz hsize hby hzs hsz _ 0 [] hs (World.ownsRow_nil _ _ _ _) ad m c news hx hl hc h1 (by omega) (by rw[Nat.zero_add];exact hbytes) hbase fun v' w' h2 h3 _ _=>h v' w' (by simpa using h2) ⟨h3.os,h3.tape,h3.output,h3.size,fun b hb=>h3.block b hb (by simp[Value.ownBlock])⟩
 rcases hr with h0|⟨b,off,hA,hb,hc⟩
 ·cases A with
  | some ad=>exact key ad rfl (fun j u hu=>by rw[h0]at hu;simp at hu)
  | none =>
    have hm:m=0:=by
     rw[h0]at hl;rcases Nat.eq_zero_or_pos m with e|e
     ·exact e
     ·have:=Nat.mul_pos e hsz;simp at hl;omega
    subst hm;refine wpList_plain hgd fun K hK=>?_
    have hrun:=run_clone_nil (P:=P) (w:=w) t o.type e i ht hi c;unfold Oper.wp;simp[execOp,ho,resolve,invoke,builtin,hs,hx,hrun,Result.andThen];refine hK _ _ (h _ _ ?_ (Below.refl _ _));rw[h0];exact World.ownsRow_nil _ _ _ _
 ·refine key _ hA fun j u hu=>?_
  have e1:(⟨b,off,none⟩:Addr).add j=⟨b,off+j,none⟩:=by
   unfold Addr.add;split
   ·subst_vars;rfl
   ·rfl
  rw[e1];exact hc j u hu
end
def NumG (V:World) (g:Nat) (e:Ending) (W:World):Prop:=∃x,e=.returned (.int .i64 x)∧In64 x∧GSt V W g
abbrev nums12:List Value:=[.int .i64 0,.int .i64 1,.int .i64 (-1),.int .i64 2,.int .i64 100,.int .i64 101,.int .i64 1000000,.int .i64 1000001,.int .i64 1048576,.int .i64 1048577,.int .i64 10000,.int .i64 10001]
theorem nums12_at (j:Nat) (h:j<12):∃x,nums12[j]? = some (.int .i64 x)∧In64 x:=by
 rcases(show j=0∨j=1∨j=2∨j=3∨j=4∨j=5∨j=6∨j=7∨j=8∨j=9∨j=10∨j=11 by omega)with rfl|rfl|rfl|rfl|rfl|rfl|rfl|rfl|rfl|rfl|rfl|rfl
 ·exact⟨_,rfl,by unfold In64;omega⟩
 ·exact⟨_,rfl,by unfold In64;omega⟩
 ·exact⟨_,rfl,by unfold In64;omega⟩
 ·exact⟨_,rfl,by unfold In64;omega⟩
 ·exact⟨_,rfl,by unfold In64;omega⟩
 ·exact⟨_,rfl,by unfold In64;omega⟩
 ·exact⟨_,rfl,by unfold In64;omega⟩
 ·exact⟨_,rfl,by unfold In64;omega⟩
 ·exact⟨_,rfl,by unfold In64;omega⟩
 ·exact⟨_,rfl,by unfold In64;omega⟩
 ·exact⟨_,rfl,by unfold In64;omega⟩
 ·exact⟨_,rfl,by unfold In64;omega⟩
theorem number_g {w:World} {g:Nat} (h:GOk w g):Calls Tryz.prog 77 #[.pointer (some ⟨g,0,none⟩)] w (NumG w g):=by
 have kb:=Bk.new w 3 nums12;have H1:=iH (((GSt.refl h).alloc (.cells nums12.toArray 3)));have hg:=h.lt;have KB:=iH kb;clear h kb;dsimp only[nums12]at H1 KB;have K:Hid (Calls Tryz.prog 37 #[.pointer (some ⟨g,0,none⟩),.int .i64 12] (w.alloc (.cells #[.int .i64 0,.int .i64 1,.int .i64 (-1),.int .i64 2,.int .i64 100,.int .i64 101,.int .i64 1000000,.int .i64 1000001,.int .i64 1048576,.int .i64 1048577,.int .i64 10000,.int .i64 10001] 3)) (NextG _ g 12)):=next_g 12 H1.out.ok (by omega) (by omega);go_enter Tryz.func77,Tryz.ntmps77;go_wp2_with fail;(with_reducible refine K.out.mono ?_);rintro e w2 ⟨x,rfl,x0,x1,hs⟩;obtain⟨j,rfl⟩:=Int.eq_ofNat_of_zero_le x0;obtain⟨y,hy,hin⟩:=nums12_at j (by omega);have kb2:Bk w2 w.heap.size 3 nums12:=hs.bk KB.out (by omega);have hc:w2.cell? ⟨w.heap.size,j,none⟩=some (.int .i64 y):=(kb2.cell j).trans hy;have hl:=kb2.lt;have HT:=iH (H1.out.trans hs);have Hin:=iH hin;clear hs kb2 hy K KB H1 hin;go_wp2;go_ret;exact⟨y,rfl,Hin.out,HT.out⟩
theorem pcells_set (l:List P2) (k:Nat) (x y:Int) (h:k<l.length):pcells (l.set k (x,y))=((pcells l).set (k*2) (.int .i64 x)).set (k*2+1) (.int .i64 y):=by
 induction l generalizing k with
 | nil=>simp at h
 | cons a l ih =>
   cases k with
   | zero=>simp[pcells]
   | succ k =>
     have:=ih k (by simpa using h);have e:(k+1)*2=k*2+1+1:=by omega
     simp only[pcells,List.set_cons_succ,List.flatMap_cons]at this⊢;rw[this,e];simp[pc]
structure AmB (V W : World) (g bx : Nat) (x y : Int) (v : Value) (n : Nat) (l : List P2) : Prop where
 st:GSt V W g
 own:W.ownsRow V.heap.size 132 2 v n (pcells l)
 bk:Bk W bx 132 [.int .i64 x,.int .i64 y]
 ge:V.heap.size<=bx
 far:∀b,v.ownBlock=some b->b<bx
section
variable {V W W' : World} {g bx n : Nat} {x y : Int} {v : Value} {l : List P2}
theorem AmB.next (h:AmB V W g bx x y v n l) (k:GSt W W' g):AmB V W' g bx x y v n l :=
 ⟨h.st.trans k,k.own h.own (fun e=>by have:=row_base h.own g e;have:=h.st.lt;omega),k.bk h.bk (by have:=h.st.lt;have:=h.ge;omega),h.ge,h.far⟩
theorem AmB.below (h:AmB V W g bx x y v n l) (hb:Below W.heap.size W W'):AmB V W' g bx x y v n l:=h.next ((GSt.refl h.st.ok).below hb)
def AmtB (V:World) (g n:Nat) (e:Ending) (W:World):Prop:=∃A k c l,e=.returned (.slice A k c)∧PrV W 132 ⟨A,k,c⟩ l∧l.length<=n+1∧GSt V W g
theorem AmB.put {gv cap k:Nat} (h:AmB V W g bx x y (.slice (some ⟨gv,0,none⟩) n cap) n l) (hl:l.length=n) (hk:k<n) :
 (((W.setCell ⟨gv,k*2,none⟩ (.int .i64 x)).setCell ⟨gv,k*2+1,none⟩ (.int .i64 y))).ownsRow V.heap.size 132 2 (.slice (some ⟨gv,0,none⟩) n cap) n (pcells (l.set k (x,y)))∧GSt V ((W.setCell ⟨gv,k*2,none⟩ (.int .i64 x)).setCell ⟨gv,k*2+1,none⟩ (.int .i64 y)) g:=by
 have hb:=row_base h.own gv rfl;refine⟨?_,(h.st.set _ _ _ hb).set _ _ _ hb⟩;rw[pcells_set l k x y (by omega)];exact((h.own.stored (k*2) (.int .i64 x)).1.stored (k*2+1) (.int .i64 y)).1
theorem AmB.cellk {gv cap k:Nat} (h:AmB V W g bx x y (.slice (some ⟨gv,0,none⟩) n cap) n l) (hl:l.length=n) (hk:k<n) :
 W.cell? ⟨gv,k*2,none⟩=some (.int .i64 (l[k]'(by omega)).1)∧W.cell? ⟨gv,k*2+1,none⟩=some (.int .i64 (l[k]'(by omega)).2):=by
 have hc:=h.own.cells (g:=gv) rfl;have hlk:k<l.length:=by omega
 have e0:=flat_get (f:=pc) pc_len l k 0 hlk (by omega);have e1:=flat_get (f:=pc) pc_len l k 1 hlk (by omega);have h0:=hc (k*2) _ e0;have h1:=hc (k*2+1) _ e1;simp only[Addr.add]at h0 h1;refine⟨?_,?_⟩
 ·by_cases hz:k*2=0
  ·rw[if_pos hz]at h0;rw[hz];exact h0
  ·rw[if_neg hz,Nat.zero_add]at h0;exact h0
 ·rw[if_neg (by omega),Nat.zero_add]at h1;exact h1
theorem amtB_own {A:Option Addr} {c n0:Nat} (ho:W.ownsRow V.heap.size 132 2 (.slice A n c) n (pcells l)) (hn:l.length=n) (hs:n<=n0+1) (hn0:n0<=1000) (hst:GSt V W g)
 (hwf:∀p∈l,(-9223372036854775808<=p.1∧p.1<=9223372036854775807)∧-9223372036854775808<=p.2∧p.2<=9223372036854775807):AmtB V g n0 (.returned (.slice A n c)) W :=
 ⟨A,n,c,l,rfl,⟨TRow.of_own ho,hn.symm,by dsimp only;omega,hwf⟩,by omega,hst⟩
end
abbrev nums6:List Value:=[.int .i64 0,.int .i64 1,.int .i64 3,.int .i64 (-1),.int .i64 1099511627776,.int .i64 1099511627777]
theorem nums6_at (j:Nat) (h:j<6):∃x,nums6[j]? = some (.int .i64 x)∧-1<=x∧x<=1099511627777:=by
 rcases(show j=0∨j=1∨j=2∨j=3∨j=4∨j=5 by omega)with rfl|rfl|rfl|rfl|rfl|rfl
 ·exact⟨_,rfl,by omega,by omega⟩
 ·exact⟨_,rfl,by omega,by omega⟩
 ·exact⟨_,rfl,by omega,by omega⟩
 ·exact⟨_,rfl,by omega,by omega⟩
 ·exact⟨_,rfl,by omega,by omega⟩
 ·exact⟨_,rfl,by omega,by omega⟩
theorem pcells_one (l:List P2):∀u∈pcells l,u.oneCell'=true:=by
 intro u hu;simp only[pcells,List.mem_flatMap]at hu;obtain⟨p,_,hp⟩:=hu;simp only[pc,List.mem_cons,List.not_mem_nil,or_false]at hp;rcases hp with rfl|rfl <;> rfl
theorem wf_set {l:List P2} {k:Nat} {x y:Int} (h:∀p∈l,(-9223372036854775808<=p.1∧p.1<=9223372036854775807)∧-9223372036854775808<=p.2∧p.2<=9223372036854775807) (hx : -1<=x∧x<=100) (hy : -1<=y∧y<=1099511627777) :
 ∀p∈l.set k (x,y),(-9223372036854775808<=p.1∧p.1<=9223372036854775807)∧-9223372036854775808<=p.2∧p.2<=9223372036854775807:=fun p hp=>by
 rcases List.mem_or_eq_of_mem_set hp with h1|h1
 ·exact h p h1
 ·subst h1;dsimp only;omega
theorem wf_snoc {l:List P2} {x y:Int} (h:∀p∈l,(-9223372036854775808<=p.1∧p.1<=9223372036854775807)∧-9223372036854775808<=p.2∧p.2<=9223372036854775807) (hx : -1<=x∧x<=100) (hy : -1<=y∧y<=1099511627777) :
 ∀p∈l ++ [(x,y)],(-9223372036854775808<=p.1∧p.1<=9223372036854775807)∧-9223372036854775808<=p.2∧p.2<=9223372036854775807:=fun p hp=>by
 rcases List.mem_append.1 hp with h1|h1
 ·exact h p h1
 ·rw[List.mem_singleton.1 h1];dsimp only;omega
theorem amountsBent_g {w:World} {g:Nat} {s:Sl} {l:List P2} (h:GOk w g) (hl:PrV w 132 s l) (hn:l.length<=1000):Calls Tryz.prog 78 #[.slice s.A s.n s.c,.pointer (some ⟨g,0,none⟩)] w (AmtB w g l.length):=by
 obtain⟨i0,hinf,hz0,hz1,hz2⟩:=info_parts info132;obtain⟨A,n,c⟩:=s;have hlen:l.length=n:=hl.len.symm;have Hlen:=iH hlen;have Hpl:Hid ((pcells l).length=n*2):=by show _=_;rw[pcells_length,hlen]
 have Hrow:Hid (Row w w.heap.size A (pcells l)):=hl.row.row;have Hwf:=iH hl.wf;have HG:=iH h;have hgl:=h.lt;rw[hlen]at hn⊢;clear h hl hlen;go_enter Tryz.func78,Tryz.ntmps78;go_wp2_with(at_builtin;refine wpList_clone rfl (.tmp 7) (.tmp 8) 78 rfl w.heap.size 132 i0 (.agg #[.int .i64 0,.int .i64 0]) 2 16 Tryz.underlying78 hinf hz0 hz1 hz2 rfl (by decide) rfl A n c (pcells l) rfl Hpl.out Hrow.out (pcells_one l) (by unfold maxLen;omega) (by omega) (Nat.le_refl _) ?_);intro v w1 hown hb1;have HG1:=iH ((GSt.refl HG.out).below hb1);have HO1:=iH hown;have hs1:=hb1.size;clear hb1 hown HG Hrow Hpl;go_wp2_with fail;(with_reducible refine(next_g 11 HG1.out.ok (by omega) (by omega)).mono ?_);rintro e w2 ⟨x,rfl,x0,x1,hs⟩;have hs2:=hs.size;have HG2:=iH (HG1.out.trans hs);have HO2:=iH (hs.own HO1.out (fun e=>by have:=row_base HO1.out g e;omega));clear hs HG1 HO1;have kb:=Bk.new w2 3 nums6;have KB:=iH kb;have HG3:=iH (HG2.out.alloc (.cells nums6.toArray 3));have HO3:=iH (HO2.out.alloc (.cells nums6.toArray 3));clear kb HG2 HO2;dsimp only[nums6]at KB HG3 HO3;have K:Hid (Calls Tryz.prog 37 #[.pointer (some ⟨g,0,none⟩),.int .i64 6] (w2.alloc (.cells #[.int .i64 0,.int .i64 1,.int .i64 3,.int .i64 (-1),.int .i64 1099511627776,.int .i64 1099511627777] 3)) (NextG _ g 6)):=next_g 6 HG3.out.ok (by omega) (by omega);go_wp2_with fail;(with_reducible refine K.out.mono ?_);rintro e w3 ⟨q,rfl,q0,q1,hs⟩;obtain⟨j,rfl⟩:=Int.eq_ofNat_of_zero_le q0;obtain⟨y,hy,y0,y1⟩:=nums6_at j (by omega);have kb2:Bk w3 w2.heap.size 3 nums6:=hs.bk KB.out (by omega);have hc:w3.cell? ⟨w2.heap.size,j,none⟩=some (.int .i64 y):=(kb2.cell j).trans hy;have hl3:=kb2.lt;have HG4:=iH (HG3.out.trans hs);have HO4:=iH (hs.own HO3.out (fun e=>by have:=row_base HO3.out g e;omega));clear hs kb2 hy K KB HG3 HO3;obtain⟨A1,c1,hv,_⟩:=row_of_owns HO4.out;subst hv;have hfar:∀b,(Value.slice A1 n c1).ownBlock=some b->b<w3.heap.size:=fun b e=>(HO4.out.lt b e).2
 have HS0:Hid (AmB w (w3.alloc (.cells #[.int .i64 (x-1),.int .i64 y] 132)) g w3.heap.size (x-1) y (.slice A1 n c1) n l) :=
  ⟨HG4.out.alloc _,HO4.out.alloc _,Bk.new w3 132 [.int .i64 (x-1),.int .i64 y],by omega,hfar⟩
 clear HG4 HO4 hfar;go_upto_region 4 with fail;obtain⟨W4,hW4⟩:∃W4,w3.alloc (.cells #[.int .i64 (x-1),.int .i64 y] 132)=W4:=⟨_,rfl⟩;rw[hW4]at HS0⊢;obtain⟨bx,hbx⟩:∃bx,w3.heap.size=bx:=⟨_,rfl⟩;rw[hbx]at HS0⊢;obtain⟨z,hz⟩:∃z,x-1=z:=⟨_,rfl⟩;have hzb : -1<=z∧z<=100:=by omega
 rw[hz]at HS0⊢;clear hW4 hbx hz hc hl3 hs2 hs1 x0 x1 q0 q1;obtain⟨x,hx⟩:∃x,z=x:=⟨_,rfl⟩;rw[hx]at HS0 hzb⊢;clear hx;go_cut [26] (fun v wx=>∃q:Bool,v=.bool q∧(q=true->0<n)∧AmB w wx g bx x y (.slice A1 n c1) n l)
 case first =>
  rcases Nat.eq_zero_or_pos n with hn0|hn0
  ·subst hn0;go_wp2;go_meet;exact⟨false,rfl,fun e=>by simp at e,HS0.out⟩
  ·have e1:decide ((0:Int)<(n:Int))=true:=decide_eq_true (by omega);have e2:(0:Int)<(n:Int):=by omega
   go_wp2_with fail;(with_reducible refine(next_g 2 HS0.out.st.ok (by omega) (by omega)).mono ?_);rintro e w5 ⟨k,rfl,k0,k1,hs⟩;have HS5:=iH (HS0.out.next hs);clear hs HS0;obtain⟨q,hq⟩:∃q,(k == 0)=q:=⟨_,rfl⟩;go_wp2;go_meet;exact⟨_,rfl,fun _=>hn0,HS5.out⟩
 case rest =>
  clear HS0;obtain⟨q,rfl,hq,hS⟩:=hcut;have HS:=iH hS;clear hS;obtain⟨W5,hW⟩:∃W5,wc=W5:=⟨_,rfl⟩;rw[hW]at HS⊢;clear hW;cases q
  ·have y0':W5.cell? ⟨bx,0,none⟩=some (.int .i64 x):=HS.out.bk.cell 0;have y1':W5.cell? ⟨bx,1,none⟩=some (.int .i64 y):=HS.out.bk.cell 1;have yl:=HS.out.bk.lt;have HS6:=iH (HS.out.below ((Below.refl _ _).alloc (Nat.le_refl _) (.cells #[.int .i64 x,.int .i64 y] 132)));have hsz:=HS6.out.st.size;clear hq HS;go_wp2_with(at_builtin;refine wpList_append_lies _ rfl (.tmp 35) (.tmp 37) 78 rfl w.heap.size 132 i0 (.agg #[.int .i64 0,.int .i64 0]) 2 16 Tryz.underlying78 hinf hz0 hz1 hz2 rfl (by decide) _ n (pcells l) rfl HS6.out.own ⟨W5.heap.size,0,none⟩ 1 1 [.int .i64 x,.int .i64 y] rfl rfl (new2 _ _ _ _) (one2 _ _) (by omega) (by unfold maxLen;omega) (by omega) hsz (W5.heap.size+1) (by simp) ?_);intro g' cap w8 hown8 hgr8 _ _;have hb8:=row_base HS6.out.own;have HF:=iH (HS6.out.st.grow hgr8 hb8);have HO8:Hid (w8.ownsRow w.heap.size 132 2 (.slice (some ⟨g',0,none⟩) (n+1) cap) (n+1) (pcells (l ++ [(x,y)]))):=by show World.ownsRow _ _ _ _ _ _ _;rw[pcells_snoc];exact hown8
   clear hown8 hgr8 hb8 HS6;go_wp2;go_ret;exact amtB_own HO8.out (by simp[Hlen.out]) (by omega) (by omega) HF.out (wf_snoc Hwf.out hzb ⟨y0,y1⟩)
  ·have hn0:=hq rfl;obtain⟨gv,cap,hv,_,_⟩:=HS.out.own.form hn0;cases hv;have KI:Hid (Calls Tryz.prog 37 #[.pointer (some ⟨g,0,none⟩),.int .i64 (n:Int)] W5.drew (NextG W5.drew g (n:Int))):=next_g (n:Int) (HS.out.below (Below.refl _ _).drew).st.ok (by omega) (by omega);have HS':=iH (HS.out.below (Below.refl _ _).drew);clear HS hq;have HS:=iH HS'.out;clear HS';go_wp2_with fail;refine wp_region_X (fun w'=>Bk w' bx 132 [.int .i64 x,.int .i64 y]) 7 (n:=8) rfl (by kernel_rfl) (HS.out.bk) (fun hS=>?_);refine tX 0 (some 27) (v:=?_) rfl ⟨rfl,?_⟩ hS ?_;rotate_left
   ·intro w' hS';(go_simp;try with_reducible rfl)
   refine tX 1 (some 28) (v:=?_) rfl ⟨rfl,?_⟩ hS ?_;rotate_left
   ·intro w' hS';(go_simp;try with_reducible rfl)
   refine tX 2 (some 29) (v:=?_) rfl ⟨rfl,?_⟩ hS ?_;rotate_left
   ·intro w' hS';(go_simp;try with_reducible rfl)
   refine tX 3 (some 30) (v:=?_) rfl ⟨rfl,?_⟩ hS ?_;rotate_left
   ·intro w' hS';(go_simp;try with_reducible rfl)
   refine tX 5 (some 32) (v:=?_) rfl ⟨rfl,?_⟩ hS ?_;rotate_left
   ·intro w' hS';have e0:=hS'.k0;have e1:=hS'.k1;have el:=hS'.lt;(go_simp;try with_reducible rfl)
   refine X_o 4 rfl fun K hK=>?_;go_simp;(with_reducible refine KI.out.mono ?_);rintro e w6 ⟨k0,rfl,k00,k01,hs⟩;obtain⟨k,rfl⟩:=Int.eq_ofNat_of_zero_le k00;have HS6:=iH (HS.out.next hs);refine hK _ _ HS6.out.bk ?_;clear hs hK k00;refine X_o 6 rfl fun K hK=>?_;go_simp;refine hK _ _ HS6.out.bk ?_;clear hK;refine X_tail (by kernel_rfl) ?_;refine A_one 7 (by kernel_rfl) rfl rfl (fun K hK=>?_);have hkn:k<n:=by omega
   have HP:=iH (HS6.out.put Hlen.out hkn);have zz:=HS6.out.cellk Hlen.out hkn;have z0:=zz.1;have z1:=zz.2;have f0:=HS6.out.own.frozenAt (k*2);have f1:=HS6.out.own.frozenAt (k*2+1);have gl:=(HS6.out.own.lt gv rfl).2;clear zz;go_simp;refine hK _ _ ?_;clear hK;refine A_done (by kernel_rfl) ?_;go_wp2;go_ret;exact amtB_own HP.out.1 (by simp[Hlen.out]) (by omega) (by omega) HP.out.2 (wf_set Hwf.out hzb ⟨y0,y1⟩)
end
end Go.Proofs.YtocodlpgaamblaaGreatDoor
