/- The generator of changed catalogs: a changed table. The generator of changed catalogs: a number's digits; a catalog whose lists are rows of its own. The generator of changed catalogs: a list copied, an element written anew. -/
import Derived.Test.YtiecjoijnkghbaaGreatDoorY17
set_option linter.unusedVariables false
set_option linter.unusedSimpArgs false
set_option maxRecDepth 100000
set_option maxHeartbeats 4000000
open Go.RowKit
namespace Go.Proofs.YtiecjoijnkghbaaGreatDoor
section
set_option linter.unusedVariables false
set_option linter.unusedSimpArgs false
section
theorem rcells_set (rows:List RwM) (k:Nat) (l2:List P2) (s:Sl) (h:k<rows.length):(rows.set k ⟨rows[k].weight,l2,s⟩).flatMap RwM.cells=(rows.flatMap RwM.cells).set (k*2+1) (.slice s.A s.n s.c):=by
 induction rows generalizing k with
 | nil=>simp at h
 | cons a rows ih =>
   cases k with
   | zero=>simp
   | succ k =>
     have:=ih k (by simpa using h);have e:(k+1)*2+1=k*2+1+1+1:=by omega
     rw[List.set_cons_succ,List.flatMap_cons,List.flatMap_cons,e];simp only[List.getElem_cons_succ,this];simp[RwM.cells]
def downR:Nat->List RwM
 | 0=>[]
 | k+1=>⟨((k+1:Nat):Int),[],sz0⟩ :: downR k
theorem downR_app (l:List RwM) (k:Nat) (h:0<k):(l ++ [(⟨(k:Int),[],sl0⟩:RwM)]).map RwM.core ++ downR (k-1)=l.map RwM.core ++ downR k:=by
 cases k with
 | zero=>omega
 | succ k=>simp[downR,RwM.core]
def tbBF (t:TbM) (s:Sd):TbM×Sd :=
 if dr s 4=0 then({ t.core with name:=names4tF (dr (nx s) 4) },nx (nx s)) else if dr s 4=1 then(⟨t.name,t.rows.map RwM.core ++ [⟨num12 (dr (nx s) 12),[],sz0⟩],sz0⟩,nx (nx s))
 else if dr s 4=2 then(⟨t.name,(t.rows.map RwM.core).set (dr (nx s) (t.rows.length:Int)).toNat ⟨(t.rows[(dr (nx s) (t.rows.length:Int)).toNat]?.getD ⟨0,[],sz0⟩).weight,(amtF (t.rows[(dr (nx s) (t.rows.length:Int)).toNat]?.getD ⟨0,[],sz0⟩).give (nx (nx s))).1,sz0⟩,sz0⟩,(amtF (t.rows[(dr (nx s) (t.rows.length:Int)).toNat]?.getD ⟨0,[],sz0⟩).give (nx (nx s))).2)
 else(⟨t.name,(t.rows.take (dr (nx s) 2).toNat).map RwM.core ++ downR (dr (nx (nx s)) 70).toNat,sz0⟩,nx (nx (nx s)))
structure RsAt (V W : World) (g : Nat) (s : Sd) (q : Nat) (nm : ByteArray) (vb v : Value) (n : Nat) (rows : List RwM) : Prop where
 bx:BxAt V W g s 173 [.string nm,vb] [.string ⟨#[]⟩,.slice none 0 0]
 own:W.ownsRow V.heap.size 175 2 v n (rows.flatMap RwM.cells)
 len:rows.length=n
 each:∀r∈rows,r.Ok W
 short:∀r∈rows,r.give.length<=q+1
section
variable {V W W' : World} {g q n : Nat} {s s' : Sd} {nm : ByteArray} {vb v : Value} {rows : List RwM}
theorem RsAt.next (h:RsAt V W g s q nm vb v n rows) (k:GSp W W' g s'):RsAt V W' g s' q nm vb v n rows :=
 ⟨h.bx.next k,k.own h.own (fun e=>by have:=row_base h.own g e;have:=h.bx.st.lt;omega),h.len,fun r hr=>PrV.keep (h.each r hr) (k.keep h.bx.st.ok 151 (by decide)),h.short⟩
theorem RsAt.below (h:RsAt V W g s q nm vb v n rows) (hb:Below W.heap.size W W'):RsAt V W' g s q nm vb v n rows:=h.next ((GSp.refl h.bx.st.ok).below hb)
theorem RsAt.app {v':Value} {x:Int} {m:Nat} (h:RsAt V W g s q nm vb v n rows) (hg:W.grownBy W' v.ownBlock) (ho:W'.ownsRow V.heap.size 175 2 v' m (rows.flatMap RwM.cells ++ [.int .i64 x,.slice none 0 0])) (hm:m=n+1):RsAt V W' g s q nm vb v' m (rows ++ [⟨x,[],sl0⟩]):=by
 have hbase:=row_base h.own;refine⟨⟨h.bx.st.grow hg hbase,h.bx.bk.grown hg (fun e=>row_neT h.own h.bx.bk (by decide) e.symm),h.bx.res.grown hg (fun e=>row_neT h.own h.bx.res (by decide) e.symm)⟩,by rw[List.flatMap_append];exact ho,by simp[h.len,hm],fun r hr=>?_,fun r hr=>?_⟩
 ·rcases List.mem_append.1 hr with h1 | h1
  ·exact PrV.keep (h.each r h1) (Keep.own h.own hg (by decide))
  ·rw[List.mem_singleton.1 h1];exact⟨.inl rfl,rfl,by simp,by simp⟩
 ·rcases List.mem_append.1 hr with h1 | h1
  ·exact h.short r h1
  ·rw[List.mem_singleton.1 h1];simp
theorem RsAt.put (h:RsAt V W g s q nm vb v n rows) (u:Value):RsAt V (W.setCell ⟨V.heap.size,1,none⟩ u) g s q nm u v n rows :=
 ⟨h.bx.set 1 u _ rfl,h.own.kept (grown_setCell W _ 1 u) (.inr (row_neT h.own h.bx.bk (by decide))),h.len,fun r hr=>PrV.keep (h.each r hr) (Keep.setCell h.bx.bk (by decide) _),h.short⟩
theorem RsAt.give {gv cap k:Nat} {B:Option Addr} {m2 c2:Nat} {l2:List P2} (h:RsAt V W g s q nm vb (.slice (some ⟨gv,0,none⟩) n cap) n rows) (hk:k<rows.length) (hp:PrV W 151 ⟨B,m2,c2⟩ l2) (hl:l2.length<=q+1) :
 RsAt V (W.setCell ⟨gv,k*2+1,none⟩ (.slice B m2 c2)) g s q nm vb (.slice (some ⟨gv,0,none⟩) n cap) n (rows.set k ⟨rows[k].weight,l2,⟨B,m2,c2⟩⟩):=by
 have hb:=row_base h.own gv rfl;have hne1:=row_neT h.own h.bx.bk (by decide);have hne2:=row_neT h.own h.bx.res (by decide);have hK:Keep 151 W (W.setCell ⟨gv,k*2+1,none⟩ (.slice B m2 c2)):=Keep.own h.own (grown_setCell W gv _ _) (by decide);refine⟨⟨h.bx.st.set _ _ _ hb,h.bx.bk.far (fun e=>hne1 (by rw[e];rfl)) _,h.bx.res.far (fun e=>hne2 (by rw[e];rfl)) _⟩,?_,by simpa using h.len,fun r hr=>?_,fun r hr=>?_⟩
 ·rw[rcells_set rows k l2 ⟨B,m2,c2⟩ hk];exact(h.own.stored (k*2+1) (.slice B m2 c2)).1
 ·rcases List.mem_or_eq_of_mem_set hr with h1 | h1
  ·exact PrV.keep (h.each r h1) hK
  ·rw[h1];exact PrV.keep hp hK
 ·rcases List.mem_or_eq_of_mem_set hr with h1 | h1
  ·exact h.short r h1
  ·rw[h1];exact hl
theorem RsAt.cellk {gv cap k:Nat} (h:RsAt V W g s q nm vb (.slice (some ⟨gv,0,none⟩) n cap) n rows) (hk:k<rows.length):W.cell? ⟨gv,k*2+1,none⟩=some (.slice rows[k].sg.A rows[k].sg.n rows[k].sg.c):=by
 have hc:=h.own.cells (g:=gv) rfl;have e1:=flat_get (f:=RwM.cells) RwM.len rows k 1 hk (by omega);have h1:=hc (k*2+1) _ e1;simp only[Addr.add]at h1;rw[if_neg (by omega),Nat.zero_add]at h1;exact h1
def TbP (V:World) (g q:Nat) (t0:TbM) (sd:Sd) (e:Ending) (W:World):Prop:=∃(t:TbM) (s':Sd),tbBF t0 sd=(t.core,s')∧e=.returned t.val∧t.Ok W∧(∀r∈t.rows,r.give.length<=q+1)∧GSp V W g s'
theorem RsAt.fin {A:Option Addr} {c:Nat} {t0:TbM} {sd:Sd} (h:RsAt V W g s q nm (.slice A n c) (.slice A n c) n rows) (hn:n<=1000) (hs:nm.size<=8192) (hF:tbBF t0 sd=(⟨nm,rows.map RwM.core,sz0⟩,s)) :
 TbP V g q t0 sd (.returned (.agg #[.string nm,.slice A n c])) ((W.setCell ⟨V.heap.size+1,0,none⟩ (.string nm)).setCell ⟨V.heap.size+1,1,none⟩ (.slice A n c)):=by
 obtain⟨f1,f2,_⟩:=h.bx.fin2;have hl:=h.len;exact⟨⟨nm,rows,⟨A,n,c⟩⟩,s,hF,rfl,TbM.Ok.keeps ⟨⟨TRow.of_own h.own,hl.symm,by dsimp only;omega,h.each⟩,hs⟩ (f2 175 (by decide)) (f2 151 (by decide)),h.short,f1⟩
end
theorem rcells_one (l:List RwM):∀u∈l.flatMap RwM.cells,u.oneCell'=true:=by
 intro u hu;simp only[List.mem_flatMap]at hu;obtain⟨p,_,hp⟩:=hu;simp only[RwM.cells,List.mem_cons,List.not_mem_nil,or_false]at hp;rcases hp with rfl|rfl <;> rfl
theorem rowsBent_p {w:World} {g q:Nat} {sd:Sd} (t:TbM) (h:GOkP w g sd) (ht:t.Ok w) (hn0:0<t.rows.length) (hn9:t.rows.length<=500) (hq:∀r∈t.rows,r.give.length<=q) (hq9:q<=900):Calls Tryz.prog 111 #[t.val,.pointer (some ⟨g,0,none⟩)] w (TbP w g q t sd):=by
 obtain⟨i0,hinf,hz0,hz1,hz2⟩:=info_parts info175;obtain⟨nm,l,⟨A,n,c⟩⟩:=t;have hgl:=h.lt;have hlen:l.length=n:=ht.rows.len.symm;dsimp only at hn9 hn0 hq;rw[hlen]at hn9 hn0;have HT:=iH ht;have HG0:=iH h;have Hpl:Hid ((l.flatMap RwM.cells).length=n*2):=by show _=_;rw[flat_len RwM.len,hlen]
 have hB0:=BxAt.new h 173 [.string nm,.slice A n c] [.string ⟨#[]⟩,.slice none 0 0];have hkk:∀q,Keep q w ((w.alloc (.cells #[.string nm,.slice A n c] 173)).alloc (.cells #[.string ⟨#[]⟩,.slice none 0 0] 173)):=fun q=>(Keep.alloc q w (.cells #[.string nm,.slice A n c] 173)).trans (Keep.alloc q _ (.cells #[.string ⟨#[]⟩,.slice none 0 0] 173))
 have hrow:Row _ _ A (l.flatMap RwM.cells):=(ht.rows.row.keep (hkk 175)).row;have Hrow:=iH hrow;have Heach:=iH (fun r hr=>PrV.keep (ht.rows.each r hr) (hkk 151):∀r∈l,r.Ok _);have HB0:=iH hB0;have hnm:=ht.name;dsimp only at hnm;have Hlen:=iH hlen;have Hq:=iH hq;clear h ht hB0 hrow hlen hkk hq;go_enter Tryz.func111,Tryz.ntmps111;go_wp2_with(at_builtin;refine wpList_clone rfl (.tmp 8) (.tmp 10) 171 rfl w.heap.size 175 i0 (.agg #[.int .i64 0,.slice none 0 0]) 2 32 Tryz.underlying171 hinf hz0 hz1 hz2 rfl (by decide) rfl A n c (l.flatMap RwM.cells) rfl Hpl.out Hrow.out (rcells_one l) (by unfold maxLen;omega) (by omega) (by simp;omega) ?_);intro v w1 hown hb1;have hb1':Below ((w.alloc (.cells #[.string nm,.slice A n c] 173)).alloc (.cells #[.string ⟨#[]⟩,.slice none 0 0] 173)).heap.size ((w.alloc (.cells #[.string nm,.slice A n c] 173)).alloc (.cells #[.string ⟨#[]⟩,.slice none 0 0] 173)) w1:=by simp only[World.size_alloc];exact hb1
 have HS1:Hid (RsAt w w1 g sd q nm (.slice A n c) v n l):=⟨HB0.out.below hb1',hown,Hlen.out,fun r hr=>PrV.below (Heach.out r hr) hb1',fun r hr=>Nat.le_succ_of_le (Hq.out r hr)⟩;clear hb1 hb1' hown HB0 Hrow Hpl Heach;go_wp2_with fail;(with_reducible refine(next_p 4 HS1.out.bx.st.ok (by omega) (by omega)).mono ?_);rintro e w2 ⟨k,hdk,rfl,k0,k1,hs⟩;have HDk:=iH hdk;clear hdk;have HS:=iH (HS1.out.next hs);clear hs HS1;obtain⟨W1,hW⟩:∃W1,w2=W1:=⟨_,rfl⟩;rw[hW]at HS⊢;clear hW;go_upto_block 0 with fail;go_cut [5] (fun v wx=>∃(m:Nat) (l':List RwM) (s':Sd),tbBF ⟨nm,l,⟨A,n,c⟩⟩ sd=(⟨nm,l'.map RwM.core,sz0⟩,s')∧m<=1000∧RsAt w wx g s' q nm (.slice A n c) v m l')
 case first =>
  rcases(show k=0∨k=1∨k=2∨k=3 by omega)with rfl|rfl|rfl|rfl
  ·have K:Hid (Calls Tryz.prog 96 #[.pointer (some ⟨g,0,none⟩),.int .i64 4] (W1.alloc (.cells names4t.toArray 9)) (NextP (W1.alloc (.cells names4t.toArray 9)) g (nx sd) 4)):=next_p 4 ((HS.out.below ((Below.refl _ _).alloc (Nat.le_refl _) _)).bx.st.ok) (by omega) (by omega);have HBa:=iH (HS.out.below ((Below.refl _ _).alloc (Nat.le_refl _) (.cells names4t.toArray 9)));have hg1:g<W1.heap.size:=HS.out.bx.st.ok.lt;dsimp only[names4t]at K HBa;go_wp2_with fail;(with_reducible refine K.out.mono ?_);rintro e w2 ⟨j0,hdj,rfl,j00,j01,hs⟩;obtain⟨j,rfl⟩:=Int.eq_ofNat_of_zero_le j00;have HDn:Hid (names4tF (dr (nx sd) 4)=names4tF j):=iH (by rw[hdj]);obtain⟨hs1,hs2⟩:=names4t_at j (by omega);clear hdj;generalize names4tF (j:Int)=s at *;obtain⟨hc,hl2⟩:=lit_at hg1 hs hs1;have HB2:=iH (HBa.out.next hs);clear hs hs1 K HBa HS;have x':w2.cell? ⟨w.heap.size,0,none⟩=some (.string nm):=HB2.out.bx.bk.cell 0;have f':=HB2.out.bx.bk.frozen 0;have l':=HB2.out.bx.bk.lt;have HE:=iH (HB2.out.bx.set 0 (.string s) [.string s,.slice A n c] rfl);have HTk:Hid (TbM.Ok ((((w2.setCell ⟨w.heap.size,0,none⟩ (.string s)).setCell ⟨w.heap.size+1,0,none⟩ (.string s)).setCell ⟨w.heap.size+1,1,none⟩ (.slice A n c))) ⟨s,l,⟨A,n,c⟩⟩) :=
    have k1:∀q,q≠173->q≠180->Keep q w ((((w2.setCell ⟨w.heap.size,0,none⟩ (.string s)).setCell ⟨w.heap.size+1,0,none⟩ (.string s)).setCell ⟨w.heap.size+1,1,none⟩ (.slice A n c))):=fun q h1 h2 =>
     ((HB2.out.bx.st.keep HG0.out q h2).trans (Keep.setCell (k:=0) HB2.out.bx.bk (Ne.symm h1) (.string s))).trans (HE.out.fin2.2.1 q h1)
    TbM.Ok.keeps ⟨HT.out.rows,hs2⟩ (k1 175 (by decide) (by decide)) (k1 151 (by decide) (by decide))
   have HP:Hid (TbP w g q ⟨nm,l,⟨A,n,c⟩⟩ sd (.returned (.agg #[.string s,.slice A n c])) ((((w2.setCell ⟨w.heap.size,0,none⟩ (.string s)).setCell ⟨w.heap.size+1,0,none⟩ (.string s)).setCell ⟨w.heap.size+1,1,none⟩ (.slice A n c)))):=⟨⟨s,l,⟨A,n,c⟩⟩,_,by simp[tbBF,TbM.core,HDk.out,HDn.out],rfl,HTk.out,fun r hr=>Nat.le_succ_of_le (Hq.out r hr),HE.out.fin2.1⟩;have z1:=HB2.out.bx.bk.k1;have y0:=HB2.out.bx.res.k0;have y1:=HB2.out.bx.res.k1;have f0:=HB2.out.bx.res.frozen 0;have f1:=HB2.out.bx.res.frozen 1;have l2:=HB2.out.bx.res.lt;have HQ:=iH HE.out.fin2.2.2;clear HE HTk HB2 HT;go_wp2;have t1:=HQ.out;refine bodyPost_ret (v:=.agg #[.string s,.slice A n c]) (by simp[results,Tryz.results111,go_sem,World.cell?,t1]) rfl HP.out
  ·go_wp2_with fail;(with_reducible refine(number_p HS.out.bx.st.ok).mono ?_);rintro e w3 ⟨x,hdx,rfl,hx,hs⟩;have HDx:=iH hdx;clear hdx;have HS4:=iH ((HS.out.next hs).below ((Below.refl _ _).alloc (Nat.le_refl _) (.cells #[.int .i64 x,.slice none 0 0] 175)));have hsz:=HS4.out.bx.st.size;clear hs HS hx;go_wp2_with(at_builtin;refine wpList_append_lies _ rfl (.tmp 25) (.tmp 29) 171 rfl w.heap.size 175 i0 (.agg #[.int .i64 0,.slice none 0 0]) 2 32 Tryz.underlying171 hinf hz0 hz1 hz2 rfl (by decide) _ n (l.flatMap RwM.cells) rfl HS4.out.own ⟨w3.heap.size,0,none⟩ 1 1 [.int .i64 x,.slice none 0 0] rfl rfl (new2 _ _ _ _) (one2s _ _ _ _ rfl) (by omega) (by unfold maxLen;omega) (by omega) hsz (w3.heap.size+1) (by simp) ?_);intro g' cap w8 hown8 hgr8 _ _;have HE:=iH (HS4.out.app hgr8 hown8 rfl);clear hown8 hgr8 HS4;go_wp2;go_meet;exact⟨n+1,_,_,by simp[tbBF,RwM.core,HDk.out,HDx.out],by omega,HE.out⟩
  ·obtain⟨gv,cap,hv,_,hgv⟩:=HS.out.own.form hn0;subst hv;go_wp2_with fail;(with_reducible refine(next_p (n:Int) HS.out.bx.st.ok (by omega) (by omega)).mono ?_);rintro e w3 ⟨x,hdx,rfl,x0,x1,hs⟩;obtain⟨k0,rfl⟩:=Int.eq_ofNat_of_zero_le x0;have HDx:=iH hdx;clear hdx;have HS3:=iH (HS.out.next hs);clear hs HS;have hkl:k0<l.length:=by have:=HS3.out.len;omega
   have HK:Hid (PrV w3 151 l[k0].sg l[k0].give):=HS3.out.each _ (List.getElem_mem hkl);have HKq:Hid (l[k0].give.length<=q):=Hq.out _ (List.getElem_mem hkl);have hc1:=HS3.out.cellk hkl;have KA:Hid (Calls Tryz.prog 242 #[.slice l[k0].sg.A l[k0].sg.n l[k0].sg.c,.pointer (some ⟨g,0,none⟩)] w3 (AmtP w3 g l[k0].give (nx (nx sd)))):=amountsBent_p HS3.out.bx.st.ok HK.out (by have:=HKq.out;omega);have j0:(0:Int)<=(k0:Int):=by omega
   obtain⟨As,hAs⟩:∃As,l[k0].sg.A=As:=⟨_,rfl⟩;obtain⟨ns,hns⟩:∃ns,l[k0].sg.n=ns:=⟨_,rfl⟩;obtain⟨cs,hcs⟩:∃cs,l[k0].sg.c=cs:=⟨_,rfl⟩;rw[hAs,hns,hcs]at KA hc1;clear hAs hns hcs;go_wp2_with fail;(with_reducible refine KA.out.mono ?_);rintro e w4 ⟨B2,m2,c2,l2,sa,hFa,rfl,hp2,hl2,hs⟩;have HFa:=iH hFa;clear hFa;have HS4:=iH (HS3.out.next hs);have hc2:=HS4.out.cellk hkl;have hf2:=HS4.out.own.frozenAt (k0*2+1);have hg2:=(HS4.out.own.lt gv rfl).2;have HE:=iH (HS4.out.give hkl hp2 (by have:=HKq.out;omega));clear hs HS3 hp2 hl2 hc1 KA HK HKq HS4;go_wp2;go_meet;exact⟨n,_,_,by have e9:l[k0]? = some l[k0]:=List.getElem?_eq_getElem hkl;simp[tbBF,RwM.core,HDk.out,HDx.out,Hlen.out,e9,HFa.out,List.map_set],by omega,HE.out⟩
  ·go_wp2_with fail;(with_reducible refine(next_p 2 HS.out.bx.st.ok (by omega) (by omega)).mono ?_);rintro e w3 ⟨x,hdx,rfl,x0,x1,hs⟩;obtain⟨k0,rfl⟩:=Int.eq_ofNat_of_zero_le x0;have HDx:=iH hdx;clear hdx;have hkn:k0<=n:=by omega
   have HS3:=iH (HS.out.next hs);clear hs HS;obtain⟨gv,cap,hv,_,hgv⟩:=HS3.out.own.form hn0;subst hv;have hcap:=own_cap HS3.out.own;have HS4:Hid (RsAt w w3 g (nx (nx sd)) q nm (.slice A n c) (.slice (some ⟨gv,0,none⟩) k0 cap) k0 (l.take k0)) :=
    ⟨HS3.out.bx,own_cut RwM.len HS3.out.own HS3.out.len hkn,by rw[List.length_take,HS3.out.len];omega,fun r hr=>HS3.out.each r (List.mem_of_mem_take hr),fun r hr=>HS3.out.short r (List.mem_of_mem_take hr)⟩
   clear HS3;have mk0:(0:Int)<=(k0:Int):=by omega
   have mk1:(k0:Int)<=(cap:Int):=by omega
   go_wp2_with fail;(with_reducible refine(next_p 70 HS4.out.bx.st.ok (by omega) (by omega)).mono ?_);rintro e w4 ⟨y,hdy,rfl,y0,y1,hs⟩;obtain⟨k1,rfl⟩:=Int.eq_ofNat_of_zero_le y0;have HDy:=iH hdy;clear hdy;have HS5:=iH (HS4.out.next hs);clear hs HS4;go_wp2_with fail;obtain⟨LF,hLF⟩:∃LF,(l.take k0).map RwM.core ++ downR k1=LF:=⟨_,rfl⟩;have HLF:Hid (tbBF ⟨nm,l,⟨A,n,c⟩⟩ sd=(⟨nm,LF,sz0⟩,nx (nx (nx sd)))):=iH (by rw[<- hLF];simp[tbBF,HDk.out,HDx.out,HDy.out]);go_loopw [5,7] (fun v x wr=>∃(k m:Nat) (l':List RwM),x=.int .i64 k∧k<=70∧m+k<=600∧l'.map RwM.core ++ downR k=LF∧RsAt w wr g (nx (nx (nx sd))) q nm (.slice A n c) v m l') (fun _ x _=>(intOf x).toNat)
   case atStart=>exact⟨k1,k0,_,rfl,by omega,by omega,hLF,HS5.out⟩
   case round =>
    clear HS5;clear hLF;obtain⟨k,m,l',rfl,hk20,hmk,hLk,hS⟩:=hrel;have HLk:=iH hLk;clear hLk;have HS6:=iH hS;clear hS;by_cases hk:0<k
    ·have HS7:=iH (HS6.out.below ((Below.refl _ _).alloc (Nat.le_refl _) (.cells #[.int .i64 (k:Int),.slice none 0 0] 175)));have hsz:=HS7.out.bx.st.size;clear HS6;go_wp2_with(at_builtin;refine wpList_append_lies _ rfl (.tmp 60) (.tmp 63) 171 rfl w.heap.size 175 i0 (.agg #[.int .i64 0,.slice none 0 0]) 2 32 Tryz.underlying171 hinf hz0 hz1 hz2 rfl (by decide) _ m (l'.flatMap RwM.cells) rfl HS7.out.own ⟨wr.heap.size,0,none⟩ 1 1 [.int .i64 (k:Int),.slice none 0 0] rfl rfl (new2 _ _ _ _) (one2s _ _ _ _ rfl) (by omega) (by unfold maxLen;omega) (by omega) hsz (wr.heap.size+1) (by simp) ?_);intro g' cap w8 hown8 hgr8 _ _;have HE:=iH (HS7.out.app hgr8 hown8 rfl);clear hown8 hgr8 HS7;go_wp2;go_roundw
     case rel=>exact⟨k-1,m+1,_,by go_num,by omega,by omega,(downR_app l' k hk).trans HLk.out,HE.out⟩
     case measure=>simp[intOf];omega
    ·obtain rfl:k=0:=by omega
     go_wp2;go_meet;exact⟨m,l',_,by rw[HLF.out,<- HLk.out];simp[downR],by omega,HS6.out⟩
 case rest =>
  clear HS HT;obtain⟨m,l',s',hF,hm,hS⟩:=hcut;have HFF:=iH hF;clear hF;obtain⟨A5,c5,rfl,_⟩:=row_of_owns hS.own;have HS:=iH hS;clear hS;obtain⟨W5,hW⟩:∃W5,wc=W5:=⟨_,rfl⟩;rw[hW]at HS⊢;clear hW;have z1:=HS.out.bx.bk.k1;have z0:=HS.out.bx.bk.k0;have g1:=HS.out.bx.bk.frozen 1;have y0:=HS.out.bx.res.k0;have y1:=HS.out.bx.res.k1;have f0:=HS.out.bx.res.frozen 0;have f1:=HS.out.bx.res.frozen 1;have l1:=HS.out.bx.bk.lt;have l2:=HS.out.bx.res.lt;have HP:=iH (HS.out.put (.slice A5 m c5));have HQ:=iH HP.out.bx.fin2.2.2;have HF:=iH (HP.out.fin hm hnm HFF.out);clear HS HP;go_wp2;have t1:=HQ.out;refine bodyPost_ret (v:=.agg #[.string nm,.slice A5 m c5]) (by simp[results,Tryz.results111,go_sem,World.cell?,t1]) rfl HF.out
end
section
def decW (q:Nat) (b:ByteArray):ByteArray :=
 if h:q=0 then b else decW (q / 10) ((⟨#[48,49,50,51,52,53,54,55,56,57]⟩:ByteArray).extract (q % 10) (q % 10+1) ++ b)
termination_by q
decreasing_by omega
theorem decW_zero (b:ByteArray):decW 0 b=b:=by rw[decW];rfl
theorem decW_next (q:Nat) (b:ByteArray) (h:q≠0):decW q b=decW (q / 10) ((⟨#[48,49,50,51,52,53,54,55,56,57]⟩:ByteArray).extract (q % 10) (q % 10+1) ++ b):=by rw[decW,dif_neg h]
def DecS (n:Nat) (w:World) (e:Ending) (w':World):Prop:=∃s:ByteArray,decW n ⟨#[]⟩=s∧e=.returned (.string s)∧s.size<=100∧w=w'
theorem decimal_small (n:Nat) (h0:1<=n) (h1:n<=100) (w:World):Calls Tryz.prog 28 #[.int .i64 n] w (DecS n w):=by
 have hn0:(1:Int)<=(n:Int):=by omega
 have hn1:(n:Int)<=100:=by omega
 have e0:((n:Int) == 0)=false:=by simp;omega
 go_enter Tryz.func28,Tryz.ntmps28;go_wp2_with fail
 go_loop [4,5] (fun s k=>∃(b:ByteArray) (q:Nat),s=.string b∧k=.int .i64 q∧b.size+q<=n∧decW q b=decW n ⟨#[]⟩) (fun _ k=>(intOf k).toNat)
 case atStart=>exact⟨⟨#[]⟩,n,rfl,rfl,by show 0+n<=n;omega,rfl⟩
 case round =>
  obtain⟨b,q,rfl,rfl,hq,hW⟩:=hrel;have HW:=iH hW;clear hW;by_cases hz:q=0
  ·subst hz;go_wp2;go_ret;exact⟨b,by rw[<- HW.out,decW_zero],rfl,by omega,rfl⟩
  ·have q0:(1:Int)<=(q:Int):=by omega
   have q1:(q:Int)<=100:=by omega
   have e1:((q:Int) == 0)=false:=by simp;omega
   have e2:((q:Int) != 0)=true:=by simp;omega
   obtain⟨d,hd⟩:∃d:Nat,(q:Int) % 10=d:=⟨((q:Int) % 10).toNat,by omega⟩;have HN:Hid (decW (q / 10) ((⟨#[48,49,50,51,52,53,54,55,56,57]⟩:ByteArray).extract d (d+1) ++ b)=decW n ⟨#[]⟩):=iH (by rw[<- HW.out,decW_next q b hz,show q % 10=d by omega]);have d0:(0:Int)<=(d:Int):=by omega
   have d1:(d:Int)<10:=by omega
   have hd1:d<10:=by omega
   have Hsz:Hid (∀x:ByteArray,((⟨#[48,49,50,51,52,53,54,55,56,57]⟩:ByteArray).extract d (d+1) ++ x).size=x.size+1):=fun x=>by
    rw[ByteArray.size_append,ByteArray.size_extract,show(⟨#[48,49,50,51,52,53,54,55,56,57]⟩:ByteArray).size=10 from rfl];omega
   have Hq:Hid ((((q / 10:Nat):Int))=(q:Int) / 10):=by show _=_;omega
   go_wp2
   go_round
   case rel=>exact⟨_,q / 10,rfl,by go_num,by rw[Hsz.out];omega,HN.out⟩
   case measure=>simp[intOf];omega
theorem row_ne2 {W:World} {base e1 e2 s1 s2 n1 n2 b:Nat} {v1 v2:Value} {x1 x2:List Value} (h:W.ownsRow base e1 s1 v1 n1 x1) (k:W.ownsRow base e2 s2 v2 n2 x2) (hne:e1≠e2) (h2:v2.ownBlock=some b):v1.ownBlock≠some b:=by
 rcases k.2 with ⟨h0,_⟩|⟨g',cap,cur,hv,_,hc,_⟩
 ·rw[h0]at h2;cases h2
 ·rw[hv]at h2;cases h2;intro h3;rcases h.2 with ⟨h0,_⟩|⟨g2,cap2,cur2,hv2,_,hc2,_⟩
  ·rw[h0]at h3;cases h3
  ·rw[hv2]at h3;cases h3;rw[hc]at hc2;cases hc2;exact hne rfl
theorem own_far {W W':World} {base e1 e2 s1 s2 n1 n2:Nat} {v1 v2:Value} {x1 x2:List Value} (h:W.ownsRow base e1 s1 v1 n1 x1) (k:W.ownsRow base e2 s2 v2 n2 x2) (hne:e1≠e2) (hg:W.grownBy W' v2.ownBlock):W'.ownsRow base e1 s1 v1 n1 x1:=by
 cases hb:v2.ownBlock with
 | none =>
   rw[hb]at hg;cases h1:v1.ownBlock with
   | none=>exact h.kept hg (.inl h1)
   | some b=>exact h.kept hg (.inr (by rw[h1];simp))
 | some b=>rw[hb]at hg;exact h.kept hg (.inr (row_ne2 h k hne hb))
structure CtO (V W : World) (g : Nat) (s : Sd) (rb cb q : Nat) (m : CatM) : Prop where
 ct:CtAt V W g rb cb m
 pos:GOkP W g s
 oi:W.ownsRow V.heap.size 42 7 (.slice m.si.A m.si.n m.si.c) m.items.length (icells m.items)
 or_:W.ownsRow V.heap.size 149 9 (.slice m.sr.A m.sr.n m.sr.c) m.rules.length (rucells m.rules)
 ot:W.ownsRow V.heap.size 173 2 (.slice m.st.A m.st.n m.st.c) m.tables.length (tbcells m.tables)
 ox:W.ownsRow V.heap.size 93 2 (.slice m.sx.A m.sx.n m.sx.c) m.taxes.length (txcells m.taxes)
 short:∀r∈m.rules,ruSmall q r
 rows:∀t∈m.tables,∀r∈t.rows,r.give.length<=q
section
variable {V W W' : World} {g rb cb q : Nat} {s s' : Sd} {m : CatM}
theorem CtO.next (h:CtO V W g s rb cb q m) (k:GSp W W' g s'):CtO V W' g s' rb cb q m :=
 ⟨h.ct.next k.st,k.ok,k.own h.oi (fun e=>by have:=row_base h.oi g e;have:=h.ct.st.lt;omega),k.own h.or_ (fun e=>by have:=row_base h.or_ g e;have:=h.ct.st.lt;omega),k.own h.ot (fun e=>by have:=row_base h.ot g e;have:=h.ct.st.lt;omega),k.own h.ox (fun e=>by have:=row_base h.ox g e;have:=h.ct.st.lt;omega),h.short,h.rows⟩
theorem CtO.below (h:CtO V W g s rb cb q m) (hb:Below W.heap.size W W'):CtO V W' g s rb cb q m:=h.next ((GSp.refl h.pos).below hb)
theorem CtO.addI {A':Option Addr} {k' c':Nat} {t:It} (h:CtO V W g s rb cb q m) (hg:W.grownBy W' (Value.slice m.si.A m.si.n m.si.c).ownBlock)
 (hn:W'.ownsRow V.heap.size 42 7 (.slice A' k' c') k' (icells (m.items ++ [t]))) (hk:k'=m.items.length+1) (hsm:k'<=100000) (ht:t.name.size<=8192) :
 Bk W' cb 28 (catSL m.si m.sr m.st m.sx)∧CtO V (W'.setCell ⟨cb,0,none⟩ (.slice A' k' c')) g s rb cb q { m with items:=m.items ++ [t],si:=⟨A',k',c'⟩ }:=by
 have hk2:k'=(m.items ++ [t]).length:=by simpa using hk
 obtain⟨h1,h2,h3⟩:=h.ct.addI h.oi hg hn hk2 hsm ht;have hbase:=row_base h.oi;have hge:=h.ct.ge;have hlt:=h.ct.st.lt;exact⟨h1,h2,(h.pos.row hg (fun b e=>by have:=hbase b e;omega)).keep (grown_setCell W' cb 0 _) (by omega),by rw[<- hk2];exact h3,(own_far h.or_ h.oi (by decide) hg).kept (grown_setCell W' cb 0 _) (.inr (row_neT (own_far h.or_ h.oi (by decide) hg) h1 (by decide))),(own_far h.ot h.oi (by decide) hg).kept (grown_setCell W' cb 0 _) (.inr (row_neT (own_far h.ot h.oi (by decide) hg) h1 (by decide))),(own_far h.ox h.oi (by decide) hg).kept (grown_setCell W' cb 0 _) (.inr (row_neT (own_far h.ox h.oi (by decide) hg) h1 (by decide))),h.short,h.rows⟩
theorem CtO.addR {A':Option Addr} {k' c':Nat} {t:RuM} (h:CtO V W g s rb cb q m) (hg:W.grownBy W' (Value.slice m.sr.A m.sr.n m.sr.c).ownBlock)
 (hn:W'.ownsRow V.heap.size 149 9 (.slice A' k' c') k' (rucells (m.rules ++ [t]))) (hk:k'=m.rules.length+1) (hsm:k'<=100000) (ht:t.Ok W') (hs:ruSmall q t) :
 Bk W' cb 28 (catSL m.si m.sr m.st m.sx)∧CtO V (W'.setCell ⟨cb,1,none⟩ (.slice A' k' c')) g s rb cb q { m with rules:=m.rules ++ [t],sr:=⟨A',k',c'⟩ }:=by
 have hk2:k'=(m.rules ++ [t]).length:=by simpa using hk
 obtain⟨h1,h2,h3⟩:=h.ct.addR h.or_ hg hn hk2 hsm ht;have hbase:=row_base h.or_;have hge:=h.ct.ge;have hlt:=h.ct.st.lt;exact⟨h1,h2,(h.pos.row hg (fun b e=>by have:=hbase b e;omega)).keep (grown_setCell W' cb 1 _) (by omega),(own_far h.oi h.or_ (by decide) hg).kept (grown_setCell W' cb 1 _) (.inr (row_neT (own_far h.oi h.or_ (by decide) hg) h1 (by decide))),by rw[<- hk2];exact h3,(own_far h.ot h.or_ (by decide) hg).kept (grown_setCell W' cb 1 _) (.inr (row_neT (own_far h.ot h.or_ (by decide) hg) h1 (by decide))),(own_far h.ox h.or_ (by decide) hg).kept (grown_setCell W' cb 1 _) (.inr (row_neT (own_far h.ox h.or_ (by decide) hg) h1 (by decide))),fun x hx=>by
  rcases List.mem_append.1 hx with hx|hx
  ·exact h.short x hx
  ·rw[List.mem_singleton.1 hx];exact hs,h.rows⟩
theorem CtO.addT {A':Option Addr} {k' c':Nat} {t:TbM} (h:CtO V W g s rb cb q m) (hg:W.grownBy W' (Value.slice m.st.A m.st.n m.st.c).ownBlock)
 (hn:W'.ownsRow V.heap.size 173 2 (.slice A' k' c') k' (tbcells (m.tables ++ [t]))) (hk:k'=m.tables.length+1) (hsm:k'<=100000) (ht:t.Ok W') (hs:∀r∈t.rows,r.give.length<=q) :
 Bk W' cb 28 (catSL m.si m.sr m.st m.sx)∧CtO V (W'.setCell ⟨cb,2,none⟩ (.slice A' k' c')) g s rb cb q { m with tables:=m.tables ++ [t],st:=⟨A',k',c'⟩ }:=by
 have hk2:k'=(m.tables ++ [t]).length:=by simpa using hk
 obtain⟨h1,h2,h3⟩:=h.ct.addT h.ot hg hn hk2 hsm ht;have hbase:=row_base h.ot;have hge:=h.ct.ge;have hlt:=h.ct.st.lt;exact⟨h1,h2,(h.pos.row hg (fun b e=>by have:=hbase b e;omega)).keep (grown_setCell W' cb 2 _) (by omega),(own_far h.oi h.ot (by decide) hg).kept (grown_setCell W' cb 2 _) (.inr (row_neT (own_far h.oi h.ot (by decide) hg) h1 (by decide))),(own_far h.or_ h.ot (by decide) hg).kept (grown_setCell W' cb 2 _) (.inr (row_neT (own_far h.or_ h.ot (by decide) hg) h1 (by decide))),by rw[<- hk2];exact h3,(own_far h.ox h.ot (by decide) hg).kept (grown_setCell W' cb 2 _) (.inr (row_neT (own_far h.ox h.ot (by decide) hg) h1 (by decide))),h.short,fun x hx=>by
  rcases List.mem_append.1 hx with hx|hx
  ·exact h.rows x hx
  ·rw[List.mem_singleton.1 hx];exact hs⟩
theorem CtO.addX {A':Option Addr} {k' c':Nat} {t:TxM} (h:CtO V W g s rb cb q m) (hg:W.grownBy W' (Value.slice m.sx.A m.sx.n m.sx.c).ownBlock)
 (hn:W'.ownsRow V.heap.size 93 2 (.slice A' k' c') k' (txcells (m.taxes ++ [t]))) (hk:k'=m.taxes.length+1) (hsm:k'<=100000) (ht:t.Ok W') :
 Bk W' cb 28 (catSL m.si m.sr m.st m.sx)∧CtO V (W'.setCell ⟨cb,3,none⟩ (.slice A' k' c')) g s rb cb q { m with taxes:=m.taxes ++ [t],sx:=⟨A',k',c'⟩ }:=by
 have hk2:k'=(m.taxes ++ [t]).length:=by simpa using hk
 obtain⟨h1,h2,h3⟩:=h.ct.addX h.ox hg hn hk2 hsm ht;have hbase:=row_base h.ox;have hge:=h.ct.ge;have hlt:=h.ct.st.lt;exact⟨h1,h2,(h.pos.row hg (fun b e=>by have:=hbase b e;omega)).keep (grown_setCell W' cb 3 _) (by omega),(own_far h.oi h.ox (by decide) hg).kept (grown_setCell W' cb 3 _) (.inr (row_neT (own_far h.oi h.ox (by decide) hg) h1 (by decide))),(own_far h.or_ h.ox (by decide) hg).kept (grown_setCell W' cb 3 _) (.inr (row_neT (own_far h.or_ h.ox (by decide) hg) h1 (by decide))),(own_far h.ot h.ox (by decide) hg).kept (grown_setCell W' cb 3 _) (.inr (row_neT (own_far h.ot h.ox (by decide) hg) h1 (by decide))),by rw[<- hk2];exact h3,h.short,h.rows⟩
theorem CtO.inI {l:List It} (h:CtO V W g s rb cb q m) (hg:W.grownBy W' (Value.slice m.si.A m.si.n m.si.c).ownBlock)
 (hn:W'.ownsRow V.heap.size 42 7 (.slice m.si.A m.si.n m.si.c) m.items.length (icells l)) (hl:l.length=m.items.length) (ht:∀t∈l,t.name.size<=8192):CtO V W' g s rb cb q { m with items:=l }:=by
 have hbase:=row_base h.oi;have kp:∀q,(42:TypeId)≠q->Keep q W W':=fun q hq=>Keep.own h.oi hg hq
 have hge:=h.ct.ge;have hrl:=h.ct.rlt;have hnn:m.si.n=m.items.length:=h.ct.ok.items.len;have hnl:m.si.n=l.length:=by rw[hl];exact hnn
 have hrow:TRow W' 42 m.si.A (icells l):=by
  have h0:=hn;rw[<- hnn]at h0;exact TRow.of_own h0
 exact⟨⟨h.ct.st.grow hg hbase,h.ct.res.grown hg (fun e=>by have:=hbase rb e.symm;omega),h.ct.rlt,h.ct.rne,h.ct.bx.grown hg (fun e=>row_neT h.oi h.ct.bx (by decide) e.symm),h.ct.ge,⟨⟨hrow,hnl,h.ct.ok.items.small,ht⟩,h.ct.ok.rules.keep (kp 149 (by decide)) (kp 151 (by decide)),h.ct.ok.tables.keep (kp 173 (by decide)) (kp 175 (by decide)) (kp 151 (by decide)),h.ct.ok.taxes.keep (kp 93 (by decide)) (kp 186 (by decide))⟩⟩,h.pos.row hg (fun b e=>by have:=hbase b e;have:=h.ct.st.lt;omega),by rw[hl];exact hn,own_far h.or_ h.oi (by decide) hg,own_far h.ot h.oi (by decide) hg,own_far h.ox h.oi (by decide) hg,h.short,h.rows⟩
theorem CtO.inR {l:List RuM} (h:CtO V W g s rb cb q m) (hg:W.grownBy W' (Value.slice m.sr.A m.sr.n m.sr.c).ownBlock)
 (hn:W'.ownsRow V.heap.size 149 9 (.slice m.sr.A m.sr.n m.sr.c) m.rules.length (rucells l)) (hl:l.length=m.rules.length) (ht:∀t∈l,t.Ok W') (hs:∀t∈l,ruSmall q t):CtO V W' g s rb cb q { m with rules:=l }:=by
 have hbase:=row_base h.or_;have kp:∀q,(149:TypeId)≠q->Keep q W W':=fun q hq=>Keep.own h.or_ hg hq
 have hge:=h.ct.ge;have hrl:=h.ct.rlt;have hnn:m.sr.n=m.rules.length:=h.ct.ok.rules.len;have hnl:m.sr.n=l.length:=by rw[hl];exact hnn
 have hrow:TRow W' 149 m.sr.A (rucells l):=by
  have h0:=hn;rw[<- hnn]at h0;exact TRow.of_own h0
 exact⟨⟨h.ct.st.grow hg hbase,h.ct.res.grown hg (fun e=>by have:=hbase rb e.symm;omega),h.ct.rlt,h.ct.rne,h.ct.bx.grown hg (fun e=>row_neT h.or_ h.ct.bx (by decide) e.symm),h.ct.ge,⟨h.ct.ok.items.keep (kp 42 (by decide)),⟨hrow,hnl,h.ct.ok.rules.small,ht⟩,h.ct.ok.tables.keep (kp 173 (by decide)) (kp 175 (by decide)) (kp 151 (by decide)),h.ct.ok.taxes.keep (kp 93 (by decide)) (kp 186 (by decide))⟩⟩,h.pos.row hg (fun b e=>by have:=hbase b e;have:=h.ct.st.lt;omega),own_far h.oi h.or_ (by decide) hg,by rw[hl];exact hn,own_far h.ot h.or_ (by decide) hg,own_far h.ox h.or_ (by decide) hg,hs,h.rows⟩
theorem CtO.inT {l:List TbM} (h:CtO V W g s rb cb q m) (hg:W.grownBy W' (Value.slice m.st.A m.st.n m.st.c).ownBlock)
 (hn:W'.ownsRow V.heap.size 173 2 (.slice m.st.A m.st.n m.st.c) m.tables.length (tbcells l)) (hl:l.length=m.tables.length) (ht:∀t∈l,t.Ok W') (hs:∀t∈l,∀r∈t.rows,r.give.length<=q):CtO V W' g s rb cb q { m with tables:=l }:=by
 have hbase:=row_base h.ot;have kp:∀q,(173:TypeId)≠q->Keep q W W':=fun q hq=>Keep.own h.ot hg hq
 have hge:=h.ct.ge;have hrl:=h.ct.rlt;have hnn:m.st.n=m.tables.length:=h.ct.ok.tables.len;have hnl:m.st.n=l.length:=by rw[hl];exact hnn
 have hrow:TRow W' 173 m.st.A (tbcells l):=by
  have h0:=hn;rw[<- hnn]at h0;exact TRow.of_own h0
 exact⟨⟨h.ct.st.grow hg hbase,h.ct.res.grown hg (fun e=>by have:=hbase rb e.symm;omega),h.ct.rlt,h.ct.rne,h.ct.bx.grown hg (fun e=>row_neT h.ot h.ct.bx (by decide) e.symm),h.ct.ge,⟨h.ct.ok.items.keep (kp 42 (by decide)),h.ct.ok.rules.keep (kp 149 (by decide)) (kp 151 (by decide)),⟨hrow,hnl,h.ct.ok.tables.small,ht⟩,h.ct.ok.taxes.keep (kp 93 (by decide)) (kp 186 (by decide))⟩⟩,h.pos.row hg (fun b e=>by have:=hbase b e;have:=h.ct.st.lt;omega),own_far h.oi h.ot (by decide) hg,own_far h.or_ h.ot (by decide) hg,by rw[hl];exact hn,own_far h.ox h.ot (by decide) hg,h.short,hs⟩
theorem CtO.inX {l:List TxM} (h:CtO V W g s rb cb q m) (hg:W.grownBy W' (Value.slice m.sx.A m.sx.n m.sx.c).ownBlock)
 (hn:W'.ownsRow V.heap.size 93 2 (.slice m.sx.A m.sx.n m.sx.c) m.taxes.length (txcells l)) (hl:l.length=m.taxes.length) (ht:∀t∈l,t.Ok W'):CtO V W' g s rb cb q { m with taxes:=l }:=by
 have hbase:=row_base h.ox;have kp:∀q,(93:TypeId)≠q->Keep q W W':=fun q hq=>Keep.own h.ox hg hq
 have hge:=h.ct.ge;have hrl:=h.ct.rlt;have hnn:m.sx.n=m.taxes.length:=h.ct.ok.taxes.len;have hnl:m.sx.n=l.length:=by rw[hl];exact hnn
 have hrow:TRow W' 93 m.sx.A (txcells l):=by
  have h0:=hn;rw[<- hnn]at h0;exact TRow.of_own h0
 exact⟨⟨h.ct.st.grow hg hbase,h.ct.res.grown hg (fun e=>by have:=hbase rb e.symm;omega),h.ct.rlt,h.ct.rne,h.ct.bx.grown hg (fun e=>row_neT h.ox h.ct.bx (by decide) e.symm),h.ct.ge,⟨h.ct.ok.items.keep (kp 42 (by decide)),h.ct.ok.rules.keep (kp 149 (by decide)) (kp 151 (by decide)),h.ct.ok.tables.keep (kp 173 (by decide)) (kp 175 (by decide)) (kp 151 (by decide)),⟨hrow,hnl,h.ct.ok.taxes.small,ht⟩⟩⟩,h.pos.row hg (fun b e=>by have:=hbase b e;have:=h.ct.st.lt;omega),own_far h.oi h.ox (by decide) hg,own_far h.or_ h.ox (by decide) hg,own_far h.ot h.ox (by decide) hg,by rw[hl];exact hn,h.short,h.rows⟩
end
end
section
theorem own_at {α:Type} {f:α->List Value} {s:Nat} (hf:∀x,(f x).length=s) {w:World} {base g cap n:Nat} {e:TypeId} {l:List α} (h:w.ownsRow base e s (.slice (some ⟨g,0,none⟩) n cap) n (l.flatMap f)) {k:Nat} (hk:k<l.length) {t:α} (ht:l[k]=t) (r:Nat) {u:Value} (hr:r<s) (hu:(f t)[r]? = some u) :
 w.cell? ⟨g,k*s+r,none⟩=some u:=by
 have hc:=h.cells (g:=g) rfl (k*s+r) u ((flat_get hf l k r hk hr).trans (by rw[ht];exact hu));unfold Addr.add at hc;split at hc
 ·rename_i h0;rw[h0];exact hc
 ·simpa using hc
theorem own_at0 {α:Type} {f:α->List Value} {s:Nat} (hf:∀x,(f x).length=s) {w:World} {base g cap n:Nat} {e:TypeId} {l:List α} (h:w.ownsRow base e s (.slice (some ⟨g,0,none⟩) n cap) n (l.flatMap f)) {k:Nat} (hk:k<l.length) {t:α} (ht:l[k]=t) {u:Value} (hr:0<s) (hu:(f t)[0]? = some u) :
 w.cell? ⟨g,k*s,none⟩=some u:=own_at hf h hk ht 0 hr hu
theorem It.cells_len (t:It):t.cells.length=7:=rfl
theorem rucells_set (l:List RuM) (k:Nat) (t:RuM) (h:k<l.length):rucells (l.set k t)=(((((((((rucells l).set (k*9) (.string t.name)).set (k*9+1) (.bool t.spawn)).set (k*9+2) (.int .i64 t.level)).set (k*9+3) (.int .i64 t.time)).set (k*9+4) (.int .i64 t.chance)).set (k*9+5) (.int .i64 t.of_)).set (k*9+6) (.slice t.st.A t.st.n t.st.c)).set (k*9+7) (.slice t.sg.A t.sg.n t.sg.c)).set (k*9+8) (.slice t.sb.A t.sb.n t.sb.c):=by
 induction l generalizing k with
 | nil=>simp at h
 | cons a l ih =>
   cases k with
   | zero=>simp[rucells]
   | succ k =>
     have:=ih k (by simpa using h);have e:(k+1)*9=k*9+1+1+1+1+1+1+1+1+1:=by omega
     simp only[rucells,List.set_cons_succ,List.flatMap_cons]at this⊢;rw[this,e];simp[RuM.cells,List.set_cons_succ]
theorem tbcells_set0 (a:TbM) (l:List TbM) (t:TbM):tbcells (t :: l)=((tbcells (a :: l)).set 0 (.string t.name)).set 1 (.slice t.sr.A t.sr.n t.sr.c):=by simp[tbcells]
theorem txcells_set0 (a:TxM) (l:List TxM) (t:TxM):txcells (t :: l)=((txcells (a :: l)).set 0 (.string t.name)).set 1 (.slice t.sb.A t.sb.n t.sb.c):=by simp[txcells]
theorem grown2 {a b c:World} {r:Option Nat} (h:a.grownBy b r) (k:b.grownBy c r):a.grownBy c r:=grown_trans h k
section
variable {V W W' : World} {g rb cb q : Nat} {s s' : Sd} {m : CatM}
theorem CtO.fillI {A':Option Addr} {k' c':Nat} {l:List It} (h:CtO V W g s rb cb q m) (hb:Below W.heap.size W W') (hn:W'.ownsRow V.heap.size 42 7 (.slice A' k' c') k' (icells l)) (hk:k'=l.length) (hsm:k'<=100000) (ht:∀t∈l,t.name.size<=8192) :
 Bk W' cb 28 (catSL m.si m.sr m.st m.sx)∧CtO V (W'.setCell ⟨cb,0,none⟩ (.slice A' k' c')) g s rb cb q { m with items:=l,si:=⟨A',k',c'⟩ } ∧ (∀p:Addr,p.block<V.heap.size->(W'.setCell ⟨cb,0,none⟩ (.slice A' k' c')).cell? p=W.cell? p):=by
 have h':=h.below hb;have kb:=h'.ct.bx;have hge:=h.ct.ge;have hrl:=h.ct.rlt;have hsz:=h.ct.st.size;have ks:∀q,(28:TypeId)≠q->Keep q W' (W'.setCell ⟨cb,0,none⟩ (.slice A' k' c')):=fun q hq=>Keep.setCell kb hq _
 refine⟨kb,⟨⟨h'.ct.st.set _ _ _ h.ct.ge,h'.ct.res.far (by simp;omega) _,h.ct.rlt,h.ct.rne,kb.set 0 _,h.ct.ge,⟨⟨(TRow.of_own hn).keep (ks 42 (by decide)),hk,hsm,ht⟩,h'.ct.ok.rules.keep (ks 149 (by decide)) (ks 151 (by decide)),h'.ct.ok.tables.keep (ks 173 (by decide)) (ks 175 (by decide)) (ks 151 (by decide)),h'.ct.ok.taxes.keep (ks 93 (by decide)) (ks 186 (by decide))⟩⟩,h'.pos.keep (grown_setCell W' cb 0 _) (by have:=h.ct.st.lt;omega),by rw[<- hk];exact hn.kept (grown_setCell W' cb 0 _) (.inr (row_neT hn kb (by decide))),h'.or_.kept (grown_setCell W' cb 0 _) (.inr (row_neT h'.or_ kb (by decide))),h'.ot.kept (grown_setCell W' cb 0 _) (.inr (row_neT h'.ot kb (by decide))),h'.ox.kept (grown_setCell W' cb 0 _) (.inr (row_neT h'.ox kb (by decide))),h.short,h.rows⟩,fun p hp=>?_⟩;rw[World.cell?_setCell_other W' _ p _ (fun e=>by subst e;simp at hp;omega)];exact hb.cell (by omega)
theorem CtO.fillR {A':Option Addr} {k' c':Nat} {l:List RuM} (h:CtO V W g s rb cb q m) (hb:Below W.heap.size W W') (hn:W'.ownsRow V.heap.size 149 9 (.slice A' k' c') k' (rucells l)) (hk:k'=l.length) (hsm:k'<=100000) (ht:∀t∈l,t.Ok W') (hs:∀t∈l,ruSmall q t) :
 Bk W' cb 28 (catSL m.si m.sr m.st m.sx)∧CtO V (W'.setCell ⟨cb,1,none⟩ (.slice A' k' c')) g s rb cb q { m with rules:=l,sr:=⟨A',k',c'⟩ } ∧ (∀p:Addr,p.block<V.heap.size->(W'.setCell ⟨cb,1,none⟩ (.slice A' k' c')).cell? p=W.cell? p):=by
 have h':=h.below hb;have kb:=h'.ct.bx;have hge:=h.ct.ge;have hrl:=h.ct.rlt;have hsz:=h.ct.st.size;have ks:∀q,(28:TypeId)≠q->Keep q W' (W'.setCell ⟨cb,1,none⟩ (.slice A' k' c')):=fun q hq=>Keep.setCell kb hq _
 refine⟨kb,⟨⟨h'.ct.st.set _ _ _ h.ct.ge,h'.ct.res.far (by simp;omega) _,h.ct.rlt,h.ct.rne,kb.set 1 _,h.ct.ge,⟨h'.ct.ok.items.keep (ks 42 (by decide)),⟨(TRow.of_own hn).keep (ks 149 (by decide)),hk,hsm,fun t h1=>(ht t h1).keep (ks 151 (by decide))⟩,h'.ct.ok.tables.keep (ks 173 (by decide)) (ks 175 (by decide)) (ks 151 (by decide)),h'.ct.ok.taxes.keep (ks 93 (by decide)) (ks 186 (by decide))⟩⟩,h'.pos.keep (grown_setCell W' cb 1 _) (by have:=h.ct.st.lt;omega),h'.oi.kept (grown_setCell W' cb 1 _) (.inr (row_neT h'.oi kb (by decide))),by rw[<- hk];exact hn.kept (grown_setCell W' cb 1 _) (.inr (row_neT hn kb (by decide))),h'.ot.kept (grown_setCell W' cb 1 _) (.inr (row_neT h'.ot kb (by decide))),h'.ox.kept (grown_setCell W' cb 1 _) (.inr (row_neT h'.ox kb (by decide))),hs,h.rows⟩,fun p hp=>?_⟩;rw[World.cell?_setCell_other W' _ p _ (fun e=>by subst e;simp at hp;omega)];exact hb.cell (by omega)
theorem CtO.fillT {A':Option Addr} {k' c':Nat} {l:List TbM} (h:CtO V W g s rb cb q m) (hb:Below W.heap.size W W') (hn:W'.ownsRow V.heap.size 173 2 (.slice A' k' c') k' (tbcells l)) (hk:k'=l.length) (hsm:k'<=100000) (ht:∀t∈l,t.Ok W') (hs:∀t∈l,∀r∈t.rows,r.give.length<=q) :
 Bk W' cb 28 (catSL m.si m.sr m.st m.sx)∧CtO V (W'.setCell ⟨cb,2,none⟩ (.slice A' k' c')) g s rb cb q { m with tables:=l,st:=⟨A',k',c'⟩ } ∧ (∀p:Addr,p.block<V.heap.size->(W'.setCell ⟨cb,2,none⟩ (.slice A' k' c')).cell? p=W.cell? p):=by
 have h':=h.below hb;have kb:=h'.ct.bx;have hge:=h.ct.ge;have hrl:=h.ct.rlt;have hsz:=h.ct.st.size;have ks:∀q,(28:TypeId)≠q->Keep q W' (W'.setCell ⟨cb,2,none⟩ (.slice A' k' c')):=fun q hq=>Keep.setCell kb hq _
 refine⟨kb,⟨⟨h'.ct.st.set _ _ _ h.ct.ge,h'.ct.res.far (by simp;omega) _,h.ct.rlt,h.ct.rne,kb.set 2 _,h.ct.ge,⟨h'.ct.ok.items.keep (ks 42 (by decide)),h'.ct.ok.rules.keep (ks 149 (by decide)) (ks 151 (by decide)),⟨(TRow.of_own hn).keep (ks 173 (by decide)),hk,hsm,fun t h1=>(ht t h1).keeps (ks 175 (by decide)) (ks 151 (by decide))⟩,h'.ct.ok.taxes.keep (ks 93 (by decide)) (ks 186 (by decide))⟩⟩,h'.pos.keep (grown_setCell W' cb 2 _) (by have:=h.ct.st.lt;omega),h'.oi.kept (grown_setCell W' cb 2 _) (.inr (row_neT h'.oi kb (by decide))),h'.or_.kept (grown_setCell W' cb 2 _) (.inr (row_neT h'.or_ kb (by decide))),by rw[<- hk];exact hn.kept (grown_setCell W' cb 2 _) (.inr (row_neT hn kb (by decide))),h'.ox.kept (grown_setCell W' cb 2 _) (.inr (row_neT h'.ox kb (by decide))),h.short,hs⟩,fun p hp=>?_⟩;rw[World.cell?_setCell_other W' _ p _ (fun e=>by subst e;simp at hp;omega)];exact hb.cell (by omega)
theorem CtO.fillX {A':Option Addr} {k' c':Nat} {l:List TxM} (h:CtO V W g s rb cb q m) (hb:Below W.heap.size W W') (hn:W'.ownsRow V.heap.size 93 2 (.slice A' k' c') k' (txcells l)) (hk:k'=l.length) (hsm:k'<=100000) (ht:∀t∈l,t.Ok W') :
 Bk W' cb 28 (catSL m.si m.sr m.st m.sx)∧CtO V (W'.setCell ⟨cb,3,none⟩ (.slice A' k' c')) g s rb cb q { m with taxes:=l,sx:=⟨A',k',c'⟩ } ∧ (∀p:Addr,p.block<V.heap.size->(W'.setCell ⟨cb,3,none⟩ (.slice A' k' c')).cell? p=W.cell? p):=by
 have h':=h.below hb;have kb:=h'.ct.bx;have hge:=h.ct.ge;have hrl:=h.ct.rlt;have hsz:=h.ct.st.size;have ks:∀q,(28:TypeId)≠q->Keep q W' (W'.setCell ⟨cb,3,none⟩ (.slice A' k' c')):=fun q hq=>Keep.setCell kb hq _
 refine⟨kb,⟨⟨h'.ct.st.set _ _ _ h.ct.ge,h'.ct.res.far (by simp;omega) _,h.ct.rlt,h.ct.rne,kb.set 3 _,h.ct.ge,⟨h'.ct.ok.items.keep (ks 42 (by decide)),h'.ct.ok.rules.keep (ks 149 (by decide)) (ks 151 (by decide)),h'.ct.ok.tables.keep (ks 173 (by decide)) (ks 175 (by decide)) (ks 151 (by decide)),⟨(TRow.of_own hn).keep (ks 93 (by decide)),hk,hsm,fun t h1=>(ht t h1).keeps (ks 186 (by decide))⟩⟩⟩,h'.pos.keep (grown_setCell W' cb 3 _) (by have:=h.ct.st.lt;omega),h'.oi.kept (grown_setCell W' cb 3 _) (.inr (row_neT h'.oi kb (by decide))),h'.or_.kept (grown_setCell W' cb 3 _) (.inr (row_neT h'.or_ kb (by decide))),h'.ot.kept (grown_setCell W' cb 3 _) (.inr (row_neT h'.ot kb (by decide))),by rw[<- hk];exact hn.kept (grown_setCell W' cb 3 _) (.inr (row_neT hn kb (by decide))),h.short,h.rows⟩,fun p hp=>?_⟩;rw[World.cell?_setCell_other W' _ p _ (fun e=>by subst e;simp at hp;omega)];exact hb.cell (by omega)
end
theorem CtO.start {V:World} {g rb:Nat} {s:Sd} {q:Nat} (hG:GOkP V g s) (hr:Bk V rb 28 nil4) (hne:rb≠g):CtO V (V.alloc (.cells nil4.toArray 28)) g s rb V.heap.size q ⟨[],[],[],[],sl0,sl0,sl0,sl0⟩ :=
 ⟨⟨(GSt.refl hG.st).alloc _,hr.alloc _,hr.lt,hne,Bk.new V 28 nil4,Nat.le_refl _,⟨⟨.inl rfl,rfl,by simp,by simp⟩,⟨.inl rfl,rfl,by simp,by simp⟩,⟨.inl rfl,rfl,by simp,by simp⟩,⟨.inl rfl,rfl,by simp,by simp⟩⟩⟩,hG.below ((Below.refl _ _).alloc (Nat.le_refl _) _),World.ownsRow_nil _ _ _ _,World.ownsRow_nil _ _ _ _,World.ownsRow_nil _ _ _ _,World.ownsRow_nil _ _ _ _,by simp,by simp⟩
theorem rucells_one (l:List RuM):∀u∈rucells l,u.oneCell'=true:=by
 intro u hu;simp only[rucells,List.mem_flatMap]at hu;obtain⟨p,_,hp⟩:=hu;exact one9 p u hp
theorem icells_one' (l:List It):∀u∈icells l,u.oneCell'=true:=by
 intro u hu;simp only[icells,List.mem_flatMap]at hu;obtain⟨p,_,hp⟩:=hu;exact one7 p u hp
theorem tbcells_one (l:List TbM):∀u∈tbcells l,u.oneCell'=true:=by
 intro u hu;simp only[tbcells,List.mem_flatMap]at hu;obtain⟨p,_,hp⟩:=hu;exact one2s _ _ _ _ rfl u hp
theorem txcells_one (l:List TxM):∀u∈txcells l,u.oneCell'=true:=by
 intro u hu;simp only[txcells,List.mem_flatMap]at hu;obtain⟨p,_,hp⟩:=hu;exact one2s _ _ _ _ rfl u hp
def BentG (w:World) (e:Ending) (W:World):Prop:=∃m:CatM,e=.returned m.val∧m.Ok W∧(∀r∈m.rules,ruSmall 4 r)∧(∀t∈m.tables,∀r∈t.rows,r.give.length<=4)∧Below w.heap.size w W
def BentP (w:World) (K:CatM) (e:Ending) (W:World):Prop:=∃m:CatM,e=.returned m.val∧m.Ok W∧(∀r∈m.rules,ruSmall 4 r)∧(∀t∈m.tables,∀r∈t.rows,r.give.length<=4)∧m.core=K∧Below w.heap.size w W
theorem CtO.done {w V W:World} {g rb cb:Nat} {s:Sd} {m K:CatM} (h:CtO V W g s rb cb 4 m) (hK:m.core=K) (hb:Below w.heap.size w V) (hg:w.heap.size<=g) (hr:w.heap.size<=rb) :
 BentP w K (.returned (.agg #[.slice m.si.A m.si.n m.si.c,.slice m.sr.A m.sr.n m.sr.c,.slice m.st.A m.st.n m.st.c,.slice m.sx.A m.sx.n m.sx.c])) ((((W.setCell ⟨rb,0,none⟩ (.slice m.si.A m.si.n m.si.c)).setCell ⟨rb,1,none⟩ (.slice m.sr.A m.sr.n m.sr.c)).setCell ⟨rb,2,none⟩ (.slice m.st.A m.st.n m.st.c)).setCell ⟨rb,3,none⟩ (.slice m.sx.A m.sx.n m.sx.c)) ∧
 ((((W.setCell ⟨rb,0,none⟩ (.slice m.si.A m.si.n m.si.c)).setCell ⟨rb,1,none⟩ (.slice m.sr.A m.sr.n m.sr.c)).setCell ⟨rb,2,none⟩ (.slice m.st.A m.st.n m.st.c)).setCell ⟨rb,3,none⟩ (.slice m.sx.A m.sx.n m.sx.c)).heap[rb]? = some (.cells #[.slice m.si.A m.si.n m.si.c,.slice m.sr.A m.sr.n m.sr.c,.slice m.st.A m.st.n m.st.c,.slice m.sx.A m.sx.n m.sx.c] 28 (0,0)):=by
 have q0:=h.ct.res;have q1:=q0.set 0 (.slice m.si.A m.si.n m.si.c);have q2:=q1.set 1 (.slice m.sr.A m.sr.n m.sr.c);have q3:=q2.set 2 (.slice m.st.A m.st.n m.st.c);have q4:=q3.set 3 (.slice m.sx.A m.sx.n m.sx.c);have hb1:=((((h.ct.st.bel hb hg).setCell (p:=⟨rb,0,none⟩) hr (.slice m.si.A m.si.n m.si.c)).setCell (p:=⟨rb,1,none⟩) hr (.slice m.sr.A m.sr.n m.sr.c)).setCell (p:=⟨rb,2,none⟩) hr (.slice m.st.A m.st.n m.st.c)).setCell (p:=⟨rb,3,none⟩) hr (.slice m.sx.A m.sx.n m.sx.c);exact⟨⟨m,rfl,h.ct.ok.keeps fun t h1 h2=>(((Keep.setCell q0 (Ne.symm h2) _).trans (Keep.setCell q1 (Ne.symm h2) _)).trans (Keep.setCell q2 (Ne.symm h2) _)).trans (Keep.setCell q3 (Ne.symm h2) _),h.short,h.rows,hK,hb1⟩,q4⟩
end
end
end Go.Proofs.YtiecjoijnkghbaaGreatDoor
