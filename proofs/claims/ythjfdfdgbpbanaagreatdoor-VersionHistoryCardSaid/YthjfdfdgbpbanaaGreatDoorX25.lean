/- The generator of catalogs: a valid catalog of few rows. -/
import Derived.Test.YthjfdfdgbpbanaaGreatDoorX24
set_option linter.unusedVariables false
set_option linter.unusedSimpArgs false
set_option maxRecDepth 100000
set_option maxHeartbeats 8000000
open Go.RowKit
namespace Go.Proofs.YthjfdfdgbpbanaaGreatDoor
theorem info103:(Tryz.prog.info? 103).map (fun i=>(i.zero,i.size,i.bytes))=some (some (.agg #[.string ⟨#[]⟩,.bool false,.int .i64 0,.int .i64 0,.int .i64 0,.int .i64 0,.slice none 0 0,.slice none 0 0,.slice none 0 0]),9,128):=by kernel_rfl
theorem info109:(Tryz.prog.info? 109).map (fun i=>(i.zero,i.size,i.bytes))=some (some (.agg #[.int .i64 0,.slice none 0 0]),2,32):=by kernel_rfl
theorem info107:(Tryz.prog.info? 107).map (fun i=>(i.zero,i.size,i.bytes))=some (some (.agg #[.string ⟨#[]⟩,.slice none 0 0]),2,40):=by kernel_rfl
theorem info115:(Tryz.prog.info? 115).map (fun i=>(i.zero,i.size,i.bytes))=some (some (.agg #[.string ⟨#[]⟩,.slice none 0 0]),2,40):=by kernel_rfl
theorem info129:(Tryz.prog.info? 129).map (fun i=>(i.zero,i.size,i.bytes))=some (some (.agg #[.int .i64 0,.int .i64 0]),2,16):=by kernel_rfl
theorem new9 (w:World) (t:TypeId) (a b c d e f g h i:Value):∀j u,([a,b,c,d,e,f,g,h,i]:List Value)[j]? = some u->(w.alloc (.cells #[a,b,c,d,e,f,g,h,i] t)).cell? ((⟨w.heap.size,0,none⟩:Addr).add j)=some u:=by
 intro j u hj
 match j,hj with
 | 0,hj=>simp at hj;subst hj;simp[Addr.add]
 | 1,hj=>simp at hj;subst hj;simp[Addr.add]
 | 2,hj=>simp at hj;subst hj;simp[Addr.add]
 | 3,hj=>simp at hj;subst hj;simp[Addr.add]
 | 4,hj=>simp at hj;subst hj;simp[Addr.add]
 | 5,hj=>simp at hj;subst hj;simp[Addr.add]
 | 6,hj=>simp at hj;subst hj;simp[Addr.add]
 | 7,hj=>simp at hj;subst hj;simp[Addr.add]
 | 8,hj=>simp at hj;subst hj;simp[Addr.add]
 | j+9,hj=>simp at hj
theorem one9 (r:RuM):∀u∈r.cells,u.oneCell'=true:=by
 intro u hu;simp only[RuM.cells,List.mem_cons,List.not_mem_nil,or_false]at hu;rcases hu with rfl|rfl|rfl|rfl|rfl|rfl|rfl|rfl|rfl <;> rfl
theorem one2s (a:Value) (A:Option Addr) (n c:Nat) (ha:a.oneCell'=true):∀u∈([a,.slice A n c]:List Value),u.oneCell'=true:=by
 intro u hu;simp only[List.mem_cons,List.not_mem_nil,or_false]at hu;rcases hu with rfl|rfl
 ·exact ha
 ·rfl
theorem downN_prev (pool:List ByteArray) {k j:Nat} (h:0<j) (h2:j<=k):downN pool k (j-1)=downN pool k j ++ [pool[j]?.getD ⟨#[]⟩]:=by
 have e:=downN_next pool (k:=k) (j:=j-1) (by omega);rw[show j-1+1=j by omega]at e;exact e
def CatG (w:World) (e:Ending) (W:World):Prop:=∃m:CatM,e=.returned m.val∧m.Ok W∧CatSm m∧Below w.heap.size w W
theorem GSt.bel {w V W:World} {g:Nat} (h:GSt V W g) (hb:Below w.heap.size w V) (hg:w.heap.size<=g):Below w.heap.size w W :=
 ⟨h.gr.os.trans hb.os,h.gr.tape.trans hb.tape,h.gr.output.trans hb.output,Nat.le_trans hb.size h.gr.size,fun b hlt=>(h.gr.block b (Nat.lt_of_lt_of_le hlt hb.size) (by intro e;cases e;omega)).trans (hb.block b hlt)⟩
theorem CtAt.done {w V W:World} {g rb cb:Nat} {m:CatM} (h:CtAt V W g rb cb m) (hb:Below w.heap.size w V) (hg:w.heap.size<=g) (hr:w.heap.size<=rb) (hs:CatSm m) :
 CatG w (.returned (.agg #[.slice m.si.A m.si.n m.si.c,.slice m.sr.A m.sr.n m.sr.c,.slice m.st.A m.st.n m.st.c,.slice m.sx.A m.sx.n m.sx.c])) ((((W.setCell ⟨rb,0,none⟩ (.slice m.si.A m.si.n m.si.c)).setCell ⟨rb,1,none⟩ (.slice m.sr.A m.sr.n m.sr.c)).setCell ⟨rb,2,none⟩ (.slice m.st.A m.st.n m.st.c)).setCell ⟨rb,3,none⟩ (.slice m.sx.A m.sx.n m.sx.c)) ∧
 ((((W.setCell ⟨rb,0,none⟩ (.slice m.si.A m.si.n m.si.c)).setCell ⟨rb,1,none⟩ (.slice m.sr.A m.sr.n m.sr.c)).setCell ⟨rb,2,none⟩ (.slice m.st.A m.st.n m.st.c)).setCell ⟨rb,3,none⟩ (.slice m.sx.A m.sx.n m.sx.c)).heap[rb]? = some (.cells #[.slice m.si.A m.si.n m.si.c,.slice m.sr.A m.sr.n m.sr.c,.slice m.st.A m.st.n m.st.c,.slice m.sx.A m.sx.n m.sx.c] 28 (0,0)):=by
 have q0:=h.res;have q1:=q0.set 0 (.slice m.si.A m.si.n m.si.c);have q2:=q1.set 1 (.slice m.sr.A m.sr.n m.sr.c);have q3:=q2.set 2 (.slice m.st.A m.st.n m.st.c);have q4:=q3.set 3 (.slice m.sx.A m.sx.n m.sx.c);have hb1:=((((h.st.bel hb hg).setCell (p:=⟨rb,0,none⟩) hr (.slice m.si.A m.si.n m.si.c)).setCell (p:=⟨rb,1,none⟩) hr (.slice m.sr.A m.sr.n m.sr.c)).setCell (p:=⟨rb,2,none⟩) hr (.slice m.st.A m.st.n m.st.c)).setCell (p:=⟨rb,3,none⟩) hr (.slice m.sx.A m.sx.n m.sx.c);exact⟨⟨m,rfl,h.ok.keeps fun t h1 h2=>(((Keep.setCell q0 (Ne.symm h2) _).trans (Keep.setCell q1 (Ne.symm h2) _)).trans (Keep.setCell q2 (Ne.symm h2) _)).trans (Keep.setCell q3 (Ne.symm h2) _),hs,hb1⟩,q4⟩
theorem Catalog_g {w : World} {A : Option Addr} {n : Nat} (c : Nat) {zs : List Int} (h : IntsV w A n zs) (hfar : ∀ b off, A = some ⟨b, off, none⟩ -> b < w.heap.size) :
 Calls Tryz.prog 32 #[.slice A n c] w (CatG w):=by
 obtain⟨i103,hi103,u0,u1,u2⟩:=info_parts info103;obtain⟨i109,hi109,v0,v1,v2⟩:=info_parts info109;obtain⟨i107,hi107,p0,p1,p2⟩:=info_parts info107;obtain⟨i115,hi115,q0,q1,q2⟩:=info_parts info115;obtain⟨i129,hi129,r0,r1,r2⟩:=info_parts info129;obtain⟨i9,hi9,y0,y1,y2⟩:=info_parts info9;obtain⟨i89,hi89,x0,x1,x2⟩:=info_parts info89g;have hb0:Below w.heap.size w ((w.alloc (.cells #[.slice none 0 0,.slice none 0 0,.slice none 0 0,.slice none 0 0] 28)).alloc (.cells #[.slice A n c,.int .i64 0] 122)):=((Below.refl _ _).alloc (Nat.le_refl _) _).alloc (by simp) _;have kg:=Bk.new (w.alloc (.cells #[.slice none 0 0,.slice none 0 0,.slice none 0 0,.slice none 0 0] 28)) 122 [.slice A n c,.int .i64 0];rw[World.size_alloc]at kg;have hG:GOk ((w.alloc (.cells #[.slice none 0 0,.slice none 0 0,.slice none 0 0,.slice none 0 0] 28)).alloc (.cells #[.slice A n c,.int .i64 0] 122)) (w.heap.size+1) :=
  ⟨A,n,c,zs,0,kg,h.below hb0,fun b off e=>by have:=hfar b off e;omega,by unfold In64;omega⟩
 have hC:CtAt ((w.alloc (.cells #[.slice none 0 0,.slice none 0 0,.slice none 0 0,.slice none 0 0] 28)).alloc (.cells #[.slice A n c,.int .i64 0] 122))
  (((w.alloc (.cells #[.slice none 0 0,.slice none 0 0,.slice none 0 0,.slice none 0 0] 28)).alloc (.cells #[.slice A n c,.int .i64 0] 122)).alloc (.cells #[.slice none 0 0,.slice none 0 0,.slice none 0 0,.slice none 0 0] 28)) (w.heap.size+1) w.heap.size (w.heap.size+2) ⟨[],[],[],[],sl0,sl0,sl0,sl0⟩:=by
  have kc:=Bk.new ((w.alloc (.cells #[.slice none 0 0,.slice none 0 0,.slice none 0 0,.slice none 0 0] 28)).alloc (.cells #[.slice A n c,.int .i64 0] 122)) 28 nil4;rw[World.size_alloc,World.size_alloc]at kc;refine⟨(GSt.refl hG).alloc _,((Bk.new w 28 nil4).alloc _).alloc _,by simp;omega,by omega,kc,by simp,⟨⟨.inl rfl,rfl,by simp,by simp⟩,⟨.inl rfl,rfl,by simp,by simp⟩,⟨.inl rfl,rfl,by simp,by simp⟩,⟨.inl rfl,rfl,by simp,by simp⟩⟩⟩
 have HC:=iH hC;have HB0:=iH hb0;have hVs:((w.alloc (.cells #[.slice none 0 0,.slice none 0 0,.slice none 0 0,.slice none 0 0] 28)).alloc (.cells #[.slice A n c,.int .i64 0] 122)).heap.size=w.heap.size+2:=by simp
 clear h hfar hb0 kg hG hC;go_enter Tryz.func32,Tryz.ntmps32;go_wp2_with fail;generalize hV:(w.alloc (.cells #[.slice none 0 0,.slice none 0 0,.slice none 0 0,.slice none 0 0] 28)).alloc (.cells #[.slice A n c,.int .i64 0] 122)=V at HC HB0 hVs;generalize hW0:V.alloc (.cells #[.slice none 0 0,.slice none 0 0,.slice none 0 0,.slice none 0 0] 28)=W0 at HC;(try rw[hV]);(try rw[hW0]);have HC0:=iH (HC.out.below ((Below.refl _ _).alloc (Nat.le_refl _) (.cells (strs pool1).toArray 9)));have hW0s:W0.heap.size=w.heap.size+2+1:=by rw[<- hW0,World.size_alloc,hVs]
 have kp:=Bk.new W0 9 (strs pool1);rw[hW0s]at kp;have hWs:=HC.out.bx.lt;have K1:Calls Tryz.prog 64 #[.pointer (some ⟨w.heap.size+1,0,none⟩),.slice (some ⟨w.heap.size+2+1,0,none⟩) 8 8,.int .i64 6] (W0.alloc (.cells (strs pool1).toArray 9)) (SomeG (W0.alloc (.cells (strs pool1).toArray 9)) (w.heap.size+1) pool1 6) :=
  some_g 8 6 HC0.out.st.ok kp (by omega) (by decide) (by decide) (by omega) (by omega)
 have e8:(strs pool1).toArray=#[.string ⟨#[103,111,108,100]⟩,.string ⟨#[105,114,111,110]⟩,.string ⟨#[111,114,101]⟩,.string ⟨#[99,111,97,108]⟩,.string ⟨#[115,119,111,114,100]⟩,.string ⟨#[119,97,116,101,114]⟩,.string ⟨#[103,101,109]⟩,.string ⟨#[97,120,101]⟩]:=rfl;rw[e8]at K1 HC0;have HK1:=iH K1;clear K1 kp hV hW0 e8 hW0s;(with_reducible refine HK1.out.mono ?_);rintro e w1 ⟨v,turn,nn,rfl,hturn,hn1,hn6,hown,hs⟩;have HC1:=iH (HC0.out.next hs);have HO:=iH hown;clear hs hown HK1 HC0 HC;have hg:w.heap.size+1<w1.heap.size:=HC1.out.st.ok.lt;have hbase:=HC1.out.st.size;obtain⟨B1,hB1⟩:∃B1,(W0.alloc (.cells #[.string ⟨#[103,111,108,100]⟩,.string ⟨#[105,114,111,110]⟩,.string ⟨#[111,114,101]⟩,.string ⟨#[99,111,97,108]⟩,.string ⟨#[115,119,111,114,100]⟩,.string ⟨#[119,97,116,101,114]⟩,.string ⟨#[103,101,109]⟩,.string ⟨#[97,120,101]⟩] 9)).heap.size=B1:=⟨_,rfl⟩;rw[hB1]at HO;have hB1w:B1<=w1.heap.size:=by
  rcases HO.out.2 with ⟨_,h0⟩|⟨g',cap,cur,hv,hb,hc,_⟩
  ·omega
  ·have:=(Array.getElem?_eq_some_iff.1 hc).1;omega
 have hBV:V.heap.size<=B1:=by rw[<- hB1];simp;omega
 clear hB1;go_wp2_with(at_builtin;refine wpList_append_own_at _ rfl _ _ 123 rfl B1 9 i9 (.string ⟨#[]⟩) 1 16 Tryz.underlying123 hi9 y0 y1 y2 rfl (by decide) _ nn (strs (poolN pool1 turn nn)) rfl (HO.out.alloc _) ⟨w1.heap.size,0,none⟩ 1 1 [.string stone] rfl rfl (new1 _ _ _) (one1s _) (by unfold maxLen;omega) (by omega) (by simp;omega) ?_);intro v' w2 hown' hgrow _ _;obtain⟨A5,c5,rfl,_⟩:=row_of_owns hown';have hC2:=HC1.out.below ((Below.refl _ _).alloc (Nat.le_refl _) (.cells #[.string stone] 9));have HC2:Hid (CtAt V w2 (w.heap.size+1) w.heap.size (w.heap.size+2) ⟨[],[],[],[],sl0,sl0,sl0,sl0⟩):=by
  have hrb:=row_base HO.out;have hg1:∀b,v.ownBlock=some b->V.heap.size<=b:=fun b e=>Nat.le_trans hBV (hrb b e)
  have hkk:∀q,(9:TypeId)≠q->Keep q _ w2:=fun q hq=>Keep.own (HO.out.alloc (.cells #[.string stone] 9)) hgrow hq
  refine⟨hC2.st.grow hgrow hg1,hC2.res.grown hgrow (fun e=>by have:=hg1 _ e.symm;have:=hC2.rlt;omega),hC2.rlt,hC2.rne,hC2.bx.grown hgrow (fun e=>?_),hC2.ge,?_⟩
  ·exact row_neT (HO.out.alloc (.cells #[.string stone] 9)) hC2.bx (by decide) e.symm
  ·exact⟨hC2.ok.items.keep (hkk 89 (by decide)),hC2.ok.rules.keep (hkk 103 (by decide)) (hkk 136 (by decide)),hC2.ok.tables.keep (hkk 107 (by decide)) (hkk 109 (by decide)) (hkk 136 (by decide)),hC2.ok.taxes.keep (hkk 115 (by decide)) (hkk 129 (by decide))⟩
 obtain⟨nl,hnl⟩:∃nl,poolN pool1 turn nn ++ [stone]=nl:=⟨_,rfl⟩;have hrow:TRow w2 9 A5 (strs nl):=by rw[<- hnl,strs_snoc];exact TRow.of_own hown'
 have hlen:nn+1=nl.length:=by rw[<- hnl];simp
 have hshort:∀s∈nl,s.size<=8192:=by
  intro s hs;rw[<- hnl]at hs;rcases List.mem_append.1 hs with h1|h1
  ·exact poolN_short (by decide) _ _ s h1
  ·rw[List.mem_singleton.1 h1];decide
 have Hnl:=iH hnl;have HRow:=iH hrow;have Hlen:=iH hlen;have Hsh:=iH hshort;clear hC2 HC1 HO hown' hgrow hnl hrow hlen hshort hB1w hg hbase;have hN1:2<=nn+1:=by omega
 have hN2:nn+1<=7:=by omega
 have HN:Hid (nn<=6∧1<=nn):=⟨hn6,hn1⟩;obtain⟨N,hN⟩:∃N,nn+1=N:=⟨_,rfl⟩;rw[hN]at hN1 hN2 Hlen⊢;clear hN hn1 hn6;go_upto_block 0 with fail;go_cut [6] (fun _ wx=>∃(items:List It) (si:Sl),CtAt V wx (w.heap.size+1) w.heap.size (w.heap.size+2) ⟨items,[],[],[],si,sl0,sl0,sl0⟩∧ItsOk items nl)
 case first =>
  go_wp2_with fail;go_loopw [6] (fun i wr=>∃(k:Nat) (items:List It) (si:Sl),k<=N∧i=.int .i64 k∧CtI V wr (w.heap.size+1) w.heap.size (w.heap.size+2) ⟨items,[],[],[],si,sl0,sl0,sl0⟩∧items.length=k∧si.n=k∧ItsOk items (nl.take k)∧TRow wr 9 A5 (strs nl)) (fun i _=>N-(intOf i).toNat)
  case atStart=>exact⟨0,[],sl0,by omega,rfl,⟨HC2.out,World.ownsRow_nil _ _ _ _⟩,rfl,rfl,.nil,HRow.out⟩
  case round =>
   clear HC2 HRow;obtain⟨k,items,⟨Ai,ni,ci⟩,hk,rfl,hC,hlk,hni,hit,hrow⟩:=hrel;dsimp only at *;subst hni;by_cases hlt:ni<N
   ·have hkl:ni<nl.length:=by have:=Hlen.out;omega
    obtain⟨bs,os,rfl,hbs⟩:=trow_some hrow (by omega);have HT:=iH (List.take_succ_eq_append_getElem hkl);have hsz:=Hsh.out nl[ni] (List.getElem_mem hkl);have HCx:=iH (hC.below (Below.refl _ _).drew);have Hit:=iH hit;have HRw:=iH (hrow.keep (Keep.below (Below.refl _ _).drew));have hcl:=hC.ct.bx.lt;clear hC hit hrow;obtain⟨s,hs⟩:∃s,nl[ni]=s:=⟨_,rfl⟩;have Hs:=iH hs;rw[hs]at HT hsz;clear hs;have KI:Hid (Calls Tryz.prog 65 #[.pointer (some ⟨w.heap.size+1,0,none⟩),.string s,.int .i64 (ni:Int)] wr.drew (ItemG wr.drew (w.heap.size+1) s)):=item_g s ni HCx.out.ct.st.ok (by omega);have kk0:(0:Int)<=(ni:Int):=by omega
    have kk1:(ni:Int)<(N:Int):=by omega
    go_wp2_with fail;refine wp_region_X (fun w'=>Bk w' (w.heap.size+2) 28 (catSL ⟨Ai,ni,ci⟩ sl0 sl0 sl0)∧TRow w' 9 (some ⟨bs,os,none⟩) (strs nl)) 11 (n:=13) rfl (by kernel_rfl) (⟨HCx.out.ct.bx,HRw.out⟩) (fun hS=>?_);refine tX 0 (some 35) (v:=?_) rfl ⟨rfl,?_⟩ hS ?_;rotate_left
    ·intro w' hS';(go_simp;try with_reducible rfl)
    refine tX 1 (some 36) (v:=?_) rfl ⟨rfl,?_⟩ hS ?_;rotate_left
    ·intro w' hS';have e:=hS'.1.k0;(go_simp;try with_reducible rfl)
    refine tX 2 (some 37) (v:=?_) rfl ⟨rfl,?_⟩ hS ?_;rotate_left
    ·intro w' hS';(go_simp;try with_reducible rfl)
    refine tX 3 (some 38) (v:=?_) rfl ⟨rfl,?_⟩ hS ?_;rotate_left
    ·intro w' hS';(go_simp;try with_reducible rfl)
    refine tX 4 (some 39) (v:=?_) rfl ⟨rfl,?_⟩ hS ?_;rotate_left
    ·intro w' hS';(go_simp;try with_reducible rfl)
    refine tX 5 (some 40) (v:=?_) rfl ⟨rfl,?_⟩ hS ?_;rotate_left
    ·intro w' hS';(go_simp;try with_reducible rfl)
    refine tX 6 (some 41) (v:=?_) rfl ⟨rfl,?_⟩ hS ?_;rotate_left
    ·intro w' hS';have e:w'.cell? ⟨bs,os+ni,none⟩=some (.string s):=by rw[trow_str hS'.2 ni hkl,Hs.out]
     (go_simp;try with_reducible rfl)
    refine tX 7 (some 42) (v:=?_) rfl ⟨rfl,?_⟩ hS ?_;rotate_left
    ·intro w' hS';(go_simp;try with_reducible rfl)
    refine X_o 8 rfl fun K hK=>?_;go_simp;(with_reducible refine KI.out.mono ?_);rintro e w3 ⟨t,rfl,htn,htf,htr,hs⟩;have Htn:=iH htn;have HC3:=iH (HCx.out.next hs);have HR3:=iH (HRw.out.keep (hs.keep HCx.out.ct.st.ok 9 (by decide)));refine hK _ _ ⟨HC3.out.ct.bx,HR3.out⟩ ?_;clear hs hK htn;refine X_o 9 rfl fun K hK=>?_;go_simp;have HC4:=iH (HC3.out.below ((Below.refl _ _).alloc (Nat.le_refl _) (.cells #[.string t.name,.bool t.object,.bool t.mixed,.bool t.coin,.int .i64 t.wear,.int .i64 t.bnd,.int .i64 t.level] 89)));have HR4:=iH (HR3.out.keep (Keep.alloc 9 w3 (.cells #[.string t.name,.bool t.object,.bool t.mixed,.bool t.coin,.int .i64 t.wear,.int .i64 t.bnd,.int .i64 t.level] 89)));refine hK _ _ ⟨HC4.out.ct.bx,HR4.out⟩ ?_;clear hK;refine X_o 10 rfl fun K hK=>?_;have hsz4:=HC4.out.ct.st.size;refine step_append_lies _ rfl (.tmp 36) (.tmp 44) 23 rfl V.heap.size 89 i89 (.agg #[.string ⟨#[]⟩,.bool false,.bool false,.bool false,.int .i64 0,.int .i64 0,.int .i64 0]) 7 48 Tryz.underlying23 hi89 x0 x1 x2 rfl (by decide) _ ni (icells items) rfl (by have:=HC4.out.own;rw[hlk]at this;exact this) ⟨w3.heap.size,0,none⟩ 1 1 [.string t.name,.bool t.object,.bool t.mixed,.bool t.coin,.int .i64 t.wear,.int .i64 t.bnd,.int .i64 t.level] rfl rfl (new7 _ _ _ _ _ _ _ _ _) (one7 t) (by omega) (by unfold maxLen;omega) (by omega) hsz4 (w3.heap.size+1) (by simp) ?_;intro g' cap w8 hown8 hgr8 _ _;rw[show icells items ++ [.string t.name,.bool t.object,.bool t.mixed,.bool t.coin,.int .i64 t.wear,.int .i64 t.bnd,.int .i64 t.level]=icells (items ++ [t]) from(icells_snoc items t).symm]at hown8;obtain⟨B8,K8,K9,C9⟩:=HC4.out.app hgr8 hown8 (by rw[hlk]) (by omega) (by rw[Htn.out];exact hsz);have HR8:=HR4.out.keep (K8 9 (by decide));have z8:=B8.k0;have f8:=B8.frozen 0;have l8:=B8.lt;have H9:=iH C9;have HR9:=iH (HR8.keep (K9 9 (by decide)));refine hK _ _ ⟨B8,HR8⟩ ?_;clear hK hown8 hgr8 B8 K8 K9 C9 HR8;refine X_tail (by kernel_rfl) ?_;refine A_one 11 (by kernel_rfl) rfl rfl (fun K hK=>?_);go_simp;refine hK _ _ ?_;clear hK;refine A_one 12 (by kernel_rfl) rfl rfl (fun K hK=>?_);go_simp;refine hK _ _ ?_;clear hK;refine A_done (by kernel_rfl) ?_;go_wp2;go_roundw
    case rel=>exact⟨ni+1,items ++ [t],_,by omega,by go_num,H9.out,by simp[hlk],rfl,by rw[HT.out];exact Hit.out.snoc Htn.out htf htr,HR9.out⟩
    case measure=>simp[intOf];omega
   ·obtain rfl:N=ni:=by omega
    have Hit:Hid (ItsOk items nl):=by
     show ItsOk _ _;rw[List.take_of_length_le (by have:=Hlen.out;omega)]at hit;exact hit
    have HC3:=iH hC.ct;clear hC hit hrow;go_wp2;go_meet;exact⟨items,⟨Ai,N,ci⟩,HC3.out,Hit.out⟩
 case rest =>
  clear HC2 HRow;obtain⟨items,si,hC,hit⟩:=hcut;have HC1:=iH hC;have HI:=iH hit;have hil:items.length=N:=by rw[hit.len];exact Hlen.out.symm
  have Hil:=iH hil;clear hC hit hil;obtain⟨W1,hW⟩:∃W1,wc=W1:=⟨_,rfl⟩;rw[hW]at HC1⊢;clear hW;have hsw:=HC1.out.bx.lt;have HC0:=iH (HC1.out.below ((Below.refl _ _).alloc (Nat.le_refl _) (.cells #[.string ⟨#[115,109,101,108,116]⟩,.string ⟨#[102,111,114,103,101]⟩,.string ⟨#[109,101,108,116]⟩,.string ⟨#[98,114,101,119]⟩,.string ⟨#[103,114,105,110,100]⟩] 9)));have kp:=Bk.new W1 9 (strs pool2);have K1:Calls Tryz.prog 64 #[.pointer (some ⟨w.heap.size+1,0,none⟩),.slice (some ⟨W1.heap.size,0,none⟩) 5 5,.int .i64 4] (W1.alloc (.cells #[.string ⟨#[115,109,101,108,116]⟩,.string ⟨#[102,111,114,103,101]⟩,.string ⟨#[109,101,108,116]⟩,.string ⟨#[98,114,101,119]⟩,.string ⟨#[103,114,105,110,100]⟩] 9)) (SomeG (W1.alloc (.cells #[.string ⟨#[115,109,101,108,116]⟩,.string ⟨#[102,111,114,103,101]⟩,.string ⟨#[109,101,108,116]⟩,.string ⟨#[98,114,101,119]⟩,.string ⟨#[103,114,105,110,100]⟩] 9)) (w.heap.size+1) pool2 4) :=
   some_g 5 4 HC0.out.st.ok kp (by omega) (by decide) (by decide) (by omega) (by omega)
  have HK1:=iH K1;clear K1 kp;go_wp2_with fail;(with_reducible refine HK1.out.mono ?_);rintro e w1 ⟨v,tu2,n2,rfl,htu2,hn21,hn22,hown,hs⟩;have HC2:=iH (HC0.out.next hs);clear hs HK1 HC0 HC1 hsw;obtain⟨A8,c8,rfl,_⟩:=row_of_owns hown;obtain⟨nl2,hnl2⟩:∃nl,poolN pool2 tu2 n2=nl:=⟨_,rfl⟩;have HRow:Hid (TRow w1 9 A8 (strs nl2)):=by show TRow _ _ _ _;rw[<- hnl2];exact TRow.of_own hown
  have Hlen2:Hid (n2=nl2.length):=by show n2=_;rw[<- hnl2];simp
  have Hsh2:Hid (∀s∈nl2,s.size<=8192):=by
   show ∀s∈nl2,s.size<=8192;rw[<- hnl2];exact poolN_short (by decide) _ _
  have Hnl2:=iH hnl2;have Htu2:Hid (tu2<5):=htu2;clear hown hnl2 htu2;go_upto_block 2 with fail;go_cut [9] (fun _ wx=>∃(rules:List RuM) (sr:Sl),CtR V wx (w.heap.size+1) w.heap.size (w.heap.size+2) ⟨items,rules,[],[],si,sr,sl0,sl0⟩∧RusOk N rules nl2∧rules.length=n2∧sr.n=n2)
  case first =>
   go_wp2_with fail;go_loopw [9] (fun i wr=>∃(k:Nat) (rules:List RuM) (sr:Sl),k<=n2∧i=.int .i64 k∧CtR V wr (w.heap.size+1) w.heap.size (w.heap.size+2) ⟨items,rules,[],[],si,sr,sl0,sl0⟩∧rules.length=k∧sr.n=k∧RusOk N rules (nl2.take k)∧TRow wr 9 A8 (strs nl2)) (fun i _=>n2-(intOf i).toNat)
   case atStart=>exact⟨0,[],sl0,by omega,rfl,⟨HC2.out,World.ownsRow_nil _ _ _ _⟩,rfl,rfl,.nil _,HRow.out⟩
   case round =>
    clear HC2 HRow;obtain⟨k,rules,⟨Ai,ni,ci⟩,hk,rfl,hC,hlk,hni,hit,hrow⟩:=hrel;dsimp only at *;subst hni;by_cases hlt:ni<n2
    ·have hkl:ni<nl2.length:=by have:=Hlen2.out;omega
     obtain⟨bs,os,rfl,hbs⟩:=trow_some hrow (by omega);have HT:=iH (List.take_succ_eq_append_getElem hkl);have hsz:=Hsh2.out nl2[ni] (List.getElem_mem hkl);have HCx:=iH (hC.below (Below.refl _ _).drew);have Hit:=iH hit;have HRw:=iH (hrow.keep (Keep.below (Below.refl _ _).drew));have hcl:=hC.ct.bx.lt;clear hC hit hrow;obtain⟨s,hs⟩:∃s,nl2[ni]=s:=⟨_,rfl⟩;have Hs:=iH hs;rw[hs]at HT hsz;clear hs;have KI:Hid (Calls Tryz.prog 66 #[.pointer (some ⟨w.heap.size+1,0,none⟩),.string s,.int .i64 (N:Int)] wr.drew (RuleG wr.drew (w.heap.size+1) N s)):=rule_g s N HCx.out.ct.st.ok (by omega) hsz;have kk0:(0:Int)<=(ni:Int):=by omega
     have kk1:(ni:Int)<(n2:Int):=by omega
     go_wp2_with fail;refine wp_region_X (fun w'=>Bk w' (w.heap.size+2) 28 (catSL si ⟨Ai,ni,ci⟩ sl0 sl0)∧TRow w' 9 (some ⟨bs,os,none⟩) (strs nl2)) 11 (n:=13) rfl (by kernel_rfl) (⟨HCx.out.ct.bx,HRw.out⟩) (fun hS=>?_);refine tX 0 (some 58) (v:=?_) rfl ⟨rfl,?_⟩ hS ?_;rotate_left
     ·intro w' hS';(go_simp;try with_reducible rfl)
     refine tX 1 (some 59) (v:=?_) rfl ⟨rfl,?_⟩ hS ?_;rotate_left
     ·intro w' hS';have e:=hS'.1.k1;(go_simp;try with_reducible rfl)
     refine tX 2 (some 60) (v:=?_) rfl ⟨rfl,?_⟩ hS ?_;rotate_left
     ·intro w' hS';(go_simp;try with_reducible rfl)
     refine tX 3 (some 61) (v:=?_) rfl ⟨rfl,?_⟩ hS ?_;rotate_left
     ·intro w' hS';(go_simp;try with_reducible rfl)
     refine tX 4 (some 62) (v:=?_) rfl ⟨rfl,?_⟩ hS ?_;rotate_left
     ·intro w' hS';(go_simp;try with_reducible rfl)
     refine tX 5 (some 63) (v:=?_) rfl ⟨rfl,?_⟩ hS ?_;rotate_left
     ·intro w' hS';(go_simp;try with_reducible rfl)
     refine tX 6 (some 64) (v:=?_) rfl ⟨rfl,?_⟩ hS ?_;rotate_left
     ·intro w' hS';have e:w'.cell? ⟨bs,os+ni,none⟩=some (.string s):=by rw[trow_str hS'.2 ni hkl,Hs.out]
      (go_simp;try with_reducible rfl)
     refine tX 7 (some 65) (v:=?_) rfl ⟨rfl,?_⟩ hS ?_;rotate_left
     ·intro w' hS';(go_simp;try with_reducible rfl)
     refine X_o 8 rfl fun K hK=>?_;go_simp;(with_reducible refine KI.out.mono ?_);rintro e w3 ⟨t,rfl,hto,htn,h1,h2,h3,h4,hs⟩;have Htn:=iH htn;have Hto:=iH hto;have Hts:=iH (And.intro h1 (And.intro h2 (And.intro h3 h4)));have HC3:=iH (HCx.out.next hs);have HR3:=iH (HRw.out.keep (hs.keep HCx.out.ct.st.ok 9 (by decide)));refine hK _ _ ⟨HC3.out.ct.bx,HR3.out⟩ ?_;clear hs hK htn hto h1 h2 h3 h4;refine X_o 9 rfl fun K hK=>?_;go_simp;have HC4:=iH (HC3.out.below ((Below.refl _ _).alloc (Nat.le_refl _) (.cells #[.string t.name,.bool t.spawn,.int .i64 t.level,.int .i64 t.time,.int .i64 t.chance,.int .i64 t.of_,.slice t.st.A t.st.n t.st.c,.slice t.sg.A t.sg.n t.sg.c,.slice t.sb.A t.sb.n t.sb.c] 103)));have HR4:=iH (HR3.out.keep (Keep.alloc 9 w3 (.cells #[.string t.name,.bool t.spawn,.int .i64 t.level,.int .i64 t.time,.int .i64 t.chance,.int .i64 t.of_,.slice t.st.A t.st.n t.st.c,.slice t.sg.A t.sg.n t.sg.c,.slice t.sb.A t.sb.n t.sb.c] 103)));refine hK _ _ ⟨HC4.out.ct.bx,HR4.out⟩ ?_;clear hK;refine X_o 10 rfl fun K hK=>?_;have hsz4:=HC4.out.ct.st.size;refine step_append_lies _ rfl (.tmp 59) (.tmp 67) 24 rfl V.heap.size 103 i103 (.agg #[.string ⟨#[]⟩,.bool false,.int .i64 0,.int .i64 0,.int .i64 0,.int .i64 0,.slice none 0 0,.slice none 0 0,.slice none 0 0]) 9 128 Tryz.underlying24 hi103 u0 u1 u2 rfl (by decide) _ ni (rucells rules) rfl (by have:=HC4.out.own;rw[hlk]at this;exact this) ⟨w3.heap.size,0,none⟩ 1 1 [.string t.name,.bool t.spawn,.int .i64 t.level,.int .i64 t.time,.int .i64 t.chance,.int .i64 t.of_,.slice t.st.A t.st.n t.st.c,.slice t.sg.A t.sg.n t.sg.c,.slice t.sb.A t.sb.n t.sb.c] rfl rfl (new9 _ _ _ _ _ _ _ _ _ _ _) (one9 t) (by omega) (by unfold maxLen;omega) (by omega) hsz4 (w3.heap.size+1) (by simp) ?_;intro g' cap w8 hown8 hgr8 _ _;rw[show rucells rules ++ [.string t.name,.bool t.spawn,.int .i64 t.level,.int .i64 t.time,.int .i64 t.chance,.int .i64 t.of_,.slice t.st.A t.st.n t.st.c,.slice t.sg.A t.sg.n t.sg.c,.slice t.sb.A t.sb.n t.sb.c]=rucells (rules ++ [t]) from(rucells_snoc rules t).symm]at hown8;obtain⟨B8,K8,K9,C9⟩:=HC4.out.app hgr8 hown8 (by rw[hlk]) (by omega) (RuM.Ok.keep (RuM.Ok.keep Hto.out (Keep.alloc 136 w3 (.cells #[.string t.name,.bool t.spawn,.int .i64 t.level,.int .i64 t.time,.int .i64 t.chance,.int .i64 t.of_,.slice t.st.A t.st.n t.st.c,.slice t.sg.A t.sg.n t.sg.c,.slice t.sb.A t.sb.n t.sb.c] 103))) (Keep.own HC4.out.own hgr8 (by decide)));have HR8:=HR4.out.keep (K8 9 (by decide));have z8:=B8.k1;have f8:=B8.frozen 1;have l8:=B8.lt;have H9:=iH C9;have HR9:=iH (HR8.keep (K9 9 (by decide)));refine hK _ _ ⟨B8,HR8⟩ ?_;clear hK hown8 hgr8 B8 K8 K9 C9 HR8;refine X_tail (by kernel_rfl) ?_;refine A_one 11 (by kernel_rfl) rfl rfl (fun K hK=>?_);go_simp;refine hK _ _ ?_;clear hK;refine A_one 12 (by kernel_rfl) rfl rfl (fun K hK=>?_);go_simp;refine hK _ _ ?_;clear hK;refine A_done (by kernel_rfl) ?_;go_wp2;go_roundw
     case rel=>exact⟨ni+1,rules ++ [t],_,by omega,by go_num,H9.out,by simp[hlk],rfl,by rw[HT.out];exact Hit.out.snoc Htn.out Hts.out.1 Hts.out.2.1 Hts.out.2.2.1 Hts.out.2.2.2,HR9.out⟩
     case measure=>simp[intOf];omega
    ·obtain rfl:n2=ni:=by omega
     have Hit:Hid (RusOk N rules nl2):=by
      show RusOk _ _ _;rw[List.take_of_length_le (by have:=Hlen2.out;omega)]at hit;exact hit
     have HC3:=iH hC;clear hC hit hrow;go_wp2;go_meet;exact⟨rules,⟨Ai,n2,ci⟩,HC3.out,Hit.out,hlk,rfl⟩
  case rest =>
   clear HC2 HRow;obtain⟨rules0,⟨Ar0,nr0,cr0⟩,hC,hit,hl0,hn0⟩:=hcut;dsimp only at hn0 hC;obtain rfl:n2=nr0:=hn0.symm;have HC1:=iH hC.ct;have HO1:=iH hC;have HR0:=iH hit;have Hl0:=iH hl0;clear hC hit hl0;obtain⟨W2,hW⟩:∃W2,wc=W2:=⟨_,rfl⟩;rw[hW]at HC1 HO1⊢;clear hW;have hsw:=HC1.out.bx.lt;have HC0:=iH (HC1.out.below ((Below.refl _ _).alloc (Nat.le_refl _) (.cells #[.string ⟨#[114,97,105,110]⟩,.string ⟨#[109,105,110,101]⟩,.string ⟨#[100,105,103]⟩] 9)));have kp:=Bk.new W2 9 (strs pool3);have K1:Calls Tryz.prog 64 #[.pointer (some ⟨w.heap.size+1,0,none⟩),.slice (some ⟨W2.heap.size,0,none⟩) 3 3,.int .i64 2] (W2.alloc (.cells #[.string ⟨#[114,97,105,110]⟩,.string ⟨#[109,105,110,101]⟩,.string ⟨#[100,105,103]⟩] 9)) (SomeG (W2.alloc (.cells #[.string ⟨#[114,97,105,110]⟩,.string ⟨#[109,105,110,101]⟩,.string ⟨#[100,105,103]⟩] 9)) (w.heap.size+1) pool3 2) :=
    some_g 3 2 HC0.out.st.ok kp (by omega) (by decide) (by decide) (by omega) (by omega)
   have HK1:=iH K1;clear K1 kp;have HO2:=iH (HO1.out.below ((Below.refl _ _).alloc (Nat.le_refl _) (.cells #[.string ⟨#[114,97,105,110]⟩,.string ⟨#[109,105,110,101]⟩,.string ⟨#[100,105,103]⟩] 9)));go_wp2_with fail;(with_reducible refine HK1.out.mono ?_);rintro e w2 ⟨v,tu3,n3,rfl,htu3,hn31,hn32,hown,hs⟩;have HC2:=iH (HO2.out.next hs);clear hs HK1 HC0 HC1 hsw HO1 HO2;obtain⟨A10,c10,rfl,_⟩:=row_of_owns hown;obtain⟨nl3,hnl3⟩:∃nl,poolN pool3 tu3 n3=nl:=⟨_,rfl⟩;have HRow:Hid (TRow w2 9 A10 (strs nl3)):=by show TRow _ _ _ _;rw[<- hnl3];exact TRow.of_own hown
   have Hlen3:Hid (n3=nl3.length):=by show n3=_;rw[<- hnl3];simp
   have Hsh3:Hid (∀s∈nl3,s.size<=8192):=by
    show ∀s∈nl3,s.size<=8192;rw[<- hnl3];exact poolN_short (by decide) _ _
   have Hnl3:=iH hnl3;have Htu3:Hid (tu3<3):=htu3;clear hown hnl3 htu3;go_upto_block 4 with fail;go_cut [11] (fun _ wx=>∃(rules:List RuM) (sr:Sl),CtAt V wx (w.heap.size+1) w.heap.size (w.heap.size+2) ⟨items,rules,[],[],si,sr,sl0,sl0⟩∧RusOk N rules (nl2 ++ nl3))
   case first =>
    go_wp2_with fail;go_loopw [11] (fun i wr=>∃(k q:Nat) (rules:List RuM) (sr:Sl),k<=n3∧q=n2+k∧i=.int .i64 k∧CtR V wr (w.heap.size+1) w.heap.size (w.heap.size+2) ⟨items,rules,[],[],si,sr,sl0,sl0⟩∧rules.length=q∧sr.n=q∧RusOk N rules (nl2 ++ nl3.take k)∧TRow wr 9 A10 (strs nl3)) (fun i _=>n3-(intOf i).toNat)
    case atStart=>exact⟨0,n2,rules0,⟨Ar0,n2,cr0⟩,by omega,by omega,rfl,HC2.out,Hl0.out,rfl,by rw[List.take_zero,List.append_nil];exact HR0.out,HRow.out⟩
    case round =>
     clear HC2 HRow HR0 Hl0;obtain⟨kq,q,rules,⟨Ai,ni,ci⟩,hk,hq,rfl,hC,hlk,hni,hit,hrow⟩:=hrel;dsimp only at *;obtain rfl:ni=q:=hni;by_cases hlt:kq<n3
     ·have hkl:kq<nl3.length:=by have:=Hlen3.out;omega
      obtain⟨bs,os,rfl,hbs⟩:=trow_some hrow (by omega);have HT:=iH (List.take_succ_eq_append_getElem hkl);have hsz:=Hsh3.out nl3[kq] (List.getElem_mem hkl);have HCx:=iH (hC.below (Below.refl _ _).drew);have Hit:=iH hit;have HRw:=iH (hrow.keep (Keep.below (Below.refl _ _).drew));have hcl:=hC.ct.bx.lt;have hni6:ni<=6:=by omega
      have Hq:=iH hq;clear hC hit hrow hq;obtain⟨s,hs⟩:∃s,nl3[kq]=s:=⟨_,rfl⟩;have Hs:=iH hs;rw[hs]at HT hsz;clear hs;have KI:Hid (Calls Tryz.prog 67 #[.pointer (some ⟨w.heap.size+1,0,none⟩),.int .i64 (N:Int),.int .i64 3] wr.drew (AmtsG wr.drew (w.heap.size+1) N 3)):=amounts_g N 3 HCx.out.ct.st.ok (by omega) (by omega);have kk0:(0:Int)<=(kq:Int):=by omega
      have kk1:(kq:Int)<(n3:Int):=by omega
      go_wp2_with fail;refine wp_region_X (fun w'=>Bk w' (w.heap.size+2) 28 (catSL si ⟨Ai,ni,ci⟩ sl0 sl0)∧TRow w' 9 (some ⟨bs,os,none⟩) (strs nl3)) 12 (n:=14) rfl (by kernel_rfl) (⟨HCx.out.ct.bx,HRw.out⟩) (fun hS=>?_);refine tX 0 (some 79) (v:=?_) rfl ⟨rfl,?_⟩ hS ?_;rotate_left
      ·intro w' hS';(go_simp;try with_reducible rfl)
      refine tX 1 (some 80) (v:=?_) rfl ⟨rfl,?_⟩ hS ?_;rotate_left
      ·intro w' hS';have e:=hS'.1.k1;(go_simp;try with_reducible rfl)
      refine tX 2 (some 81) (v:=?_) rfl ⟨rfl,?_⟩ hS ?_;rotate_left
      ·intro w' hS';(go_simp;try with_reducible rfl)
      refine tX 3 (some 82) (v:=?_) rfl ⟨rfl,?_⟩ hS ?_;rotate_left
      ·intro w' hS';(go_simp;try with_reducible rfl)
      refine tX 4 (some 83) (v:=?_) rfl ⟨rfl,?_⟩ hS ?_;rotate_left
      ·intro w' hS';(go_simp;try with_reducible rfl)
      refine tX 5 (some 84) (v:=?_) rfl ⟨rfl,?_⟩ hS ?_;rotate_left
      ·intro w' hS';have e:w'.cell? ⟨bs,os+kq,none⟩=some (.string s):=by rw[trow_str hS'.2 kq hkl,Hs.out]
       (go_simp;try with_reducible rfl)
      refine tX 6 (some 85) (v:=?_) rfl ⟨rfl,?_⟩ hS ?_;rotate_left
      ·intro w' hS';(go_simp;try with_reducible rfl)
      refine tX 7 (some 86) (v:=?_) rfl ⟨rfl,?_⟩ hS ?_;rotate_left
      ·intro w' hS';(go_simp;try with_reducible rfl)
      refine X_o 8 rfl fun K hK=>?_;go_simp;(with_reducible refine KI.out.mono ?_);rintro e w3 ⟨v,gv,rfl,hown,hA,hl3,hs⟩;obtain⟨Ag,cg,rfl,_⟩:=row_of_owns hown;have hto:PrV w3 136 ⟨Ag,gv.length,cg⟩ gv:=prV_own hown hA (by omega) (by omega);obtain⟨h1,h2,h3,h4⟩:=spawn_ok s ⟨Ag,gv.length,cg⟩ hA hl3;obtain⟨ng,hng⟩:∃ng,gv.length=ng:=⟨_,rfl⟩;rw[hng]at hto h1 h2 h3 h4;(try rw[hng]);have Hto:Hid (RuM.Ok w3 ⟨s,true,0,0,1,1,[],gv,[],sl0,⟨Ag,ng,cg⟩,sl0⟩):=⟨⟨.inl rfl,rfl,by simp,by simp⟩,hto,⟨.inl rfl,rfl,by simp,by simp⟩,hsz⟩;have Hts:=iH (And.intro h1 (And.intro h2 (And.intro h3 h4)));have HC3:=iH (HCx.out.next hs);have HR3:=iH (HRw.out.keep (hs.keep HCx.out.ct.st.ok 9 (by decide)));refine hK _ _ ⟨HC3.out.ct.bx,HR3.out⟩ ?_;clear hs hK hown hA hto h1 h2 h3 h4 hng hl3;refine X_o 9 rfl fun K hK=>?_;go_simp;refine hK _ _ ⟨HC3.out.ct.bx,HR3.out⟩ ?_;clear hK;refine X_o 10 rfl fun K hK=>?_;go_simp;have HC4:=iH (HC3.out.below ((Below.refl _ _).alloc (Nat.le_refl _) (.cells #[.string s,.bool true,.int .i64 0,.int .i64 0,.int .i64 1,.int .i64 1,.slice none 0 0,.slice Ag ng cg,.slice none 0 0] 103)));have HR4:=iH (HR3.out.keep (Keep.alloc 9 w3 (.cells #[.string s,.bool true,.int .i64 0,.int .i64 0,.int .i64 1,.int .i64 1,.slice none 0 0,.slice Ag ng cg,.slice none 0 0] 103)));refine hK _ _ ⟨HC4.out.ct.bx,HR4.out⟩ ?_;clear hK;refine X_o 11 rfl fun K hK=>?_;have hsz4:=HC4.out.ct.st.size;refine step_append_lies _ rfl (.tmp 80) (.tmp 89) 24 rfl V.heap.size 103 i103 (.agg #[.string ⟨#[]⟩,.bool false,.int .i64 0,.int .i64 0,.int .i64 0,.int .i64 0,.slice none 0 0,.slice none 0 0,.slice none 0 0]) 9 128 Tryz.underlying24 hi103 u0 u1 u2 rfl (by decide) _ ni (rucells rules) rfl (by have:=HC4.out.own;rw[hlk]at this;exact this) ⟨w3.heap.size,0,none⟩ 1 1 [.string s,.bool true,.int .i64 0,.int .i64 0,.int .i64 1,.int .i64 1,.slice none 0 0,.slice Ag ng cg,.slice none 0 0] rfl rfl (new9 _ _ _ _ _ _ _ _ _ _ _) (one9 ⟨s,true,0,0,1,1,[],gv,[],sl0,⟨Ag,ng,cg⟩,sl0⟩) (by omega) (by unfold maxLen;omega) (by omega) hsz4 (w3.heap.size+1) (by simp) ?_;intro g' cap w8 hown8 hgr8 _ _;rw[show rucells rules ++ [.string s,.bool true,.int .i64 0,.int .i64 0,.int .i64 1,.int .i64 1,.slice none 0 0,.slice Ag ng cg,.slice none 0 0]=rucells (rules ++ [⟨s,true,0,0,1,1,[],gv,[],sl0,⟨Ag,ng,cg⟩,sl0⟩]) from(rucells_snoc rules ⟨s,true,0,0,1,1,[],gv,[],sl0,⟨Ag,ng,cg⟩,sl0⟩).symm]at hown8;obtain⟨B8,K8,K9,C9⟩:=HC4.out.app hgr8 hown8 (by rw[hlk]) (by omega) (RuM.Ok.keep (RuM.Ok.keep Hto.out (Keep.alloc 136 w3 (.cells #[.string s,.bool true,.int .i64 0,.int .i64 0,.int .i64 1,.int .i64 1,.slice none 0 0,.slice Ag ng cg,.slice none 0 0] 103))) (Keep.own HC4.out.own hgr8 (by decide)));have HR8:=HR4.out.keep (K8 9 (by decide));have z8:=B8.k1;have f8:=B8.frozen 1;have l8:=B8.lt;have H9:=iH C9;have HR9:=iH (HR8.keep (K9 9 (by decide)));refine hK _ _ ⟨B8,HR8⟩ ?_;clear hK hown8 hgr8 B8 K8 K9 C9 HR8;refine X_tail (by kernel_rfl) ?_;refine A_one 12 (by kernel_rfl) rfl rfl (fun K hK=>?_);go_simp;refine hK _ _ ?_;clear hK;refine A_one 13 (by kernel_rfl) rfl rfl (fun K hK=>?_);go_simp;refine hK _ _ ?_;clear hK;refine A_done (by kernel_rfl) ?_;go_wp2;go_roundw
      case rel=>exact⟨kq+1,ni+1,_,_,by omega,by rw[Hq.out];omega,by go_num,H9.out,by simp[hlk],rfl,by rw[HT.out,<- List.append_assoc];exact Hit.out.snoc rfl Hts.out.1 Hts.out.2.1 Hts.out.2.2.1 Hts.out.2.2.2,HR9.out⟩
      case measure=>simp[intOf];omega
     ·obtain rfl:n3=kq:=by omega
      have Hit:Hid (RusOk N rules (nl2 ++ nl3)):=by
       show RusOk _ _ _;rw[List.take_of_length_le (by have:=Hlen3.out;omega)]at hit;exact hit
      have HC3:=iH hC.ct;clear hC hit hrow hq;go_wp2;go_meet;exact⟨rules,⟨Ai,ni,ci⟩,HC3.out,Hit.out⟩
   case rest =>
    clear HC2 HRow HR0 Hl0;obtain⟨rules,sr,hC,hit⟩:=hcut;have HC1:=iH hC;have HRu:=iH hit;clear hC hit;obtain⟨W3,hW⟩:∃W3,wc=W3:=⟨_,rfl⟩;rw[hW]at HC1⊢;clear hW;go_wp2_with fail;(with_reducible refine(next_g 3 HC1.out.st.ok (by omega) (by omega)).mono ?_);rintro e w3 ⟨x,rfl,x0,x1,hs⟩;obtain⟨k4,rfl⟩:=Int.eq_ofNat_of_zero_le x0;have hk4:k4<3:=by omega
    have HC2:=iH (HC1.out.next hs);clear hs HC1 x0 x1;go_upto_block 6 with fail;go_cut [12] (fun _ wx=>∃(tables:List TbM) (st:Sl),CtAt V wx (w.heap.size+1) w.heap.size (w.heap.size+2) ⟨items,rules,tables,[],si,sr,st,sl0⟩∧TbsOk N tables (downN pool4 k4 0))
    case first =>
     go_wp2_with fail;go_loopw [12] (fun i wr=>∃(j:Nat) (tables:List TbM) (st:Sl),j<=k4∧i=.int .i64 j∧CtT V wr (w.heap.size+1) w.heap.size (w.heap.size+2) ⟨items,rules,tables,[],si,sr,st,sl0⟩∧tables.length=k4-j∧st.n=k4-j∧TbsOk N tables (downN pool4 k4 j)) (fun i _=>(intOf i).toNat)
     case atStart=>exact⟨k4,[],sl0,Nat.le_refl _,rfl,⟨HC2.out,World.ownsRow_nil _ _ _ _⟩,by simp,by simp,by rw[downN_self];exact .nil _⟩
     case round =>
      clear HC2;obtain⟨j,tables,⟨At,nt,ct⟩,hj,rfl,hC,hlk,hnt,hit⟩:=hrel;dsimp only at *;have hlk2:tables.length=nt:=by omega
      have Hnt:=iH hnt;have hnt9:nt<=3:=by omega
      clear hnt hlk;by_cases h0:0<j
      ·have HC3:=iH hC;have Hit:=iH hit;clear hC hit;obtain⟨WR,hW⟩:∃WR,wr=WR:=⟨_,rfl⟩;rw[hW]at HC3⊢;clear hW;have hcl:=HC3.out.ct.bx.lt;have hgl:=HC3.out.ct.st.ok.lt;obtain⟨nm,hnm⟩:∃nm,pool4[j]?.getD ⟨#[]⟩=nm:=⟨_,rfl⟩;have Hnm:=iH hnm;have hnsz:nm.size<=8192:=by
        rw[<- hnm];rcases(show j=1∨j=2 by omega)with rfl|rfl
        ·decide
        ·decide
       clear hnm;go_upto_region 23 with fail;go_cut [13] (fun v wx=>∃tb:Nat,v=.pointer (some ⟨tb,0,none⟩)∧RwAt WR wx (w.heap.size+1) tb nm [] sl0)
       case first =>
        rcases(show j=1∨j=2 by omega)with rfl|rfl
        all_goals
         have KB:Hid (∀s:ByteArray,Bk ((WR.alloc (.cells #[.string ⟨#[]⟩,.string ⟨#[99,104,101,115,116]⟩,.string ⟨#[104,101,114,98]⟩] 9)).alloc (.cells #[.string s,.slice none 0 0] 107)) (WR.heap.size+1) 107 [.string s,.slice none 0 0]):=fun s=>by
          have kb:=Bk.new (WR.alloc (.cells #[.string ⟨#[]⟩,.string ⟨#[99,104,101,115,116]⟩,.string ⟨#[104,101,114,98]⟩] 9)) 107 [.string s,.slice none 0 0];rw[World.size_alloc]at kb;exact kb
         have en:=Hnm.out.symm;dsimp only[pool4,List.getElem?_cons_succ,List.getElem?_cons_zero,Option.getD_some]at en;subst en;go_wp2;go_meet;exact⟨_,rfl,⟨((GSt.refl HC3.out.ct.st.ok).alloc _).alloc _,KB.out _,by simp,World.ownsRow_nil _ _ _ _,by simp⟩⟩
       case rest =>
        obtain⟨tb,rfl,hR⟩:=hcut;have HR:=iH hR;clear hR;obtain⟨W4,hW⟩:∃W4,wc=W4:=⟨_,rfl⟩;rw[hW]at HR⊢;clear hW;go_wp2_with fail;(with_reducible refine(next_g 3 HR.out.st.ok (by omega) (by omega)).mono ?_);rintro e w4 ⟨x,rfl,x0,x1,hs⟩;have HR1:=iH (HR.out.next hs);clear hs HR;go_wp2_with fail;go_loopw [14] (fun i wx=>∃(y:Int) (rows:List RwM) (s:Sl),i=.int .i64 y∧-1<=y∧y<=x∧(rows.length:Int)+y=x∧RwAt WR wx (w.heap.size+1) tb nm rows s∧RwsOk N rows) (fun i _=>(intOf i+1).toNat)
        case atStart=>exact⟨x,[],sl0,rfl,by omega,by omega,by simp,HR1.out,.nil _⟩
        case round =>
         clear HR1;obtain⟨y,rows,⟨As,ns,cs⟩,rfl,hy0,hy1,hry,hR,hrw⟩:=hrel;have hlr:rows.length=ns:=hR.len.symm;rw[hlr]at hry;by_cases hy:0<=y
         ·go_wp2_with fail;(with_reducible refine(next_g 9 hR.st.ok (by omega) (by omega)).mono ?_);rintro e w5 ⟨z,rfl,z0,z1,hs⟩;have HRx:=iH ((hR.next hs).below (Below.refl _ _).drew);have Hrw:=iH hrw;have hlt5:=(hR.next hs).bx.lt;clear hs hR hrw;have KI:Hid (Calls Tryz.prog 67 #[.pointer (some ⟨w.heap.size+1,0,none⟩),.int .i64 (N:Int),.int .i64 2] w5.drew (AmtsG w5.drew (w.heap.size+1) N 2)):=amounts_g N 2 HRx.out.st.ok (by omega) (by omega);go_wp2_with fail;refine wp_region_X (fun w'=>Bk w' tb 107 [.string nm,.slice As ns cs]) 9 (n:=11) rfl (by kernel_rfl) (HRx.out.bx) (fun hS=>?_);refine tX 0 (some 112) (v:=?_) rfl ⟨rfl,?_⟩ hS ?_;rotate_left
          ·intro w' hS';(go_simp;try with_reducible rfl)
          refine tX 1 (some 113) (v:=?_) rfl ⟨rfl,?_⟩ hS ?_;rotate_left
          ·intro w' hS';have e:=hS'.k1;(go_simp;try with_reducible rfl)
          refine tX 2 (some 114) (v:=?_) rfl ⟨rfl,?_⟩ hS ?_;rotate_left
          ·intro w' hS';(go_simp;try with_reducible rfl)
          refine tX 3 (some 115) (v:=?_) rfl ⟨rfl,?_⟩ hS ?_;rotate_left
          ·intro w' hS';(go_simp;try with_reducible rfl)
          refine tX 4 (some 116) (v:=?_) rfl ⟨rfl,?_⟩ hS ?_;rotate_left
          ·intro w' hS';(go_simp;try with_reducible rfl)
          refine X_o 5 rfl fun K hK=>?_;go_simp;(with_reducible refine KI.out.mono ?_);rintro e w6 ⟨v,gv,rfl,hown,hA,hl3,hs⟩;obtain⟨Ag,cg,rfl,_⟩:=row_of_owns hown;have hto:PrV w6 136 ⟨Ag,gv.length,cg⟩ gv:=prV_own hown hA (by omega) (by omega);obtain⟨ng,hng⟩:∃ng,gv.length=ng:=⟨_,rfl⟩;have HA:=iH (And.intro hA hl3);rw[hng]at hto;(try rw[hng]);have Hto:=iH hto;have HR3:=iH (HRx.out.next hs);refine hK _ _ HR3.out.bx ?_;clear hs hK hown hA hto hng hl3;refine X_o 6 rfl fun K hK=>?_;go_simp;refine hK _ _ HR3.out.bx ?_;clear hK;refine X_o 7 rfl fun K hK=>?_;go_simp;have HR4:=iH (HR3.out.below ((Below.refl _ _).alloc (Nat.le_refl _) (.cells #[.int .i64 (1+z),.slice Ag ng cg] 109)));refine hK _ _ HR4.out.bx ?_;clear hK;refine X_o 8 rfl fun K hK=>?_;have hsz4:=HR4.out.st.size;refine step_append_lies _ rfl (.tmp 113) (.tmp 119) 105 rfl WR.heap.size 109 i109 (.agg #[.int .i64 0,.slice none 0 0]) 2 32 Tryz.underlying105 hi109 v0 v1 v2 rfl (by decide) _ ns (rows.flatMap RwM.cells) rfl (by have:=HR4.out.own;rw[hlr]at this;exact this) ⟨w6.heap.size,0,none⟩ 1 1 [.int .i64 (1+z),.slice Ag ng cg] rfl rfl (new2 _ _ _ _) (one2s _ _ _ _ rfl) (by omega) (by unfold maxLen;omega) (by omega) hsz4 (w6.heap.size+1) (by simp) ?_;intro g' cap w8 hown8 hgr8 _ _;rw[show rows.flatMap RwM.cells ++ [.int .i64 (1+z),.slice Ag ng cg]=(rows ++ [(⟨1+z,gv,⟨Ag,ng,cg⟩⟩:RwM)]).flatMap RwM.cells by simp[RwM.cells]]at hown8;obtain⟨B8,C9⟩:=HR4.out.app hgr8 hown8 (by rw[hlr]) (PrV.keep (PrV.keep Hto.out (Keep.alloc 136 w6 (.cells #[.int .i64 (1+z),.slice Ag ng cg] 109))) (Keep.own HR4.out.own hgr8 (by decide)));have z8:=B8.k1;have f8:=B8.frozen 1;have l8:=B8.lt;have H9:=iH C9;refine hK _ _ B8 ?_;clear hK hown8 hgr8 B8 C9;refine X_tail (by kernel_rfl) ?_;refine A_one 9 (by kernel_rfl) rfl rfl (fun K hK=>?_);go_simp;refine hK _ _ ?_;clear hK;refine A_one 10 (by kernel_rfl) rfl rfl (fun K hK=>?_);go_simp;refine hK _ _ ?_;clear hK;refine A_done (by kernel_rfl) ?_;go_wp2;go_roundw
          case rel=>exact⟨y-1,rows ++ [⟨1+z,gv,⟨Ag,ng,cg⟩⟩],_,rfl,by omega,by omega,by simp;omega,H9.out,Hrw.out.snoc HA.out.1 (by have:=HA.out.2;omega) (by omega) (by omega)⟩
          case measure=>simp[intOf];omega
         ·obtain rfl:y = -1:=by omega
          have Hrk:=iH (hR.ok (by omega) hnsz);have Hrw:=iH hrw;have HC4:=iH (HC3.out.next hR.st);have HC5:=iH (HC4.out.below ((Below.refl _ _).alloc (Nat.le_refl _) (.cells #[.string nm,.slice As ns cs] 107)));have y0:=hR.bx.k0;have y1:=hR.bx.k1;have yc:=HC4.out.ct.bx.k2;have yl:=hR.bx.lt;have yg:=HC4.out.ct.bx.lt;have hsz5:=HC5.out.ct.st.size;clear hR hrw HC3;go_wp2_with(at_builtin;refine wpList_append_lies _ rfl (.tmp 123) (.tmp 125) 25 rfl V.heap.size 107 i107 (.agg #[.string ⟨#[]⟩,.slice none 0 0]) 2 40 Tryz.underlying25 hi107 p0 p1 p2 rfl (by decide) _ nt (tbcells tables) rfl (by have:=HC5.out.own;rw[hlk2]at this;exact this) ⟨wr.heap.size,0,none⟩ 1 1 [.string nm,.slice As ns cs] rfl rfl (new2 _ _ _ _) (one2s _ _ _ _ rfl) (by omega) (by unfold maxLen;omega) (by omega) hsz5 (wr.heap.size+1) (by simp) ?_);intro g' cap w8 hown8 hgr8 _ _;rw[<- hVs]at hown8;rw[show tbcells tables ++ [.string nm,.slice As ns cs]=tbcells (tables ++ [⟨nm,rows,⟨As,ns,cs⟩⟩]) from(tbcells_snoc tables ⟨nm,rows,⟨As,ns,cs⟩⟩).symm]at hown8;have hokk:TbM.Ok w8 ⟨nm,rows,⟨As,ns,cs⟩⟩:=by
           have k1:∀q,(107:TypeId)≠q->Keep q wr w8:=fun q hq=>(Keep.alloc q wr _).trans (Keep.own HC5.out.own hgr8 hq)
           exact⟨Hrk.out.rows.keep (k1 109 (by decide)) (k1 136 (by decide)),hnsz⟩
          obtain⟨B8,K8,K9,C9⟩:=HC5.out.app hgr8 hown8 (by rw[hlk2]) (by omega) hokk;have z8:=B8.k2;have f8:=B8.frozen 2;have l8:=B8.lt;have H9:=iH C9;clear hown8 hgr8 B8 K8 K9 C9 HC4 HC5 y0 y1 yc;go_wp2;go_roundw
          case rel=>exact⟨j-1,tables ++ [⟨nm,rows,⟨As,ns,cs⟩⟩],_,by omega,by rw[show((j-1:Nat):Int)=(j:Int)-1 by omega],H9.out,by have:=Hnt.out;simp[hlk2];omega,by have:=Hnt.out;dsimp only;omega,by rw[downN_prev pool4 h0 hj,Hnm.out];exact Hit.out.snoc Hrw.out (by omega) (by omega)⟩
          case measure=>simp[intOf];omega
      ·obtain rfl:j=0:=by omega
       have HC3:=iH hC.ct;have Hit:=iH hit;clear hC hit;go_wp2;go_meet;exact⟨tables,⟨At,nt,ct⟩,HC3.out,Hit.out⟩
    case rest =>
     clear HC2;obtain⟨tables,st,hC,hit⟩:=hcut;have HC1:=iH hC;have HTb:=iH hit;clear hC hit;obtain⟨W5,hW⟩:∃W5,wc=W5:=⟨_,rfl⟩;rw[hW]at HC1⊢;clear hW;go_wp2_with fail;(with_reducible refine(next_g 3 HC1.out.st.ok (by omega) (by omega)).mono ?_);rintro e w5 ⟨x,rfl,x0,x1,hs⟩;obtain⟨k5,rfl⟩:=Int.eq_ofNat_of_zero_le x0;have hk5:k5<3:=by omega
     have HC2:=iH (HC1.out.next hs);clear hs HC1 x0 x1;go_upto_block 10 with fail;go_cut [16] (fun _ wx=>∃(taxes:List TxM) (sx:Sl),CtAt V wx (w.heap.size+1) w.heap.size (w.heap.size+2) ⟨items,rules,tables,taxes,si,sr,st,sx⟩∧TxsOk taxes (downN pool5 k5 0))
     case first =>
      go_wp2_with fail;go_loopw [16] (fun i wr=>∃(j:Nat) (taxes:List TxM) (sx:Sl),j<=k5∧i=.int .i64 j∧CtX V wr (w.heap.size+1) w.heap.size (w.heap.size+2) ⟨items,rules,tables,taxes,si,sr,st,sx⟩∧taxes.length=k5-j∧sx.n=k5-j∧TxsOk taxes (downN pool5 k5 j)) (fun i _=>(intOf i).toNat)
      case atStart=>exact⟨k5,[],sl0,Nat.le_refl _,rfl,⟨HC2.out,World.ownsRow_nil _ _ _ _⟩,by simp,by simp,by rw[downN_self];exact .nil⟩
      case round =>
       clear HC2;obtain⟨j,taxes,⟨At,nt,ct⟩,hj,rfl,hC,hlk,hnt,hit⟩:=hrel;dsimp only at *;have hlk2:taxes.length=nt:=by omega
       have Hnt:=iH hnt;have hnt9:nt<=3:=by omega
       clear hnt hlk;by_cases h0:0<j
       ·have HC3:=iH hC;have Hit:=iH hit;clear hC hit;obtain⟨WR,hW⟩:∃WR,wr=WR:=⟨_,rfl⟩;rw[hW]at HC3⊢;clear hW;have hcl:=HC3.out.ct.bx.lt;have hgl:=HC3.out.ct.st.ok.lt;obtain⟨nm,hnm⟩:∃nm,pool5[j]?.getD ⟨#[]⟩=nm:=⟨_,rfl⟩;have Hnm:=iH hnm;have Hnc:Hid ((strs pool5)[j]? = some (.string nm)):=by
         show _=_;rw[<- hnm];rcases(show j=1∨j=2 by omega)with rfl|rfl
         ·rfl
         ·rfl
        have hnsz:nm.size<=8192:=by
         rw[<- hnm];rcases(show j=1∨j=2 by omega)with rfl|rfl
         ·decide
         ·decide
        clear hnm;have j0:(0:Int)<=(j:Int):=by omega
        have j1:(j:Int)<3:=by omega
        go_upto_region 33 with fail;go_cut [17] (fun v wx=>XMade WR wx (w.heap.size+1) nm v)
        case first =>
         refine wp_region_fr (by kernel_rfl) (by kernel_rfl) (fun fr L a W=>∃x134 x135 x136 x137 x138 x139 x140 x141 x142 x17:Value,a=⟨((((((((((fr.setIfInBounds 134 x134).setIfInBounds 135 x135).setIfInBounds 136 x136).setIfInBounds 137 x137).setIfInBounds 138 x138).setIfInBounds 139 x139).setIfInBounds 140 x140).setIfInBounds 141 x141).setIfInBounds 142 x142).setIfInBounds 17 x17),[]⟩∧(L 10=false->XMid WR (w.heap.size+1) j nm L x134 x135 x136 x137 x138 x139 x140 x141 x142 x17 W)∧(L 10=true->(∀k,k<10->L k=true)∧XMade WR W (w.heap.size+1) nm x17)) ?_ ?_ ?_
         ·simp only[List.setIfInBounds_toArray,List.set_cons_zero,List.set_cons_succ];exact⟨_,_,_,_,_,_,_,_,_,_,rfl,fun _=>⟨(GSt.refl HC3.out.ct.st.ok).below (bel_drewN (Below.refl _ _) 1),by simp,by simp,by simp,by simp,by simp,by simp,by simp,by simp,by simp,by simp⟩,by simp⟩
         ·simp only[List.setIfInBounds_toArray,List.set_cons_zero,List.set_cons_succ];intro i o L a W ho hL hdep hI;obtain⟨x134,x135,x136,x137,x138,x139,x140,x141,x142,x17,rfl,hpre,hfin⟩:=hI;have hi11:i<11:=(Array.getElem?_eq_some_iff.1 ho).1;rcases(show i=0∨i=1∨i=2∨i=3∨i=4∨i=5∨i=6∨i=7∨i=8∨i=9∨i=10 by omega)with rfl|rfl|rfl|rfl|rfl|rfl|rfl|rfl|rfl|rfl|rfl
          ·have h10:L 10=false:=by
            cases h:L 10 with
            | false=>rfl
            | true=>exact absurd ((hfin h).1 0 (by omega)) (by rw[hL];simp)
           have M:=hpre h10;obtain rfl:=Option.some.inj ho;refine wpOp_step rfl (fun K hK=>?_);go_simp;have hge:=M.st.size;have M:=M.go ((GSt.refl M.st.ok).alloc (.cells #[.string ⟨#[]⟩,.string ⟨#[115,97,108,101]⟩,.string ⟨#[115,116,97,108,108]⟩] 9));exact hK _ _ ⟨_,x135,x136,x137,x138,x139,x140,x141,x142,x17,rfl,fun _=>⟨M.st,fun _=>⟨W.heap.size,rfl,Bk.new W 9 (strs pool5),hge⟩,fun e=>M.l1 (by simpa using e),fun e=>M.l2 (by simpa using e),fun e=>M.l3 (by simpa using e),fun e=>M.l4 (by simpa using e),fun e=>M.l5 (by simpa using e),fun e=>M.l6 (by simpa using e),fun e=>M.l7 (by simpa using e),fun e=>M.l8 (by simpa using e),fun e=>M.l9 (by simpa using e)⟩,fun e=>by simp[h10]at e⟩
          ·have h10:L 10=false:=by
            cases h:L 10 with
            | false=>rfl
            | true=>exact absurd ((hfin h).1 1 (by omega)) (by rw[hL];simp)
           have M:=hpre h10;obtain rfl:=Option.some.inj ho;refine wpOp_step rfl (fun K hK=>?_);go_simp;exact hK _ _ ⟨x134,_,x136,x137,x138,x139,x140,x141,x142,x17,rfl,fun _=>⟨M.st,fun e=>M.l0 (by simpa using e),fun _=>rfl,fun e=>M.l2 (by simpa using e),fun e=>M.l3 (by simpa using e),fun e=>M.l4 (by simpa using e),fun e=>M.l5 (by simpa using e),fun e=>M.l6 (by simpa using e),fun e=>M.l7 (by simpa using e),fun e=>M.l8 (by simpa using e),fun e=>M.l9 (by simpa using e)⟩,fun e=>by simp[h10]at e⟩
          ·have h10:L 10=false:=by
            cases h:L 10 with
            | false=>rfl
            | true=>exact absurd ((hfin h).1 2 (by omega)) (by rw[hL];simp)
           have M:=hpre h10;obtain rfl:=Option.some.inj ho;obtain⟨b,rfl,hb,hge⟩:=M.l0 (by first|(refine hdep { on:=0,ground:=.data } ?_ rfl;(simp;done))|(refine hdep { on:=0,ground:=.phase } ?_ rfl;(simp;done))|(refine hdep { on:=0,ground:=.chain } ?_ rfl;(simp;done)));obtain rfl:=M.l1 (by first|(refine hdep { on:=1,ground:=.data } ?_ rfl;(simp;done))|(refine hdep { on:=1,ground:=.phase } ?_ rfl;(simp;done))|(refine hdep { on:=1,ground:=.chain } ?_ rfl;(simp;done)));refine wpOp_step rfl (fun K hK=>?_);go_simp;exact hK _ _ ⟨_,_,_,x137,x138,x139,x140,x141,x142,x17,rfl,fun _=>⟨M.st,fun e=>M.l0 (by simpa using e),fun e=>M.l1 (by simpa using e),fun _=>⟨b,rfl,hb,hge⟩,fun e=>M.l3 (by simpa using e),fun e=>M.l4 (by simpa using e),fun e=>M.l5 (by simpa using e),fun e=>M.l6 (by simpa using e),fun e=>M.l7 (by simpa using e),fun e=>M.l8 (by simpa using e),fun e=>M.l9 (by simpa using e)⟩,fun e=>by simp[h10]at e⟩
          ·have h10:L 10=false:=by
            cases h:L 10 with
            | false=>rfl
            | true=>exact absurd ((hfin h).1 3 (by omega)) (by rw[hL];simp)
           have M:=hpre h10;obtain rfl:=Option.some.inj ho;obtain⟨b,rfl,hb,hge⟩:=M.l2 (by first|(refine hdep { on:=2,ground:=.data } ?_ rfl;(simp;done))|(refine hdep { on:=2,ground:=.phase } ?_ rfl;(simp;done))|(refine hdep { on:=2,ground:=.chain } ?_ rfl;(simp;done)));have hc:=(hb.cell j).trans Hnc.out;refine wpOp_step rfl (fun K hK=>?_);go_simp;exact hK _ _ ⟨x134,x135,_,_,x138,x139,x140,x141,x142,x17,rfl,fun _=>⟨M.st,fun e=>M.l0 (by simpa using e),fun e=>M.l1 (by simpa using e),fun e=>M.l2 (by simpa using e),fun _=>rfl,fun e=>M.l4 (by simpa using e),fun e=>M.l5 (by simpa using e),fun e=>M.l6 (by simpa using e),fun e=>M.l7 (by simpa using e),fun e=>M.l8 (by simpa using e),fun e=>M.l9 (by simpa using e)⟩,fun e=>by simp[h10]at e⟩
          ·have h10:L 10=false:=by
            cases h:L 10 with
            | false=>rfl
            | true=>exact absurd ((hfin h).1 4 (by omega)) (by rw[hL];simp)
           have M:=hpre h10;obtain rfl:=Option.some.inj ho;refine wpOp_step rfl (fun K hK=>?_);go_simp;exact hK _ _ ⟨x134,x135,x136,x137,_,x139,x140,x141,x142,x17,rfl,fun _=>⟨M.st,fun e=>M.l0 (by simpa using e),fun e=>M.l1 (by simpa using e),fun e=>M.l2 (by simpa using e),fun e=>M.l3 (by simpa using e),fun _=>rfl,fun e=>M.l5 (by simpa using e),fun e=>M.l6 (by simpa using e),fun e=>M.l7 (by simpa using e),fun e=>M.l8 (by simpa using e),fun e=>M.l9 (by simpa using e)⟩,fun e=>by simp[h10]at e⟩
          ·have h10:L 10=false:=by
            cases h:L 10 with
            | false=>rfl
            | true=>exact absurd ((hfin h).1 5 (by omega)) (by rw[hL];simp)
           have M:=hpre h10;obtain rfl:=Option.some.inj ho;obtain rfl:=M.l4 (by first|(refine hdep { on:=4,ground:=.data } ?_ rfl;(simp;done))|(refine hdep { on:=4,ground:=.phase } ?_ rfl;(simp;done))|(refine hdep { on:=4,ground:=.chain } ?_ rfl;(simp;done)));refine wpOp_step rfl (fun K hK=>?_);go_simp;(with_reducible refine(next_g 2000 M.st.ok (by omega) (by omega)).mono ?_);rintro e w2 ⟨p,rfl,p0,p1,hs⟩;have M:=M.go hs;exact hK _ _ ⟨x134,x135,x136,x137,_,_,x140,x141,x142,x17,rfl,fun _=>⟨M.st,fun e=>M.l0 (by simpa using e),fun e=>M.l1 (by simpa using e),fun e=>M.l2 (by simpa using e),fun e=>M.l3 (by simpa using e),fun e=>M.l4 (by simpa using e),fun _=>⟨p,rfl,p0,p1⟩,fun e=>M.l6 (by simpa using e),fun e=>M.l7 (by simpa using e),fun e=>M.l8 (by simpa using e),fun e=>M.l9 (by simpa using e)⟩,fun e=>by simp[h10]at e⟩
          ·have h10:L 10=false:=by
            cases h:L 10 with
            | false=>rfl
            | true=>exact absurd ((hfin h).1 6 (by omega)) (by rw[hL];simp)
           have M:=hpre h10;obtain rfl:=Option.some.inj ho;obtain⟨p,rfl,p0,p1⟩:=M.l5 (by first|(refine hdep { on:=5,ground:=.data } ?_ rfl;(simp;done))|(refine hdep { on:=5,ground:=.phase } ?_ rfl;(simp;done))|(refine hdep { on:=5,ground:=.chain } ?_ rfl;(simp;done)));refine wpOp_step rfl (fun K hK=>?_);go_simp;exact hK _ _ ⟨x134,x135,x136,x137,x138,_,_,x141,x142,x17,rfl,fun _=>⟨M.st,fun e=>M.l0 (by simpa using e),fun e=>M.l1 (by simpa using e),fun e=>M.l2 (by simpa using e),fun e=>M.l3 (by simpa using e),fun e=>M.l4 (by simpa using e),fun e=>M.l5 (by simpa using e),fun _=>⟨p,rfl,p0,p1⟩,fun e=>M.l7 (by simpa using e),fun e=>M.l8 (by simpa using e),fun e=>M.l9 (by simpa using e)⟩,fun e=>by simp[h10]at e⟩
          ·have h10:L 10=false:=by
            cases h:L 10 with
            | false=>rfl
            | true=>exact absurd ((hfin h).1 7 (by omega)) (by rw[hL];simp)
           have M:=hpre h10;obtain rfl:=Option.some.inj ho;obtain⟨p,rfl,p0,p1⟩:=M.l6 (by first|(refine hdep { on:=6,ground:=.data } ?_ rfl;(simp;done))|(refine hdep { on:=6,ground:=.phase } ?_ rfl;(simp;done))|(refine hdep { on:=6,ground:=.chain } ?_ rfl;(simp;done)));have hge:=M.st.size;refine wpOp_step rfl (fun K hK=>?_);go_simp;have M:=M.go ((GSt.refl M.st.ok).alloc (.cells #[.int .i64 0,.int .i64 p] 129));exact hK _ _ ⟨x134,x135,x136,x137,x138,x139,_,_,x142,x17,rfl,fun _=>⟨M.st,fun e=>M.l0 (by simpa using e),fun e=>M.l1 (by simpa using e),fun e=>M.l2 (by simpa using e),fun e=>M.l3 (by simpa using e),fun e=>M.l4 (by simpa using e),fun e=>M.l5 (by simpa using e),fun e=>M.l6 (by simpa using e),fun _=>⟨W.heap.size,p,rfl,Bk.new W 129 [.int .i64 0,.int .i64 p],hge,p0,p1⟩,fun e=>M.l8 (by simpa using e),fun e=>M.l9 (by simpa using e)⟩,fun e=>by simp[h10]at e⟩
          ·have h10:L 10=false:=by
            cases h:L 10 with
            | false=>rfl
            | true=>exact absurd ((hfin h).1 8 (by omega)) (by rw[hL];simp)
           have M:=hpre h10;obtain rfl:=Option.some.inj ho;obtain rfl:=M.l3 (by first|(refine hdep { on:=3,ground:=.data } ?_ rfl;(simp;done))|(refine hdep { on:=3,ground:=.phase } ?_ rfl;(simp;done))|(refine hdep { on:=3,ground:=.chain } ?_ rfl;(simp;done)));obtain⟨b,p,rfl,hb,hge,p0,p1⟩:=M.l7 (by first|(refine hdep { on:=7,ground:=.data } ?_ rfl;(simp;done))|(refine hdep { on:=7,ground:=.phase } ?_ rfl;(simp;done))|(refine hdep { on:=7,ground:=.chain } ?_ rfl;(simp;done)));refine wpOp_step rfl (fun K hK=>?_);go_simp;exact hK _ _ ⟨x134,x135,x136,_,x138,x139,x140,_,_,x17,rfl,fun _=>⟨M.st,fun e=>M.l0 (by simpa using e),fun e=>M.l1 (by simpa using e),fun e=>M.l2 (by simpa using e),fun e=>M.l3 (by simpa using e),fun e=>M.l4 (by simpa using e),fun e=>M.l5 (by simpa using e),fun e=>M.l6 (by simpa using e),fun e=>M.l7 (by simpa using e),fun _=>⟨b,p,rfl,hb,hge,p0,p1⟩,fun e=>M.l9 (by simpa using e)⟩,fun e=>by simp[h10]at e⟩
          ·have h10:L 10=false:=by
            cases h:L 10 with
            | false=>rfl
            | true=>exact absurd ((hfin h).1 9 (by omega)) (by rw[hL];simp)
           have M:=hpre h10;obtain rfl:=Option.some.inj ho;have hge:=M.st.size;refine wpOp_step rfl (fun K hK=>?_);go_simp;have M:=M.go ((GSt.refl M.st.ok).alloc (.cells #[.string ⟨#[]⟩,.slice none 0 0] 115));exact hK _ _ ⟨x134,x135,x136,x137,x138,x139,x140,x141,x142,_,rfl,fun _=>⟨M.st,fun e=>M.l0 (by simpa using e),fun e=>M.l1 (by simpa using e),fun e=>M.l2 (by simpa using e),fun e=>M.l3 (by simpa using e),fun e=>M.l4 (by simpa using e),fun e=>M.l5 (by simpa using e),fun e=>M.l6 (by simpa using e),fun e=>M.l7 (by simpa using e),fun e=>M.l8 (by simpa using e),fun _=>⟨W.heap.size,rfl,Bk.new W 115 [.string ⟨#[]⟩,.slice none 0 0],hge⟩⟩,fun e=>by simp[h10]at e⟩
          ·have M:=hpre hL;obtain rfl:=Option.some.inj ho;have hall:∀k,k<10->(L k || k == 10)=true:=fun k hk=>by
            rcases(show k=0∨k=1∨k=2∨k=3∨k=4∨k=5∨k=6∨k=7∨k=8∨k=9 by omega)with rfl|rfl|rfl|rfl|rfl|rfl|rfl|rfl|rfl|rfl
            ·rw[show L 0=true from(by first | (refine hdep { on:=0,ground:=.data } ?_ rfl;(simp;done)) | (refine hdep { on:=0,ground:=.phase } ?_ rfl;(simp;done)) | (refine hdep { on:=0,ground:=.chain } ?_ rfl;(simp;done)))];rfl
            ·rw[show L 1=true from(by first | (refine hdep { on:=1,ground:=.data } ?_ rfl;(simp;done)) | (refine hdep { on:=1,ground:=.phase } ?_ rfl;(simp;done)) | (refine hdep { on:=1,ground:=.chain } ?_ rfl;(simp;done)))];rfl
            ·rw[show L 2=true from(by first | (refine hdep { on:=2,ground:=.data } ?_ rfl;(simp;done)) | (refine hdep { on:=2,ground:=.phase } ?_ rfl;(simp;done)) | (refine hdep { on:=2,ground:=.chain } ?_ rfl;(simp;done)))];rfl
            ·rw[show L 3=true from(by first | (refine hdep { on:=3,ground:=.data } ?_ rfl;(simp;done)) | (refine hdep { on:=3,ground:=.phase } ?_ rfl;(simp;done)) | (refine hdep { on:=3,ground:=.chain } ?_ rfl;(simp;done)))];rfl
            ·rw[show L 4=true from(by first | (refine hdep { on:=4,ground:=.data } ?_ rfl;(simp;done)) | (refine hdep { on:=4,ground:=.phase } ?_ rfl;(simp;done)) | (refine hdep { on:=4,ground:=.chain } ?_ rfl;(simp;done)))];rfl
            ·rw[show L 5=true from(by first | (refine hdep { on:=5,ground:=.data } ?_ rfl;(simp;done)) | (refine hdep { on:=5,ground:=.phase } ?_ rfl;(simp;done)) | (refine hdep { on:=5,ground:=.chain } ?_ rfl;(simp;done)))];rfl
            ·rw[show L 6=true from(by first | (refine hdep { on:=6,ground:=.data } ?_ rfl;(simp;done)) | (refine hdep { on:=6,ground:=.phase } ?_ rfl;(simp;done)) | (refine hdep { on:=6,ground:=.chain } ?_ rfl;(simp;done)))];rfl
            ·rw[show L 7=true from(by first | (refine hdep { on:=7,ground:=.data } ?_ rfl;(simp;done)) | (refine hdep { on:=7,ground:=.phase } ?_ rfl;(simp;done)) | (refine hdep { on:=7,ground:=.chain } ?_ rfl;(simp;done)))];rfl
            ·rw[show L 8=true from(by first | (refine hdep { on:=8,ground:=.data } ?_ rfl;(simp;done)) | (refine hdep { on:=8,ground:=.phase } ?_ rfl;(simp;done)) | (refine hdep { on:=8,ground:=.chain } ?_ rfl;(simp;done)))];rfl
            ·rw[show L 9=true from(by first | (refine hdep { on:=9,ground:=.data } ?_ rfl;(simp;done)) | (refine hdep { on:=9,ground:=.phase } ?_ rfl;(simp;done)) | (refine hdep { on:=9,ground:=.chain } ?_ rfl;(simp;done)))];rfl
           obtain⟨b,p,rfl,hb,hge,p0,p1⟩:=M.l8 (by first|(refine hdep { on:=8,ground:=.data } ?_ rfl;(simp;done))|(refine hdep { on:=8,ground:=.phase } ?_ rfl;(simp;done))|(refine hdep { on:=8,ground:=.chain } ?_ rfl;(simp;done)));obtain⟨xb,rfl,hx,hgx⟩:=M.l9 (by first|(refine hdep { on:=9,ground:=.data } ?_ rfl;(simp;done))|(refine hdep { on:=9,ground:=.phase } ?_ rfl;(simp;done))|(refine hdep { on:=9,ground:=.chain } ?_ rfl;(simp;done)));have z0:=hx.k0;have z1:=hx.k1;have f0:=hx.frozen 0;have f1:=hx.frozen 1;have gl:=hx.lt;have HF:=iH (XMade.mk (nm:=nm) M.st hx hgx hb hge p0 p1);clear M hx hb;refine wpOp_step rfl (fun K hK=>?_);go_simp;exact hK _ _ ⟨x134,x135,x136,x137,x138,x139,x140,x141,_,_,rfl,fun e=>by simp at e,fun _=>⟨hall,HF.out⟩⟩
         ·simp only[List.setIfInBounds_toArray,List.set_cons_zero,List.set_cons_succ];intro L a W hall hI;obtain⟨x134,x135,x136,x137,x138,x139,x140,x141,x142,x17,rfl,hpre,hfin⟩:=hI;have HF:=iH (hfin (hall 10 (by decide))).2;clear hpre hfin hall;go_wp2;go_meet;exact HF.out
        case rest =>
         obtain⟨xb,b1,p,rfl,p00,p01,hR⟩:=hcut;have HR:=iH hR;clear hR;obtain⟨W4,hW⟩:∃W4,wc=W4:=⟨_,rfl⟩;rw[hW]at HR⊢;clear hW;go_wp2_with fail;(with_reducible refine(next_g 3 HR.out.st.ok (by omega) (by omega)).mono ?_);rintro e w4 ⟨x,rfl,x0,x1,hs⟩;have HR1:=iH (HR.out.next hs);clear hs HR;go_wp2_with fail;go_loopw [18] (fun i wx=>∃(y:Int) (kb:Nat) (brs:List P2) (s:Sl),0<=y∧y<=x∧i=.int .i64 y∧(kb:Int)+y=x∧brs.length=kb+1∧TxAt WR wx (w.heap.size+1) xb nm brs s∧BrsOk brs) (fun i _=>(intOf i).toNat)
         case atStart=>exact⟨x,0,[(0,p)],_,by omega,by omega,rfl,by omega,rfl,HR1.out,.one p00 (by omega)⟩
         case round =>
          clear HR1;obtain⟨y,kb,brs,⟨As,ns,cs⟩,hy0,hy1,rfl,hry,hlr,hR,hbr⟩:=hrel;obtain rfl:ns=kb+1:=by have:=hR.len;dsimp only at this;omega
          by_cases hy:0<y
          ·have HP:=iH (hR.ok (by omega) hnsz hbr.2.2.1).brs;obtain⟨bb,ob,hAs,hbb,hcell,_⟩:=HP.out.at_ kb (show kb<brs.length by omega);dsimp only at hAs;subst hAs;obtain⟨f,hf⟩:∃f,fromAt brs kb=f:=⟨_,rfl⟩;have hfk:(brs[kb]'(by omega)).1=f:=by rw[<- hf];simp[fromAt,show kb<brs.length by omega]
           rw[hfk]at hcell;have hbf:BrsOk brs∧fromAt brs (brs.length-1)=f:=⟨hbr,by rw[hlr];simpa using hf⟩;have hf0:0<=f∧f<=2000:=by have h1:=hbr.2.2.2;rw[hbf.2]at h1;rw[hlr]at h1;push_cast at h1;omega
           have Hbf:=iH hbf;have HRx:=iH (hR.below (Below.refl _ _).drew);have CK:Hid (∀w6,GSt wr.drew w6 (w.heap.size+1)->w6.cell? ⟨bb,ob+kb*2,none⟩=some (.int .i64 f)):=fun w6 hs=>by
            have h1:=(HP.out.below (Below.refl _ _).drew).keep (hs.keep HRx.out.st.ok 129 (by decide));obtain⟨b',o',e',_,hc',_⟩:=h1.at_ kb (show kb<brs.length by omega);cases e';rw[hc',hfk]
           have hrl:=hR.bx.lt;clear hR hbr hf hfk hbf;have KI:Hid (Calls Tryz.prog 68 #[.pointer (some ⟨w.heap.size+1,0,none⟩),.int .i64 500] wr.drew (NextG wr.drew (w.heap.size+1) 500)):=next_g 500 HRx.out.st.ok (by omega) (by omega);have e1:IntKind.i64.wrap (kb:Int)=(kb:Int):=IntWalk.i64_in _ (by omega);have e2:(0:Int)<=(kb:Int):=by omega
           have e3:(kb:Int)<(kb:Int)+1:=by omega
           have e4:IntKind.i64.wrap (f+1)=f+1:=IntWalk.i64_in _ (by omega);go_wp2_with fail;refine wp_region_X (fun w'=>Bk w' xb 115 [.string nm,.slice (some ⟨bb,ob,none⟩) (kb+1) cs]∧w'.cell? ⟨bb,ob+kb*2,none⟩=some (.int .i64 f)) 13 (n:=14) rfl (by kernel_rfl) (⟨HRx.out.bx,hcell⟩) (fun hS=>?_);refine tX 0 (some 149) (v:=?_) rfl ⟨rfl,?_⟩ hS ?_;rotate_left
           ·intro w' hS';(go_simp;try with_reducible rfl)
           refine tX 1 (some 150) (v:=?_) rfl ⟨rfl,?_⟩ hS ?_;rotate_left
           ·intro w' hS';have e:=hS'.1.k1;(go_simp;try with_reducible rfl)
           refine tX 2 (some 151) (v:=?_) rfl ⟨rfl,?_⟩ hS ?_;rotate_left
           ·intro w' hS';(go_simp;try with_reducible rfl)
           refine tX 3 (some 152) (v:=?_) rfl ⟨rfl,?_⟩ hS ?_;rotate_left
           ·intro w' hS';have e:=hS'.1.k1;(go_simp;try with_reducible rfl)
           refine tX 4 (some 153) (v:=?_) rfl ⟨rfl,?_⟩ hS ?_;rotate_left
           ·intro w' hS';(go_simp;try with_reducible rfl)
           refine tX 5 (some 154) (v:=?_) rfl ⟨rfl,?_⟩ hS ?_;rotate_left
           ·intro w' hS';(go_simp;try with_reducible rfl)
           refine tX 6 (some 155) (v:=?_) rfl ⟨rfl,?_⟩ hS ?_;rotate_left
           ·intro w' hS';(go_simp;try with_reducible rfl)
           refine tX 7 (some 156) (v:=?_) rfl ⟨rfl,?_⟩ hS ?_;rotate_left
           ·intro w' hS';(go_simp;try with_reducible rfl)
           refine tX 8 (some 157) (v:=?_) rfl ⟨rfl,?_⟩ hS ?_;rotate_left
           ·intro w' hS';have e:=hS'.2;(go_simp;try with_reducible rfl)
           refine tX 9 (some 158) (v:=?_) rfl ⟨rfl,?_⟩ hS ?_;rotate_left
           ·intro w' hS';(go_simp;try with_reducible rfl)
           refine tX 10 (some 159) (v:=?_) rfl ⟨rfl,?_⟩ hS ?_;rotate_left
           ·intro w' hS';(go_simp;try with_reducible rfl)
           refine X_o 11 rfl fun K hK=>?_;go_simp;(with_reducible refine KI.out.mono ?_);rintro e w6 ⟨x2,rfl,y0,y1,hs⟩;have e5:IntKind.i64.wrap (f+1+x2)=f+1+x2:=IntWalk.i64_in _ (by omega);have HR3:=iH (HRx.out.next hs);have HK6:=iH (CK.out _ hs);refine hK _ _ ⟨HR3.out.bx,HK6.out⟩ ?_;clear hs hK;refine X_o 12 rfl fun K hK=>?_;go_simp;refine hK _ _ ⟨HR3.out.bx,HK6.out⟩ ?_;clear hK;refine X_tail (by kernel_rfl) ?_;refine A_one 13 (by kernel_rfl) rfl rfl (fun K hK=>?_);go_simp;refine hK _ _ ?_;clear hK;refine A_done (by kernel_rfl) ?_;obtain⟨W6,hW⟩:∃W6,w6=W6:=⟨_,rfl⟩;rw[hW]at HR3⊢;clear hW KI CK HP HK6;obtain⟨ff,hff⟩:∃ff,f+1+x2=ff:=⟨_,rfl⟩;have hff0:f<ff:=by omega
           have hff1:ff<=f+500:=by omega
           rw[hff];clear hff y0 y1 hcell e1 e2 e3 e4 e5;obtain⟨As,hAs⟩:∃As:Option Addr,some ⟨bb,ob,none⟩=As:=⟨_,rfl⟩;rw[hAs]at HR3⊢;clear hAs;have HRy:=iH (HR3.out.below (Below.refl _ _).drew);have hrl:=HR3.out.bx.lt;clear HR3 HRx;have KI:Hid (Calls Tryz.prog 68 #[.pointer (some ⟨w.heap.size+1,0,none⟩),.int .i64 10001] W6.drew (NextG W6.drew (w.heap.size+1) 10001)):=next_g 10001 HRy.out.st.ok (by omega) (by omega);go_wp2_with fail;refine wp_region_X (fun w'=>Bk w' xb 115 [.string nm,.slice As (kb+1) cs]) 8 (n:=10) rfl (by kernel_rfl) (HRy.out.bx) (fun hS=>?_);refine tX 0 (some 162) (v:=?_) rfl ⟨rfl,?_⟩ hS ?_;rotate_left
           ·intro w' hS';(go_simp;try with_reducible rfl)
           refine tX 1 (some 163) (v:=?_) rfl ⟨rfl,?_⟩ hS ?_;rotate_left
           ·intro w' hS';have e:=hS'.k1;(go_simp;try with_reducible rfl)
           refine tX 2 (some 164) (v:=?_) rfl ⟨rfl,?_⟩ hS ?_;rotate_left
           ·intro w' hS';(go_simp;try with_reducible rfl)
           refine tX 3 (some 165) (v:=?_) rfl ⟨rfl,?_⟩ hS ?_;rotate_left
           ·intro w' hS';(go_simp;try with_reducible rfl)
           refine X_o 4 rfl fun K hK=>?_;go_simp;(with_reducible refine KI.out.mono ?_);rintro e w7 ⟨pp,rfl,y0,y1,hs⟩;have HR5:=iH (HRy.out.next hs);refine hK _ _ HR5.out.bx ?_;clear hs hK;refine X_o 5 rfl fun K hK=>?_;go_simp;refine hK _ _ HR5.out.bx ?_;clear hK;refine X_o 6 rfl fun K hK=>?_;go_simp;have HR6:=iH (HR5.out.below ((Below.refl _ _).alloc (Nat.le_refl _) (.cells #[.int .i64 ff,.int .i64 pp] 129)));refine hK _ _ HR6.out.bx ?_;clear hK;refine X_o 7 rfl fun K hK=>?_;have hsz4:=HR6.out.st.size;refine step_append_lies _ rfl (.tmp 163) (.tmp 168) 113 rfl WR.heap.size 129 i129 (.agg #[.int .i64 0,.int .i64 0]) 2 16 Tryz.underlying113 hi129 r0 r1 r2 rfl (by decide) _ (kb+1) (pcells brs) rfl (by have:=HR6.out.own;rw[hlr]at this;exact this) ⟨w7.heap.size,0,none⟩ 1 1 [.int .i64 ff,.int .i64 pp] rfl rfl (new2 _ _ _ _) (one2 _ _) (by omega) (by unfold maxLen;omega) (by omega) hsz4 (w7.heap.size+1) (by simp) ?_;intro g' cap w8 hown8 hgr8 _ _;rw[show pcells brs ++ [.int .i64 ff,.int .i64 pp]=pcells (brs ++ [(ff,pp)]) from(pcells_snoc brs (ff,pp)).symm]at hown8;obtain⟨B8,C9⟩:=HR6.out.app hgr8 hown8 (by rw[hlr]);have z8:=B8.k1;have f8:=B8.frozen 1;have l8:=B8.lt;have H9:=iH C9;refine hK _ _ B8 ?_;clear hK hown8 hgr8 B8 C9;refine X_tail (by kernel_rfl) ?_;refine A_one 8 (by kernel_rfl) rfl rfl (fun K hK=>?_);go_simp;refine hK _ _ ?_;clear hK;refine A_one 9 (by kernel_rfl) rfl rfl (fun K hK=>?_);go_simp;refine hK _ _ ?_;clear hK;refine A_done (by kernel_rfl) ?_;go_wp2;go_roundw
           case rel=>exact⟨y-1,kb+1,brs ++ [(ff,pp)],_,by omega,by omega,rfl,by omega,by simp[hlr],H9.out,Hbf.out.1.snoc (by rw[Hbf.out.2];omega) (by rw[Hbf.out.2];omega) (by omega) (by omega) (by omega)⟩
           case measure=>simp[intOf];omega
          ·obtain rfl:y=0:=by omega
           have Hrk:=iH (hR.ok (by omega) hnsz hbr.2.2.1);have Hbr:=iH hbr;have HC4:=iH (HC3.out.next hR.st);have HC5:=iH (HC4.out.below ((Below.refl _ _).alloc (Nat.le_refl _) (.cells #[.string nm,.slice As (kb+1) cs] 115)));have y0:=hR.bx.k0;have y1:=hR.bx.k1;have yc:=HC4.out.ct.bx.k3;have yl:=hR.bx.lt;have yg:=HC4.out.ct.bx.lt;have hsz5:=HC5.out.ct.st.size;clear hR hbr HC3;go_wp2_with(at_builtin;refine wpList_append_lies _ rfl (.tmp 172) (.tmp 174) 26 rfl V.heap.size 115 i115 (.agg #[.string ⟨#[]⟩,.slice none 0 0]) 2 40 Tryz.underlying26 hi115 q0 q1 q2 rfl (by decide) _ nt (txcells taxes) rfl (by have:=HC5.out.own;rw[hlk2]at this;exact this) ⟨wr.heap.size,0,none⟩ 1 1 [.string nm,.slice As (kb+1) cs] rfl rfl (new2 _ _ _ _) (one2s _ _ _ _ rfl) (by omega) (by unfold maxLen;omega) (by omega) hsz5 (wr.heap.size+1) (by simp) ?_);intro g' cap w8 hown8 hgr8 _ _;rw[<- hVs]at hown8;rw[show txcells taxes ++ [.string nm,.slice As (kb+1) cs]=txcells (taxes ++ [⟨nm,brs,⟨As,kb+1,cs⟩⟩]) from(txcells_snoc taxes ⟨nm,brs,⟨As,kb+1,cs⟩⟩).symm]at hown8;have hokk:TxM.Ok w8 ⟨nm,brs,⟨As,kb+1,cs⟩⟩:=by
            have k1:∀q,(115:TypeId)≠q->Keep q wr w8:=fun q hq=>(Keep.alloc q wr _).trans (Keep.own HC5.out.own hgr8 hq)
            exact⟨Hrk.out.brs.keep (k1 129 (by decide)),hnsz⟩
           obtain⟨B8,K8,K9,C9⟩:=HC5.out.app hgr8 hown8 (by rw[hlk2]) (by omega) hokk;have z8:=B8.k3;have f8:=B8.frozen 3;have l8:=B8.lt;have H9:=iH C9;clear hown8 hgr8 B8 K8 K9 C9 HC4 HC5 y0 y1 yc;go_wp2;go_roundw
           case rel=>exact⟨j-1,taxes ++ [⟨nm,brs,⟨As,kb+1,cs⟩⟩],_,by omega,by rw[show((j-1:Nat):Int)=(j:Int)-1 by omega],H9.out,by have:=Hnt.out;simp[hlk2];omega,by have:=Hnt.out;dsimp only;omega,by rw[downN_prev pool5 h0 hj,Hnm.out];exact Hit.out.snoc Hbr.out (by omega)⟩
           case measure=>simp[intOf];omega
       ·obtain rfl:j=0:=by omega
        have HC3:=iH hC.ct;have Hit:=iH hit;clear hC hit;go_wp2;go_meet;exact⟨taxes,⟨At,nt,ct⟩,HC3.out,Hit.out⟩
     case rest =>
      clear HC2;obtain⟨taxes,sx,hC,hit⟩:=hcut;have HCz:=iH hC;have HX:=iH hit;clear hC hit;obtain⟨W6,hW⟩:∃W6,wc=W6:=⟨_,rfl⟩;rw[hW]at HCz⊢;clear hW;obtain⟨Ai,ni,ci⟩:=si;obtain⟨Ar,nr,cr⟩:=sr;obtain⟨At,nt,ct⟩:=st;obtain⟨Ax,nx,cx⟩:=sx;have HS:Hid (CatSm ⟨items,rules,tables,taxes,⟨Ai,ni,ci⟩,⟨Ar,nr,cr⟩,⟨At,nt,ct⟩,⟨Ax,nx,cx⟩⟩):=by
       have hi:=HI.out;rw[<- Hnl.out]at hi;have hr:=HRu.out;rw[<- Hnl2.out,<- Hnl3.out,<- Hil.out]at hr;have ht:=HTb.out;rw[<- Hil.out]at ht;exact catSm_of hturn HN.out.1 HN.out.2 Htu2.out hn22 hn21 Htu3.out hn32 hk4 hk5 hi hr ht HX.out
      have HD:=iH (HCz.out.done HB0.out (by omega) (Nat.le_refl _) HS.out);dsimp only at HD;have z0:=HCz.out.bx.k0;have z1:=HCz.out.bx.k1;have z2:=HCz.out.bx.k2;have z3:=HCz.out.bx.k3;have y0:=HCz.out.res.k0;have y1:=HCz.out.res.k1;have y2:=HCz.out.res.k2;have y3:=HCz.out.res.k3;have f0:=HCz.out.res.frozen 0;have f1:=HCz.out.res.frozen 1;have f2:=HCz.out.res.frozen 2;have f3:=HCz.out.res.frozen 3;have hl0:=HCz.out.res.lt;have hl1:=HCz.out.bx.lt;clear HCz;go_wp2;have t1:=HD.out.2;refine bodyPost_ret (v:=.agg #[.slice Ai ni ci,.slice Ar nr cr,.slice At nt ct,.slice Ax nx cx]) (by simp[results,Tryz.results32,go_sem,World.cell?,t1]) rfl HD.out.1
end Go.Proofs.YthjfdfdgbpbanaaGreatDoor
