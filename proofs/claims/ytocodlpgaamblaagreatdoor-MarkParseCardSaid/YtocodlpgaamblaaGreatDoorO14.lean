/- The reference reads a fact. The reference joins facts. The reference joins terms; the reference reads a mark. A mark that is read is no larger than its text. The reference's Parse. Matches on any mark. The reference's Matches, Steps. The reference's Equal on equal marks; pushed. -/
import Derived.Test.YtocodlpgaamblaaGreatDoorO4
import Derived.Test.YtocodlpgaamblaaGreatDoorO5
import Derived.Test.YtocodlpgaamblaaGreatDoorO7
import Derived.Test.YtocodlpgaamblaaGreatDoorO8
import Derived.Test.YtocodlpgaamblaaGreatDoorO13
set_option linter.unusedVariables false
set_option linter.unusedSimpArgs false
set_option maxRecDepth 100000
set_option maxHeartbeats 8000000
open Go.RowKit
namespace Go.Proofs.YtocodlpgaamblaaGreatDoor
def RRel (T:List Tok) (p:PR Mk) (i':Nat) (bad':Bool) (st':PSt) (k':Mk):Prop :=
 match p with
 | .bad r=>bad'=true∧T.drop i'=r
 | .ok k r st1=>bad'=false∧T.drop i'=r∧st'=st1∧(st1.1=0->k'=k)
theorem RPost.mk {W w':World} {pb:Nat} {m:CatM} {T:List Tok} {A:Option Addr} {n c:Nat} {p:PR Mk} {e:Ending} (M:MkM) {i':Nat} {bad':Bool} {st':PSt} (he:e=.returned (.agg #[.string M.op,.int .i64 M.a,.int .i64 M.b,.slice M.s.A M.s.n M.s.c])) (hM:M.Ok w' 35 (fun b=>W.heap.size<=b)) (hQ:QAt w' pb m T A n c i' bad' st') (hG:W.grownBy w' (some pb)) (hp:RRel T p i' bad' st' M.core):RPost W pb m T A n c p e w':=by
 refine⟨M,i',bad',st',he,hM,hQ,hG,?_⟩;cases p <;> exact hp
theorem RPost.get {W w':World} {pb:Nat} {m:CatM} {T:List Tok} {A:Option Addr} {n c:Nat} {p:PR Mk} {e:Ending} (h:RPost W pb m T A n c p e w'):∃(M:MkM) (i':Nat) (bad':Bool) (st':PSt),e=.returned (.agg #[.string M.op,.int .i64 M.a,.int .i64 M.b,.slice M.s.A M.s.n M.s.c])∧M.Ok w' 35 (fun b=>W.heap.size<=b)∧QAt w' pb m T A n c i' bad' st'∧W.grownBy w' (some pb)∧RRel T p i' bad' st' M.core:=by
 obtain⟨M,i',bad',st',h1,h2,h3,h4,h5⟩:=h;refine⟨M,i',bad',st',h1,h2,h3,h4,?_⟩;cases p <;> exact h5
theorem RRel.not {T:List Tok} {p:PR Mk} {i':Nat} {bad':Bool} {st':PSt} {k':Mk} (h:RRel T p i' bad' st' k'):RRel T p.not i' bad' st' (.node sNot 0 0 [k']):=by
 cases p with
 | bad r=>exact h
 | ok k r st1=>exact⟨h.1,h.2.1,h.2.2.1,fun e=>by rw[h.2.2.2 e]⟩
theorem RRel.close {T : List Tok} {p : PR Mk} {i' i2 : Nat} {bad' b2 : Bool} {st' : PSt} {k' : Mk} {u : Tok} (h : RRel T p i' bad' st' k') (ht : tk T 2 sClose i' bad' = (u, i2, b2)) : RRel T p.close i2 b2 st' k' := by
 cases p with
 | bad r =>
   obtain⟨rfl,h2⟩:=h;rw[tk_bad]at ht;simp only[Prod.mk.injEq]at ht;obtain⟨-,rfl,rfl⟩:=ht;exact⟨rfl,h2⟩
 | ok k r st1 =>
   obtain⟨rfl,h2,h3,h4⟩:=h;simp only[PR.close];cases hT:T[i']? with
   | none =>
     rw[tk_none hT]at ht;simp only[Prod.mk.injEq]at ht;obtain⟨-,rfl,rfl⟩:=ht;have hr:r=[]:=h2.symm.trans (drop_none hT);subst hr;exact⟨rfl,h2⟩
   | some t =>
     have hd:=drop_some hT;rw[h2]at hd;subst hd;by_cases hc:t.kind=2∧t.text=sClose
     ·have e1:tk T 2 sClose i' false=(t,i'+1,false):=by simp[tk,hT,hc.1,hc.2]
      rw[e1]at ht;simp only[Prod.mk.injEq]at ht;obtain⟨-,rfl,rfl⟩:=ht;have e2:headB (t :: T.drop (i'+1)) 2 sClose=true:=by simp[headB,hc.1,hc.2]
      rw[if_pos e2];exact⟨rfl,rfl,h3,h4⟩
     ·have e1:tk T 2 sClose i' false=(zeroTok,i',true):=by
       simp only[tk,hT];rw[if_neg];rintro⟨q1,q2⟩;rcases q2 with q2|q2
       ·exact absurd q2 (by decide)
       ·exact hc ⟨q1,q2⟩
      rw[e1]at ht;simp only[Prod.mk.injEq]at ht;obtain⟨-,rfl,rfl⟩:=ht;have e2:headB (t :: T.drop (i'+1)) 2 sClose=false:=by
       simp only[headB];by_cases q1:t.kind=2
       ·have q2:t.text≠sClose:=fun q=>hc ⟨q1,q⟩
        simp[q2]
       ·simp[q1]
      rw[e2];exact⟨rfl,h2⟩
theorem textB_head {T:List Tok} {i:Nat} {s:ByteArray} (h:textB (T.drop i) s=true):∃t,T[i]? = some t∧t.text=s∧i<T.length∧(T.drop i).tail=T.drop (i+1):=by
 cases hT:T[i]? with
 | none=>rw[drop_none hT]at h;cases h
 | some t =>
   rw[drop_some hT]at h;exact⟨t,rfl,by simpa[textB]using h,(List.getElem?_eq_some_iff.1 hT).1,by rw[drop_some hT];rfl⟩
theorem is_at {W:World} {pb:Nat} {m:CatM} {T:List Tok} {A:Option Addr} {n c i:Nat} {st:PSt} (s:ByteArray) {b:Bool} (h:QAt W pb m T A n c i false st) (hb:textB (T.drop i) s=b) :
 Calls Tryz.prog 121 #[.pointer (some ⟨pb,0,none⟩),.string s] W fun e w'=>e=.returned (.bool b)∧Below W.heap.size W w' :=
 (is_rd s h).mono fun e w' ⟨he,hB⟩=>⟨by rw[he,hb];rfl,hB⟩
theorem take_at {W:World} {pb:Nat} {m:CatM} {T:List Tok} {A:Option Addr} {n c i:Nat} {st:PSt} (k:Int) (s:ByteArray) (h:QAt W pb m T A n c i false st) (hb:textB (T.drop i) s=true) (hk:∀t,T[i]? = some t->t.text=s->t.kind=k) :
 Calls Tryz.prog 122 #[.pointer (some ⟨pb,0,none⟩),.int .i64 k,.string s] W fun e w'=>(∃x0 x1 x2 x3,e=.returned (.agg #[.int .i64 x0,.string x1,.int .i64 x2,.int .i64 x3]))∧QAt w' pb m T A n c (i+1) false st∧W.grownBy w' (some pb):=by
 obtain⟨t,ht,hs,hl,-⟩:=textB_head hb;have:=h.len;exact(take_yes k s h (by omega) ht (hk t ht hs) (.inr hs)).mono fun e w' ⟨he,hq,hg⟩=>⟨⟨_,_,_,_,he⟩,hq,hg⟩
theorem PRow.oneR {w:World} (M:MkM) {P:Nat->Prop} (hP:P w.heap.size):PRow (w.alloc (.cells #[.string M.op,.int .i64 M.a,.int .i64 M.b,.slice M.s.A M.s.n M.s.c] 35)) 35 P (some ⟨w.heap.size,0,none⟩) (mcells [M]) :=
 .inr ⟨w.heap.size,0,_,_,rfl,hP,heap_alloc_new w _,fun j u hu=>by
  rw[Nat.zero_add]
  have e:mcells [M]=[.string M.op,.int .i64 M.a,.int .i64 M.b,.slice M.s.A M.s.n M.s.c]:=rfl
  rw[e]at hu
  simpa using hu⟩
theorem QAt.own {W:World} {pb:Nat} {m:CatM} {T:List Tok} {A:Option Addr} {n c i:Nat} {st:PSt} {bad:Bool} {W':World} {base size k:Nat} {v:Value} {xs:List Value} (h:QAt W pb m T A n c i bad st) (ho:W.ownsRow base 35 size v k xs) (hg:W.grownBy W' v.ownBlock) (hb:pb<base):QAt W' pb m T A n c i bad st :=
 ⟨h.pk.grown hg (fun e=>by have:=row_base ho pb e.symm;omega),h.row.keep (.own ho hg (by decide)),h.len,h.few,h.le,h.lo,h.its.keep (.own ho hg (by decide)),h.rus.keep (.own ho hg (by decide)) (.own ho hg (by decide)),h.toks⟩
def RF (m:CatM) (T:List Tok) (A:Option Addr) (pb n c N:Nat):Prop:=∀W i st,QAt W pb m T A n c i false st->5*(n-i)+1<=N->Calls Tryz.prog 120 #[.pointer (some ⟨pb,0,none⟩)] W (RPost W pb m T A n c (fP m N (T.drop i) st))
def RJ (o:Bool) (m:CatM) (T:List Tok) (A:Option Addr) (pb n c N:Nat):Prop:=∀W i st,QAt W pb m T A n c i false st->5*(n-i)+(if o then 5 else 3)<=N->Calls Tryz.prog 76 #[.pointer (some ⟨pb,0,none⟩),.string (jOp o)] W (RPost W pb m T A n c (jP m N o (T.drop i) st))
theorem fact_rd {W:World} {pb:Nat} {m:CatM} {T:List Tok} {A:Option Addr} {n c i:Nat} {st:PSt} {N:Nat} (hF:Hid (RF m T A pb n c N)) (hJ:Hid (RJ true m T A pb n c N)) (h:QAt W pb m T A n c i false st) (hN:5*(n-i)+1<=N+1) :
 Calls Tryz.prog 120 #[.pointer (some ⟨pb,0,none⟩)] W (RPost W pb m T A n c (fP m (N+1) (T.drop i) st)):=by
 have e1:fP m (N+1) (T.drop i) st=if headB (T.drop i) 0 sNot then(fP m N (T.drop i).tail st).not else if headB (T.drop i) 2 sOpen then(jP m N true (T.drop i).tail st).close else condP kindNs (m.rules.map RuM.name) (m.items.map It.name) (T.drop i) st:=rfl
 have hk:∀t∈T.drop i,TokK t:=fun t ht=>(h.toks t (List.mem_of_mem_drop ht)).2.2
 rw[head_word (by decide) hk,head_sym (by decide) hk]at e1;have y:Below W.heap.size W (W.alloc (.cells #[.string ⟨#[]⟩,.int .i64 0,.int .i64 0,.slice none 0 0] 35)):=(Below.refl _ _).alloc (Nat.le_refl _) _;have HB0:=iH (Bk.new W 35 [.string ⟨#[]⟩,.int .i64 0,.int .i64 0,.slice none 0 0]);have H1:=iH (h.below y);have Y1:=iH y;have hpl:=h.pk.lt;have hle:=h.le;have hfew:=h.few;clear hk;cases hnot:textB (T.drop i) sNot
 ·rw[hnot]at e1;simp only[Bool.false_eq_true,if_false]at e1;have KA:=iH (is_at sNot H1.out hnot);clear hnot;cases hopen:textB (T.drop i) sOpen
  ·skip
   rw[hopen]at e1;simp only[Bool.false_eq_true,if_false]at e1;have E1:=iH e1;have HN:=iH hopen;clear hopen h y e1 hF hJ;go_enter Tryz.func120,Tryz.ntmps120;go_wp2_with fail;refine KA.out.mono ?_;rintro e w2 ⟨rfl,hb2⟩;have KO:=iH (is_at sOpen (H1.out.below hb2) HN.out);have Y1b:=iH (Y1.out.trans (hb2.mono Y1.out.size));have H1b:=iH (H1.out.below hb2);have HB1:=iH (HB0.out.below hb2 HB0.out.lt);clear KA hb2 H1 HB0 Y1;go_wp2_with fail;refine KO.out.mono ?_;rintro e w3 ⟨rfl,hb2⟩;have KC:=iH (cond_rd (H1b.out.below hb2));have HB3:=iH (HB1.out.below hb2 HB1.out.lt);have HG3:=iH (grown_of_below (Y1b.out.trans (hb2.mono Y1b.out.size)) (some pb));have hs3:=HB3.out.lt;clear KO hb2 H1b HB1 Y1b HN;generalize condP kindNs (m.rules.map RuM.name) (m.items.map It.name) (T.drop i) st=cp at *;go_wp2_with fail;refine KC.out.mono ?_;intro e w5 hpost;obtain⟨M,i',bad',st',rfl,hM,hQ,hG,hp⟩:=hpost.get;clear hpost KC;have hs4:=hG.size;have B5:=HB3.out.grown hG (by simp;omega);have HB:=iH B5;have HM:=iH (hM.mono (Q:=fun b=>W.heap.size<=b∧b≠W.heap.size) fun b _ hb=>⟨by omega,by omega⟩);have HQ:=iH hQ;have HG:=iH (grown_trans HG3.out hG);have HR:Hid (RRel T (fP m (N+1) (T.drop i) st) i' bad' st' M.core):=by
    show _;rw[E1.out];exact iH hp
   have⟨z0,z1,z2,z3,_⟩:=B5.p4;have fz0:=B5.frozen 0;have fz1:=B5.frozen 1;have fz2:=B5.frozen 2;have fz3:=B5.frozen 3;have hzl:=B5.lt;clear hM hQ hG hp HB3 HG3 B5 E1;go_wp2;have hX:=lay_mq HB.out HQ.out HG.out hpl (Nat.le_refl _) HM.out;generalize(((w5.setCell ⟨W.heap.size,0,none⟩ (.string M.op)).setCell ⟨W.heap.size,1,none⟩ (.int .i64 M.a)).setCell ⟨W.heap.size,2,none⟩ (.int .i64 M.b)).setCell ⟨W.heap.size,3,none⟩ (.slice M.s.A M.s.n M.s.c)=X at *;have⟨x0,x1,x2,x3,_⟩:=hX.2.2.2.p4;refine bodyPost_ret (v:=.agg #[.string M.op,.int .i64 M.a,.int .i64 M.b,.slice M.s.A M.s.n M.s.c]) (by simp[results,Tryz.results120,go_sem,x0,x1,x2,x3]) rfl ?_;exact RPost.mk M rfl hX.1 hX.2.1 hX.2.2.1 HR.out
  ·skip
   rw[hopen]at e1;simp only[if_true]at e1;obtain⟨t,ht,hs,hl,htl⟩:=textB_head hopen;rw[htl]at e1;have E1:=iH e1;have HKT:Hid (∀t,T[i]? = some t->t.text=sOpen->t.kind=2):=iH fun t ht hs=>(h.toks t (List.mem_of_getElem? ht)).2.2.2.1 (by rw[hs];decide)
   have hlen:=h.len;have hfl:5*(n-(i+1))+(if true=true then 5 else 3)<=N:=by simp only[if_true];omega
   have HN:=iH hopen;clear hopen hs ht htl h y e1 hF;go_enter Tryz.func120,Tryz.ntmps120;go_wp2_with fail;refine KA.out.mono ?_;rintro e w2 ⟨rfl,hb2⟩;have KO:=iH (is_at sOpen (H1.out.below hb2) HN.out);have Y1b:=iH (Y1.out.trans (hb2.mono Y1.out.size));have H1b:=iH (H1.out.below hb2);have HB1:=iH (HB0.out.below hb2 HB0.out.lt);clear KA hb2 H1 HB0 Y1;go_wp2_with fail;refine KO.out.mono ?_;rintro e w2b ⟨rfl,hb2⟩;have H2:=iH (H1b.out.below hb2);have HB2:=iH (HB1.out.below hb2 HB1.out.lt);have Y2:=iH (grown_of_below (Y1b.out.trans (hb2.mono Y1b.out.size)) (some pb));have KT:=iH (take_at 2 sOpen H2.out HN.out HKT.out);clear KO hb2 H1b HB1 Y1b;go_wp2_with fail;refine KT.out.mono ?_;rintro e w3 ⟨⟨y0,y1,y2,y3,rfl⟩,hq3,hg3⟩;have KJ:=iH (hJ.out w3 (i+1) st hq3 hfl);have HB3:=iH (HB2.out.grown hg3 (by simp;omega));have HG3:=iH (grown_trans Y2.out hg3);have hs3:=HB3.out.lt;clear KT hq3 hg3 H2 HB2 Y2 hJ HN HKT;generalize jP m N true (T.drop (i+1)) st=cp at *;go_wp2_with fail;refine KJ.out.mono ?_;intro e w4 hpost;obtain⟨M,i',bad',st',rfl,hM,hQ,hG,hp⟩:=hpost.get;clear hpost KJ;have hs4:=hG.size;have y4:Below w4.heap.size w4 (w4.alloc (.cells #[.string M.op,.int .i64 M.a,.int .i64 M.b,.slice M.s.A M.s.n M.s.c] 35)):=(Below.refl _ _).alloc (Nat.le_refl _) _;have HB4:=iH ((HB3.out.grown hG (by simp;omega)).alloc (.cells #[.string M.op,.int .i64 M.a,.int .i64 M.b,.slice M.s.A M.s.n M.s.c] 35));have HM4:=iH ((hM.mono (Q:=fun b=>W.heap.size<=b∧b≠W.heap.size∧b≠pb) fun b _ hb=>⟨by omega,by omega,by omega⟩).bel y4);have HBm:=iH (Bk.new w4 35 [.string M.op,.int .i64 M.a,.int .i64 M.b,.slice M.s.A M.s.n M.s.c]);have KC:=iH (take_rd 2 sClose (hQ.below y4));have HG4:=iH (grown_trans (grown_trans HG3.out hG) (grown_of_below y4 (some pb)));have HP:=iH hp;clear hM hQ hG hp HB3 HG3 y4;go_wp2_with fail;refine KC.out.mono ?_;rintro e w5 ⟨u,i2,b2,htk,rfl,hq5,hg5,-,-⟩;have HR:Hid (RRel T (fP m (N+1) (T.drop i) st) i2 b2 st' M.core):=by
    show _;rw[E1.out];exact iH (HP.out.close htk)
   have B5:=HB4.out.grown hg5 (by simp;omega);have HB:=iH B5;have HM:=iH (((HM4.out.grown hg5 fun b hb=>by simp;omega).mono (Q:=fun b=>W.heap.size<=b∧b≠W.heap.size) fun b _ hb=>⟨hb.1,hb.2.1⟩));have HQ:=iH hq5;have HG:=iH (grown_trans HG4.out hg5);have Bm:=HBm.out.grown hg5 (by simp;omega);have⟨g0,g1,g2,g3,hml⟩:=Bm.p4;have hW3:W.heap.size<w4.heap.size:=by omega
   have⟨z0,z1,z2,z3,_⟩:=B5.p4;have fz0:=B5.frozen 0;have fz1:=B5.frozen 1;have fz2:=B5.frozen 2;have fz3:=B5.frozen 3;have hzl:=B5.lt;clear KC htk hq5 hg5 HB4 HM4 HG4 HBm Bm B5 HP E1;go_wp2;have hX:=lay_mq HB.out HQ.out HG.out hpl (Nat.le_refl _) HM.out;generalize(((w5.setCell ⟨W.heap.size,0,none⟩ (.string M.op)).setCell ⟨W.heap.size,1,none⟩ (.int .i64 M.a)).setCell ⟨W.heap.size,2,none⟩ (.int .i64 M.b)).setCell ⟨W.heap.size,3,none⟩ (.slice M.s.A M.s.n M.s.c)=X at *;have⟨x0,x1,x2,x3,_⟩:=hX.2.2.2.p4;refine bodyPost_ret (v:=.agg #[.string M.op,.int .i64 M.a,.int .i64 M.b,.slice M.s.A M.s.n M.s.c]) (by simp[results,Tryz.results120,go_sem,x0,x1,x2,x3]) rfl ?_;exact RPost.mk M rfl hX.1 hX.2.1 hX.2.2.1 HR.out
 ·rw[hnot]at e1;simp only[if_true]at e1;have KA:=iH (is_at sNot H1.out hnot);have hopN:True:=trivial;clear hJ;obtain⟨t,ht,hs,hl,htl⟩:=textB_head hnot;rw[htl]at e1;have E1:=iH e1;have HKT:Hid (∀t,T[i]? = some t->t.text=sNot->t.kind=0):=iH fun t ht hs=>(h.toks t (List.mem_of_getElem? ht)).2.2.1 (by rw[hs];decide)
  have hlen:=h.len;have hfl:5*(n-(i+1))+1<=N:=by omega
  have HN:=iH hnot;clear hnot hs ht htl h y e1 hopN;go_enter Tryz.func120,Tryz.ntmps120;go_wp2_with fail;refine KA.out.mono ?_;rintro e w2 ⟨rfl,hb2⟩;have H2:=iH (H1.out.below hb2);have HB2:=iH (HB0.out.below hb2 HB0.out.lt);have Y2:=iH (grown_of_below (Y1.out.trans (hb2.mono Y1.out.size)) (some pb));have KT:=iH (take_at 0 sNot H2.out HN.out HKT.out);clear KA hb2 H1 HB0 Y1;go_wp2_with fail;refine KT.out.mono ?_;rintro e w3 ⟨⟨y0,y1,y2,y3,rfl⟩,hq3,hg3⟩;have KJ:=iH (hF.out w3 (i+1) st hq3 hfl);have HB3:=iH (HB2.out.grown hg3 (by simp;omega));have HG3:=iH (grown_trans Y2.out hg3);have hs3:=HB3.out.lt;clear KT hq3 hg3 H2 HB2 Y2 hF HN HKT;generalize fP m N (T.drop (i+1)) st=cp at *;go_wp2_with fail;refine KJ.out.mono ?_;intro e w4 hpost;obtain⟨M,i',bad',st',rfl,hM,hQ,hG,hp⟩:=hpost.get;clear hpost KJ;have hs4:=hG.size;have B4:=HB3.out.grown hG (by simp;omega);have y4:Below w4.heap.size w4 (w4.alloc (.cells #[.string M.op,.int .i64 M.a,.int .i64 M.b,.slice M.s.A M.s.n M.s.c] 35)):=(Below.refl _ _).alloc (Nat.le_refl _) _;have HB:=iH (B4.alloc (.cells #[.string M.op,.int .i64 M.a,.int .i64 M.b,.slice M.s.A M.s.n M.s.c] 35));have HM:Hid (MkM.Ok (w4.alloc (.cells #[.string M.op,.int .i64 M.a,.int .i64 M.b,.slice M.s.A M.s.n M.s.c] 35)) 35 (fun b=>W.heap.size<=b∧b≠W.heap.size) ⟨⟨#[110,111,116]⟩,0,0,[M],⟨some ⟨w4.heap.size,0,none⟩,1,1⟩⟩) :=
   iH (.mk _ _ _ _ _ (PRow.oneR M ⟨by omega,by omega⟩) rfl (show(1:Nat)<=100000 by decide) (by decide) ⟨by decide,by decide⟩ ⟨by decide,by decide⟩ fun k hk=>by
    obtain rfl:k=M:=by simpa using hk
    exact(hM.mono (Q:=fun b=>W.heap.size<=b∧b≠W.heap.size) fun b _ hb=>⟨by omega,by omega⟩).bel y4)
  have HQ:=iH (hQ.below y4);have HG:=iH (grown_trans (grown_trans HG3.out hG) (grown_of_below y4 (some pb)));have HR:Hid (RRel T (fP m (N+1) (T.drop i) st) i' bad' st' (.node sNot 0 0 [M.core])):=by
   show _;rw[E1.out];exact iH hp.not
  have⟨z0,z1,z2,z3,_⟩:=B4.p4;have fz0:=B4.frozen 0;have fz1:=B4.frozen 1;have fz2:=B4.frozen 2;have fz3:=B4.frozen 3;have hzl:=B4.lt;have hW3:W.heap.size<w4.heap.size:=by omega
  clear hM hQ hG hp HB3 HG3 B4 y4 E1;go_wp2;have hX:=lay_mq (M:=⟨⟨#[110,111,116]⟩,0,0,[M],⟨some ⟨w4.heap.size,0,none⟩,1,1⟩⟩) HB.out HQ.out HG.out hpl (Nat.le_refl _) HM.out;dsimp only at hX;rw[alloc_four w4 _ hW3]at hX;generalize(((((w4.setCell ⟨W.heap.size,0,none⟩ (.string ⟨#[110,111,116]⟩)).setCell ⟨W.heap.size,1,none⟩ (.int .i64 0)).setCell ⟨W.heap.size,2,none⟩ (.int .i64 0)).setCell ⟨W.heap.size,3,none⟩ (.slice (some ⟨w4.heap.size,0,none⟩) 1 1)).alloc (.cells #[.string M.op,.int .i64 M.a,.int .i64 M.b,.slice M.s.A M.s.n M.s.c] 35))=X at *;have⟨x0,x1,x2,x3,_⟩:=hX.2.2.2.p4;refine bodyPost_ret (v:=.agg #[.string ⟨#[110,111,116]⟩,.int .i64 0,.int .i64 0,.slice (some ⟨w4.heap.size,0,none⟩) 1 1]) (by simp[results,Tryz.results120,go_sem,x0,x1,x2,x3]) rfl ?_;exact RPost.mk _ rfl hX.1 hX.2.1 hX.2.2.1 HR.out
section
def restL (m:CatM) (o:Bool) (n:Nat) (kp:List Mk) (ts:List Tok) (st:PSt):PR (List Mk):=match lP m n o ts st with | .bad x=>.bad x | .ok ms r s=>.ok (kp ++ ms) r s
section
variable {m : CatM} {o : Bool} {n : Nat} {kp : List Mk} {ts r x : List Tok} {st s : PSt} {k : Mk}
theorem rest_bad (h:elemP m o n ts st=.bad x):restL m o (n+1) kp ts st=.bad x:=by
 unfold restL;rw[list_bad h]
theorem rest_end (h:elemP m o n ts st=.ok k r s) (hh:headB r 0 (jOp o)=false):restL m o (n+1) kp ts st=.ok (kp ++ [k]) r s:=by
 unfold restL;rw[list_ok h,more_end hh]
theorem rest_more (h:elemP m o n ts st=.ok k r s) (hh:headB r 0 (jOp o)=true):restL m o (n+1) kp ts st=restL m o n (kp ++ [k]) r.tail s:=by
 unfold restL;rw[list_ok h];unfold moreL;rw[if_pos hh];cases lP m n o r.tail s <;> simp
end
def jM (n pb:Nat) (x:Value) (w:World):Nat:=match x with
 | .bool true=>(match w.cell? ⟨pb,5,none⟩with | some (.int _ z)=>1+n-z.toNat | _=>0)
 | _=>0
theorem jM_true {W:World} {pb:Nat} {m:CatM} {T:List Tok} {A:Option Addr} {n c i:Nat} {bad:Bool} {st:PSt} (h:QAt W pb m T A n c i bad st):jM n pb (.bool true) W=1+n-i:=by
 have e:=h.pk.k5;simp[jM,e]
def KidsR (w:World) (B:Nat) (v:Value) (ks:List MkM):Prop:=∀k∈ks,k.Ok w 35 (fun b=>B<b∧some b≠v.ownBlock)
theorem KidsR.grown {w w':World} {B g:Nat} {v:Value} {ks:List MkM} (h:KidsR w B v ks) (hg:w.grownBy w' (some g)) (hl:g<=B):KidsR w' B v ks:=fun k hk=>(h k hk).grown hg fun b hb=>by simp;omega
theorem KidsR.below {w w':World} {B:Nat} {v:Value} {ks:List MkM} (h:KidsR w B v ks) (hb:Below w.heap.size w w'):KidsR w' B v ks:=fun k hk=>(h k hk).bel hb
theorem KidsR.next {w w':World} {B:Nat} {v v':Value} {ks:List MkM} {M:MkM} (h:KidsR w B v ks) (hM:M.Ok w 35 (fun b=>B<b∧some b≠v.ownBlock)) (hg:w.grownBy w' v.ownBlock) (hat:v'.ownBlock=v.ownBlock∨v'.ownBlock=some w.heap.size):KidsR w' B v' (ks ++ [M]):=fun k hk=>by
 have hk':k.Ok w 35 (fun b=>B<b∧some b≠v.ownBlock):=by
  rcases List.mem_append.1 hk with hk|hk
  ·exact h k hk
  ·obtain rfl:k=M:=by simpa using hk
   exact hM
 refine(hk'.lt.grown hg fun b hb=>hb.1.2).mono fun b _ hb=>⟨hb.1.1,?_⟩
 rcases hat with e|e
 ·rw[e];exact hb.1.2
 ·rw[e];have:=hb.2;simp;omega
theorem own_one {w:World} {base e size:Nat} {A:Option Addr} {c:Nat} {xs:List Value} {k:MkM} (h:w.ownsRow base e size (.slice A [k].length c) [k].length xs):∃g,A=some ⟨g,0,none⟩:=by
 rcases h.2 with ⟨hv,h0⟩|⟨g,cap,cur,hv,_⟩
 ·cases h0
 ·cases hv;exact⟨g,rfl⟩
def JSt (m:CatM) (T:List Tok) (o:Bool) (L:PR (List Mk)) (n q N1:Nat) (kp:List Mk) (i':Nat) (bad' again:Bool) (st':PSt):Prop :=
 (again=false∧bad'=true∧L=.bad (T.drop i'))∨(again=false∧bad'=false∧L=.ok kp (T.drop i') st')∨(again=true∧bad'=false∧∃fuel,fuel<=N1∧5*(n-i')+q<=fuel∧L=restL m o (fuel+1) kp (T.drop i') st')
def JInv (W wr:World) (pb:Nat) (m:CatM) (T:List Tok) (A:Option Addr) (n c:Nat) (o:Bool) (L:PR (List Mk)) (q N1:Nat) (v x:Value):Prop :=
 ∃(ks:List MkM) (kp:List Mk) (i':Nat) (bad' again:Bool) (st':PSt),x=.bool again∧wr.ownsRow (W.heap.size+1) 35 4 v ks.length (mcells ks)∧KidsR wr W.heap.size v ks∧QAt wr pb m T A n c i' bad' st'∧W.grownBy wr (some pb)∧W.heap.size<wr.heap.size∧Bk wr W.heap.size 35 [.string ⟨#[]⟩,.int .i64 0,.int .i64 0,.slice none 0 0]∧(st'.1=0->MkM.coreL ks=kp)∧ks.length<=n+1∧(bad'=false->ks.length<=i')∧JSt m T o L n q N1 kp i' bad' again st'
theorem joined_rel {T:List Tok} {op:ByteArray} {L:PR (List Mk)} {m:CatM} {o:Bool} {n q N1:Nat} {kp:List Mk} {i':Nat} {bad':Bool} {st':PSt} {ks:List MkM} {M:MkM} (h:JSt m T o L n q N1 kp i' bad' false st') (hk:st'.1=0->MkM.coreL ks=kp) (hM:(ks=[M])∨(ks.length≠1∧M.core=.node op 0 0 (MkM.coreL ks))):RRel T (L.joined op) i' bad' st' M.core:=by
 rcases h with ⟨-,rfl,rfl⟩|⟨-,rfl,rfl⟩|⟨h,-⟩
 ·exact⟨rfl,rfl⟩
 ·refine⟨rfl,rfl,rfl,fun e=>?_⟩;have hk:=hk e;subst hk;rcases hM with rfl|⟨h1,h2⟩
  ·rfl
  ·rw[h2];split
   ·rename_i m' he
    have:=congrArg List.length he;rw[coreL_len]at this;exact absurd this h1
   ·rfl
 ·cases h
theorem step_rel {T:List Tok} {L:PR (List Mk)} {m:CatM} {o:Bool} {n q N1 fuel:Nat} {kp:List Mk} {i' i2:Nat} {bad2:Bool} {st' st2:PSt} {ks:List MkM} {M:MkM} {cp:PR Mk} (hL:L=restL m o (fuel+1) kp (T.drop i') st') (he:elemP m o fuel (T.drop i') st'=cp) (hp:RRel T cp i2 bad2 st2 M.core) (hk:st'.1=0->MkM.coreL ks=kp) (hT:n=T.length) (hn:i'<=n) (h2:i2<=n) (hw:∀t∈T.drop i2,TokK t) (ho:kindAt (jOp o) 0=3) (hf:fuel<=N1) (hfq:5*(n-i')+q<=fuel) :
 (bad2=true->L=.bad (T.drop i2))∧(bad2=false->i'<i2∧∃kp',(st2.1=0->MkM.coreL (ks ++ [M])=kp')∧(textB (T.drop i2) (jOp o)=false->L=.ok kp' (T.drop i2) st2)∧(textB (T.drop i2) (jOp o)=true->q<=3->JSt m T o L n q N1 kp' (i2+1) false true st2)):=by
 have hg:=elem_good m o fuel (T.drop i') st';rw[he]at hg;cases cp with
 | bad x =>
   obtain⟨rfl,rfl⟩:=hp;exact⟨fun _=>hL.trans (rest_bad he),(fun h=>by cases h)⟩
 | ok k r st1 =>
   obtain⟨rfl,rfl,rfl,h4⟩:=hp;refine⟨(fun h=>by cases h),fun _=>?_⟩;have hlt:i'<i2:=by
    have:=hg.1;simp only[List.length_drop]at this;omega
   refine⟨hlt,kp ++ [k],fun e=>?_,fun e=>?_,fun e hq=>?_⟩
   ·rw[coreL_map,List.map_append,<- coreL_map,hk (hg.2 e)];simp[h4 e]
   ·exact hL.trans (rest_end he (by rw[head_word ho hw];exact e))
   ·obtain⟨t,ht,hs,hl,htl⟩:=textB_head e;refine .inr (.inr ⟨rfl,rfl,fuel-1,by omega,by omega,?_⟩);have e1:fuel-1+1=fuel:=by omega
    rw[e1,hL,rest_more he (by rw[head_word ho hw];exact e),htl]
theorem join_rd_and {W:World} {pb:Nat} {m:CatM} {T:List Tok} {A:Option Addr} {n c i:Nat} {st:PSt} {N:Nat} (hR:Hid (∀n',n'<N->RF m T A pb n c n')) (h:QAt W pb m T A n c i false st) (hN:5*(n-i)+3<=N) :
 Calls Tryz.prog 76 #[.pointer (some ⟨pb,0,none⟩),.string ⟨#[97,110,100]⟩] W (RPost W pb m T A n c (jP m N false (T.drop i) st)):=by
 obtain⟨N1,rfl⟩:∃N1,N=N1+2:=⟨N-2,by omega⟩;have HJ:Hid (jP m (N1+2) false (T.drop i) st=(lP m (N1+1) false (T.drop i) st).joined sAnd):=iH rfl;have HL0:Hid (lP m (N1+1) false (T.drop i) st=restL m false (N1+1) [] (T.drop i) st):=iH (by unfold restL;cases lP m (N1+1) false (T.drop i) st <;> rfl);generalize hLg:lP m (N1+1) false (T.drop i) st=L at *;generalize hPg:jP m (N1+2) false (T.drop i) st=P at *;have y:Below W.heap.size W (W.alloc (.cells #[.string ⟨#[]⟩,.int .i64 0,.int .i64 0,.slice none 0 0] 35)):=(Below.refl _ _).alloc (Nat.le_refl _) _;have HB0:=iH (Bk.new W 35 [.string ⟨#[]⟩,.int .i64 0,.int .i64 0,.slice none 0 0]);have HQ0:=iH (h.below y);have HG0:=iH (grown_of_below y (some pb));have hpl:=h.pk.lt;have hle:=h.le;have hfew:=h.few;have HTL:=iH h.len;have HTK:=iH h.toks;obtain⟨i0,hi,hz0,hz1,hz2⟩:=info_parts info35;clear h y hLg hPg;go_enter Tryz.func76,Tryz.ntmps76;go_wp2_with fail;go_loopw [5,6] (fun v x wr=>JInv W wr pb m T A n c false L 1 N1 v x) (fun _ x wr=>jM n pb x wr)
 case atStart =>
  exact⟨[],[],i,false,true,st,rfl,World.ownsRow_nil _ _ _ _,fun _ h=>absurd h List.not_mem_nil,HQ0.out,HG0.out,by rw[World.size_alloc];omega,HB0.out,fun _=>rfl,by simp,fun _=>by simp,.inr (.inr ⟨rfl,rfl,N1,Nat.le_refl _,by omega,HL0.out⟩)⟩
 case round =>
  obtain⟨ks,kp,i',bad',again,st',rfl,hown,hkids,hQ,hG,hsz,hB,hcore,hcnt,hcnt2,hst⟩:=hrel;have hle':=hQ.le;have hL8:ks.length<=8193:=by omega
  cases again
  ·-- the end
   have HO:=iH hown;have HK:=iH hkids;have HQ:=iH hQ;have HG:=iH hG;have HB:=iH hB;have HST:=iH hst;have HC:=iH hcore;obtain⟨A',c',rfl,-⟩:=row_of_owns hown;have hgne:(Value.slice A' ks.length c').ownBlock≠some W.heap.size:=fun e=>by have:=row_base hown _ e;omega
   have⟨z0,z1,z2,z3,_⟩:=hB.p4;have fz0:=hB.frozen 0;have fz1:=hB.frozen 1;have fz2:=hB.frozen 2;have fz3:=hB.frozen 3;have hzl:=hB.lt;clear hown hkids hQ hG hB hcore hst HL0 HB0 HQ0 HG0 HTL HTK hR;by_cases h1:ks.length=1
   ·obtain⟨k,rfl⟩:=List.length_eq_one_iff.1 h1;have HR:Hid (RRel T P i' bad' st' k.core):=by
     show _;rw[HJ.out];exact joined_rel HST.out HC.out (.inl rfl)
    obtain⟨gb,rfl⟩:=own_one HO.out;have g0:wr.cell? ⟨gb,0,none⟩=some (.string k.op):=HO.out.cellAt 0 (by simp);have g1:wr.cell? ⟨gb,1,none⟩=some (.int .i64 k.a):=HO.out.cellAt 1 (by simp);have g2:wr.cell? ⟨gb,2,none⟩=some (.int .i64 k.b):=HO.out.cellAt 2 (by simp);have g3:wr.cell? ⟨gb,3,none⟩=some (.slice k.s.A k.s.n k.s.c):=HO.out.cellAt 3 (by simp);clear HJ HST HC;dsimp only[List.length_cons,List.length_nil,Nat.zero_add]at *;go_wp2;have hX:=lay_mq (M:=k) HB.out HQ.out HG.out hpl (Nat.le_refl _) ((HK.out k (List.mem_cons_self ..)).mono fun b _ hb=>⟨Nat.le_of_lt hb.1,by have:=hb.1;omega⟩);generalize(((wr.setCell ⟨W.heap.size,0,none⟩ (.string k.op)).setCell ⟨W.heap.size,1,none⟩ (.int .i64 k.a)).setCell ⟨W.heap.size,2,none⟩ (.int .i64 k.b)).setCell ⟨W.heap.size,3,none⟩ (.slice k.s.A k.s.n k.s.c)=X at *;have⟨x0,x1,x2,x3,_⟩:=hX.2.2.2.p4;refine bodyPost_ret (v:=.agg #[.string k.op,.int .i64 k.a,.int .i64 k.b,.slice k.s.A k.s.n k.s.c]) (by simp[results,Tryz.results76,go_sem,x0,x1,x2,x3]) rfl ?_;exact RPost.mk k rfl hX.1 hX.2.1 hX.2.2.1 HR.out
   ·have HR:Hid (RRel T P i' bad' st' (MkM.core ⟨sAnd,0,0,ks,⟨A',ks.length,c'⟩⟩)):=by
     show _;rw[HJ.out];exact joined_rel HST.out HC.out (.inr ⟨h1,rfl⟩)
    have hMk:MkM.Ok wr 35 (fun b=>W.heap.size<=b∧b≠W.heap.size) ⟨sAnd,0,0,ks,⟨A',ks.length,c'⟩⟩ :=
     .mk _ _ _ _ _ ((PRow.of_own HO.out).mono fun b _ hb=>⟨by omega,by omega⟩) rfl (by dsimp only;omega) (by decide) ⟨by decide,by decide⟩ ⟨by decide,by decide⟩ fun k hk=>(HK.out k hk).mono fun b _ hb=>⟨Nat.le_of_lt hb.1,by have:=hb.1;omega⟩
    have HMk:=iH hMk;have hne1:((ks.length:Int) == 1)=false:=by simp;omega
    have hL9:(ks.length:Int)<=8193:=by omega
    clear HJ HST HC hMk h1;generalize hkl:ks.length=kl at *;go_wp2;have hX:=lay_mq (M:=⟨⟨#[97,110,100]⟩,0,0,ks,⟨A',kl,c'⟩⟩) HB.out HQ.out HG.out hpl (Nat.le_refl _) HMk.out;dsimp only at hX;generalize(((wr.setCell ⟨W.heap.size,0,none⟩ (.string ⟨#[97,110,100]⟩)).setCell ⟨W.heap.size,1,none⟩ (.int .i64 0)).setCell ⟨W.heap.size,2,none⟩ (.int .i64 0)).setCell ⟨W.heap.size,3,none⟩ (.slice A' kl c')=X at *;have⟨x0,x1,x2,x3,_⟩:=hX.2.2.2.p4;refine bodyPost_ret (v:=.agg #[.string ⟨#[97,110,100]⟩,.int .i64 0,.int .i64 0,.slice A' kl c']) (by simp[results,Tryz.results76,go_sem,x0,x1,x2,x3]) rfl ?_;exact RPost.mk _ rfl hX.1 hX.2.1 hX.2.2.1 HR.out
  ·rcases hst with ⟨h,-⟩ | ⟨h,-⟩ | ⟨-,rfl,fuel,hf,hfq,hLr⟩
   ·cases h
   ·cases h
   have hjm:=jM_true hQ;have HO:=iH hown;have HK:=iH hkids;have HG:=iH hG;have HB:=iH hB;have HC:=iH hcore;have HLr:=iH hLr;have HJM:=iH hjm;have KE:=iH (hR.out fuel (by omega) wr i' st' hQ hfq);have p6:=hQ.pk.k6;have pl:=hQ.pk.lt;have hcnt3:=hcnt2 rfl;clear hown hkids hQ hG hB hcore hLr hjm hcnt hcnt2 HL0 HB0 HQ0 HG0;generalize hcp:fP m fuel (T.drop i') st'=cp at *;have HCP:Hid (elemP m false fuel (T.drop i') st'=cp):=iH hcp;clear hcp;go_wp2_with fail;refine KE.out.mono ?_;intro e w3 hpost;obtain⟨M,i2,bad2,st2,rfl,hM,hQ2,hG2,hp⟩:=hpost.get;clear hpost KE;have hs3:=hG2.size;have h2n:=hQ2.le;have HS:=iH (step_rel (ks:=ks) (N1:=N1) (q:=1) HLr.out HCP.out hp HC.out HTL.out hle' h2n (fun t ht=>(HTK.out t (List.mem_of_mem_drop ht)).2.2) (by decide) hf hfq);have y3:Below w3.heap.size w3 (w3.alloc (.cells #[.string M.op,.int .i64 M.a,.int .i64 M.b,.slice M.s.A M.s.n M.s.c] 35)):=(Below.refl _ _).alloc (Nat.le_refl _) _;have hub:∀g,u5.ownBlock=some g->W.heap.size+1<=g∧g<wr.heap.size:=fun g hg=>HO.out.lt g hg
   have hpb5:u5.ownBlock≠some pb:=fun e=>by have:=(hub pb e).1;omega
   have HO4:=iH ((HO.out.kept hG2 (.inr hpb5)).alloc (.cells #[.string M.op,.int .i64 M.a,.int .i64 M.b,.slice M.s.A M.s.n M.s.c] 35));have HK4:=iH ((HK.out.grown hG2 (Nat.le_of_lt hpl)).below y3);have HM4:=iH ((hM.mono (Q:=fun b=>W.heap.size<b∧some b≠u5.ownBlock) fun b _ hb=>⟨by omega,fun e=>by have:=(hub b e.symm).2;omega⟩).bel y3);have HQ4:=iH (hQ2.below y3);have HB4:=iH ((HB.out.grown hG2 (by simp;omega)).alloc (.cells #[.string M.op,.int .i64 M.a,.int .i64 M.b,.slice M.s.A M.s.n M.s.c] 35));have HG4:=iH (grown_trans (grown_trans HG.out hG2) (grown_of_below y3 (some pb)));clear hM hQ2 hG2 hp y3 HO HK HB HG HC HLr HCP p6 pl;go_wp2_with(at_builtin;refine wpList_append_own_at _ rfl _ _ 33 rfl (W.heap.size+1) 35 i0 (.agg #[.string ⟨#[]⟩,.int .i64 0,.int .i64 0,.slice none 0 0]) 4 56 Tryz.underlying33 hi hz0 hz1 hz2 rfl (by decide) _ ks.length (mcells ks) rfl HO4.out ⟨w3.heap.size,0,none⟩ 1 1 [.string M.op,.int .i64 M.a,.int .i64 M.b,.slice M.s.A M.s.n M.s.c] rfl rfl (new4 _ _ _ _ _ _) (one4m M) (by unfold maxLen;omega) (by omega) (by simp;omega) ?_);intro v' w4 hown' hgrow _ hat;have HK5:=iH (HK4.out.next HM4.out hgrow (by rw[World.size_alloc];exact hat));have HQ5:=iH (HQ4.out.own HO4.out hgrow (by omega));have HB5:=iH (HB4.out.grown hgrow (fun e=>by have:=row_base HO4.out _ e.symm;omega));have HG5:Hid (W.grownBy w4 (some pb)):=iH ⟨hgrow.os.trans HG4.out.os,hgrow.tape.trans HG4.out.tape,hgrow.output.trans HG4.out.output,Nat.le_trans HG4.out.size hgrow.size,fun b hb hne=>(hgrow.block b (Nat.lt_of_lt_of_le hb HG4.out.size) (fun e=>by have:=row_base HO4.out b e.symm;omega)).trans (HG4.out.block b hb hne)⟩;have HO5:Hid (w4.ownsRow (W.heap.size+1) 35 4 v' (ks ++ [M]).length (mcells (ks ++ [M]))):=iH (by rw[mcells_snoc,List.length_append];exact hown');have hs5:W.heap.size<w4.heap.size:=by have:=hgrow.size;rw[World.size_alloc]at this;omega
   have KI:=iH (is_rd ⟨#[97,110,100]⟩ HQ5.out);clear hown' hgrow hat HK4 HQ4 HB4 HG4 HO4 HM4 hub hpb5;cases bad2
   ·obtain⟨hlt2,kp',hk2,hno,hyes⟩:=HS.out.2 rfl;have HK2:=iH hk2;cases hx:textB (T.drop i2) sAnd
    ·have HE:=iH (hno hx);change textB (T.drop i2) ⟨#[97,110,100]⟩=false at hx;rw[hx]at KI;clear hno hyes HS hx hk2;go_wp2_with fail;refine KI.out.mono ?_;rintro e w6 ⟨rfl,hb6⟩;have HO6:=iH (HO5.out.kept (grown_of_below hb6 none) (by cases v'.ownBlock <;> simp));have hs6:=hb6.size;have HK6:=iH (HK5.out.below hb6);have HQ6:=iH (HQ5.out.below hb6);have HB6:=iH (HB5.out.below hb6 HB5.out.lt);have HG6:=iH (grown_trans HG5.out (grown_of_below hb6 (some pb)));clear KI hb6 HO5 HK5 HQ5 HB5 HG5;go_wp2_with fail;go_roundw
     case rel=>exact⟨ks ++ [M],kp',i2,false,false,st2,rfl,HO6.out,HK6.out,HQ6.out,HG6.out,by omega,HB6.out,HK2.out,by simp;omega,fun _=>by simp;omega,.inr (.inl ⟨rfl,rfl,HE.out⟩)⟩
     case measure=>rw[HJM.out];simp[jM];omega
    ·have HE:=iH (hyes hx (by decide));have HX:=iH hx;change textB (T.drop i2) ⟨#[97,110,100]⟩=true at hx;rw[hx]at KI;clear hno hyes HS hx hk2;go_wp2_with fail;refine KI.out.mono ?_;rintro e w6 ⟨rfl,hb6⟩;have HO6:=iH (HO5.out.kept (grown_of_below hb6 none) (by cases v'.ownBlock <;> simp));have hs6:=hb6.size;have HK6:=iH (HK5.out.below hb6);have HQ6:=iH (HQ5.out.below hb6);have HB6:=iH (HB5.out.below hb6 HB5.out.lt);have HG6:=iH (grown_trans HG5.out (grown_of_below hb6 (some pb)));have KT:=iH (take_at 0 ⟨#[97,110,100]⟩ HQ6.out HX.out (fun t ht hs=>(HTK.out t (List.mem_of_getElem? ht)).2.2.1 (by rw[hs];decide)));have h2l:i2<n:=by obtain⟨t,_,_,hl,_⟩:=textB_head HX.out;have:=HTL.out;omega
     clear KI hb6 HO5 HK5 HQ5 HB5 HG5 HQ6;go_wp2_with fail;refine KT.out.mono ?_;rintro e w7 ⟨⟨y0,y1,y2,y3,rfl⟩,hq7,hg7⟩;have hub:v'.ownBlock≠some pb:=fun e=>by have:=row_base HO6.out pb e;omega
     have HO7:=iH (HO6.out.kept hg7 (.inr hub));have hs7:=hg7.size;have HK7:=iH (HK6.out.grown hg7 (Nat.le_of_lt hpl));have HQ7:=iH hq7;have HB7:=iH (HB6.out.grown hg7 (by simp;omega));have HG7:=iH (grown_trans HG6.out hg7);have HJ7:=iH (jM_true hq7);clear KT hq7 hg7 hub HO6 HK6 HB6 HG6;go_wp2_with fail;go_roundw
     case rel=>exact⟨ks ++ [M],kp',i2+1,false,true,st2,rfl,HO7.out,HK7.out,HQ7.out,HG7.out,by omega,HB7.out,HK2.out,by simp;omega,fun _=>by simp;omega,HE.out⟩
     case measure=>rw[HJM.out,HJ7.out];omega
   ·have HE:=iH (HS.out.1 rfl);clear HS;go_wp2_with fail;refine KI.out.mono ?_;rintro e w6 ⟨rfl,hb6⟩;have HO6:=iH (HO5.out.kept (grown_of_below hb6 none) (by cases v'.ownBlock <;> simp));have hs6:=hb6.size;have HK6:=iH (HK5.out.below hb6);have HQ6:=iH (HQ5.out.below hb6);have HB6:=iH (HB5.out.below hb6 HB5.out.lt);have HG6:=iH (grown_trans HG5.out (grown_of_below hb6 (some pb)));clear KI hb6 HO5 HK5 HQ5 HB5 HG5;go_wp2_with fail;go_roundw
    case rel=>exact⟨ks ++ [M],MkM.coreL (ks ++ [M]),i2,true,false,st2,rfl,HO6.out,HK6.out,HQ6.out,HG6.out,by omega,HB6.out,fun _=>rfl,by simp;omega,(fun h=>by cases h),.inl ⟨rfl,rfl,HE.out⟩⟩
    case measure=>rw[HJM.out];simp[jM];omega
end
theorem join_rd_or {W:World} {pb:Nat} {m:CatM} {T:List Tok} {A:Option Addr} {n c i:Nat} {st:PSt} {N:Nat} (hR:Hid (∀n',n'<N->RJ false m T A pb n c n')) (h:QAt W pb m T A n c i false st) (hN:5*(n-i)+5<=N) :
 Calls Tryz.prog 76 #[.pointer (some ⟨pb,0,none⟩),.string ⟨#[111,114]⟩] W (RPost W pb m T A n c (jP m N true (T.drop i) st)):=by
 obtain⟨N1,rfl⟩:∃N1,N=N1+2:=⟨N-2,by omega⟩;have HJ:Hid (jP m (N1+2) true (T.drop i) st=(lP m (N1+1) true (T.drop i) st).joined sOr):=iH rfl;have HL0:Hid (lP m (N1+1) true (T.drop i) st=restL m true (N1+1) [] (T.drop i) st):=iH (by unfold restL;cases lP m (N1+1) true (T.drop i) st <;> rfl);generalize hLg:lP m (N1+1) true (T.drop i) st=L at *;generalize hPg:jP m (N1+2) true (T.drop i) st=P at *;have y:Below W.heap.size W (W.alloc (.cells #[.string ⟨#[]⟩,.int .i64 0,.int .i64 0,.slice none 0 0] 35)):=(Below.refl _ _).alloc (Nat.le_refl _) _;have HB0:=iH (Bk.new W 35 [.string ⟨#[]⟩,.int .i64 0,.int .i64 0,.slice none 0 0]);have HQ0:=iH (h.below y);have HG0:=iH (grown_of_below y (some pb));have hpl:=h.pk.lt;have hle:=h.le;have hfew:=h.few;have HTL:=iH h.len;have HTK:=iH h.toks;obtain⟨i0,hi,hz0,hz1,hz2⟩:=info_parts info35;clear h y hLg hPg;go_enter Tryz.func76,Tryz.ntmps76;go_wp2_with fail;go_loopw [5,6] (fun v x wr=>JInv W wr pb m T A n c true L 3 N1 v x) (fun _ x wr=>jM n pb x wr)
 case atStart =>
  exact⟨[],[],i,false,true,st,rfl,World.ownsRow_nil _ _ _ _,fun _ h=>absurd h List.not_mem_nil,HQ0.out,HG0.out,by rw[World.size_alloc];omega,HB0.out,fun _=>rfl,by simp,fun _=>by simp,.inr (.inr ⟨rfl,rfl,N1,Nat.le_refl _,by omega,HL0.out⟩)⟩
 case round =>
  obtain⟨ks,kp,i',bad',again,st',rfl,hown,hkids,hQ,hG,hsz,hB,hcore,hcnt,hcnt2,hst⟩:=hrel;have hle':=hQ.le;have hL8:ks.length<=8193:=by omega
  cases again
  ·-- the end
   have HO:=iH hown;have HK:=iH hkids;have HQ:=iH hQ;have HG:=iH hG;have HB:=iH hB;have HST:=iH hst;have HC:=iH hcore;obtain⟨A',c',rfl,-⟩:=row_of_owns hown;have hgne:(Value.slice A' ks.length c').ownBlock≠some W.heap.size:=fun e=>by have:=row_base hown _ e;omega
   have⟨z0,z1,z2,z3,_⟩:=hB.p4;have fz0:=hB.frozen 0;have fz1:=hB.frozen 1;have fz2:=hB.frozen 2;have fz3:=hB.frozen 3;have hzl:=hB.lt;clear hown hkids hQ hG hB hcore hst HL0 HB0 HQ0 HG0 HTL HTK hR;by_cases h1:ks.length=1
   ·obtain⟨k,rfl⟩:=List.length_eq_one_iff.1 h1;have HR:Hid (RRel T P i' bad' st' k.core):=by
     show _;rw[HJ.out];exact joined_rel HST.out HC.out (.inl rfl)
    obtain⟨gb,rfl⟩:=own_one HO.out;have g0:wr.cell? ⟨gb,0,none⟩=some (.string k.op):=HO.out.cellAt 0 (by simp);have g1:wr.cell? ⟨gb,1,none⟩=some (.int .i64 k.a):=HO.out.cellAt 1 (by simp);have g2:wr.cell? ⟨gb,2,none⟩=some (.int .i64 k.b):=HO.out.cellAt 2 (by simp);have g3:wr.cell? ⟨gb,3,none⟩=some (.slice k.s.A k.s.n k.s.c):=HO.out.cellAt 3 (by simp);clear HJ HST HC;dsimp only[List.length_cons,List.length_nil,Nat.zero_add]at *;go_wp2;have hX:=lay_mq (M:=k) HB.out HQ.out HG.out hpl (Nat.le_refl _) ((HK.out k (List.mem_cons_self ..)).mono fun b _ hb=>⟨Nat.le_of_lt hb.1,by have:=hb.1;omega⟩);generalize(((wr.setCell ⟨W.heap.size,0,none⟩ (.string k.op)).setCell ⟨W.heap.size,1,none⟩ (.int .i64 k.a)).setCell ⟨W.heap.size,2,none⟩ (.int .i64 k.b)).setCell ⟨W.heap.size,3,none⟩ (.slice k.s.A k.s.n k.s.c)=X at *;have⟨x0,x1,x2,x3,_⟩:=hX.2.2.2.p4;refine bodyPost_ret (v:=.agg #[.string k.op,.int .i64 k.a,.int .i64 k.b,.slice k.s.A k.s.n k.s.c]) (by simp[results,Tryz.results76,go_sem,x0,x1,x2,x3]) rfl ?_;exact RPost.mk k rfl hX.1 hX.2.1 hX.2.2.1 HR.out
   ·have HR:Hid (RRel T P i' bad' st' (MkM.core ⟨sOr,0,0,ks,⟨A',ks.length,c'⟩⟩)):=by
     show _;rw[HJ.out];exact joined_rel HST.out HC.out (.inr ⟨h1,rfl⟩)
    have hMk:MkM.Ok wr 35 (fun b=>W.heap.size<=b∧b≠W.heap.size) ⟨sOr,0,0,ks,⟨A',ks.length,c'⟩⟩ :=
     .mk _ _ _ _ _ ((PRow.of_own HO.out).mono fun b _ hb=>⟨by omega,by omega⟩) rfl (by dsimp only;omega) (by decide) ⟨by decide,by decide⟩ ⟨by decide,by decide⟩ fun k hk=>(HK.out k hk).mono fun b _ hb=>⟨Nat.le_of_lt hb.1,by have:=hb.1;omega⟩
    have HMk:=iH hMk;have hne1:((ks.length:Int) == 1)=false:=by simp;omega
    have hL9:(ks.length:Int)<=8193:=by omega
    clear HJ HST HC hMk h1;generalize hkl:ks.length=kl at *;go_wp2;have hX:=lay_mq (M:=⟨⟨#[111,114]⟩,0,0,ks,⟨A',kl,c'⟩⟩) HB.out HQ.out HG.out hpl (Nat.le_refl _) HMk.out;dsimp only at hX;generalize(((wr.setCell ⟨W.heap.size,0,none⟩ (.string ⟨#[111,114]⟩)).setCell ⟨W.heap.size,1,none⟩ (.int .i64 0)).setCell ⟨W.heap.size,2,none⟩ (.int .i64 0)).setCell ⟨W.heap.size,3,none⟩ (.slice A' kl c')=X at *;have⟨x0,x1,x2,x3,_⟩:=hX.2.2.2.p4;refine bodyPost_ret (v:=.agg #[.string ⟨#[111,114]⟩,.int .i64 0,.int .i64 0,.slice A' kl c']) (by simp[results,Tryz.results76,go_sem,x0,x1,x2,x3]) rfl ?_;exact RPost.mk _ rfl hX.1 hX.2.1 hX.2.2.1 HR.out
  ·rcases hst with ⟨h,-⟩ | ⟨h,-⟩ | ⟨-,rfl,fuel,hf,hfq,hLr⟩
   ·cases h
   ·cases h
   have hjm:=jM_true hQ;have HO:=iH hown;have HK:=iH hkids;have HG:=iH hG;have HB:=iH hB;have HC:=iH hcore;have HLr:=iH hLr;have HJM:=iH hjm;have KE:=iH (hR.out fuel (by omega) wr i' st' hQ hfq);have p6:=hQ.pk.k6;have pl:=hQ.pk.lt;have hcnt3:=hcnt2 rfl;clear hown hkids hQ hG hB hcore hLr hjm hcnt hcnt2 HL0 HB0 HQ0 HG0;generalize hcp:jP m fuel false (T.drop i') st'=cp at *;have HCP:Hid (elemP m true fuel (T.drop i') st'=cp):=iH hcp;clear hcp;go_wp2_with fail;refine KE.out.mono ?_;intro e w3 hpost;obtain⟨M,i2,bad2,st2,rfl,hM,hQ2,hG2,hp⟩:=hpost.get;clear hpost KE;have hs3:=hG2.size;have h2n:=hQ2.le;have HS:=iH (step_rel (ks:=ks) (N1:=N1) (q:=3) HLr.out HCP.out hp HC.out HTL.out hle' h2n (fun t ht=>(HTK.out t (List.mem_of_mem_drop ht)).2.2) (by decide) hf hfq);have y3:Below w3.heap.size w3 (w3.alloc (.cells #[.string M.op,.int .i64 M.a,.int .i64 M.b,.slice M.s.A M.s.n M.s.c] 35)):=(Below.refl _ _).alloc (Nat.le_refl _) _;have hub:∀g,u5.ownBlock=some g->W.heap.size+1<=g∧g<wr.heap.size:=fun g hg=>HO.out.lt g hg
   have hpb5:u5.ownBlock≠some pb:=fun e=>by have:=(hub pb e).1;omega
   have HO4:=iH ((HO.out.kept hG2 (.inr hpb5)).alloc (.cells #[.string M.op,.int .i64 M.a,.int .i64 M.b,.slice M.s.A M.s.n M.s.c] 35));have HK4:=iH ((HK.out.grown hG2 (Nat.le_of_lt hpl)).below y3);have HM4:=iH ((hM.mono (Q:=fun b=>W.heap.size<b∧some b≠u5.ownBlock) fun b _ hb=>⟨by omega,fun e=>by have:=(hub b e.symm).2;omega⟩).bel y3);have HQ4:=iH (hQ2.below y3);have HB4:=iH ((HB.out.grown hG2 (by simp;omega)).alloc (.cells #[.string M.op,.int .i64 M.a,.int .i64 M.b,.slice M.s.A M.s.n M.s.c] 35));have HG4:=iH (grown_trans (grown_trans HG.out hG2) (grown_of_below y3 (some pb)));clear hM hQ2 hG2 hp y3 HO HK HB HG HC HLr HCP p6 pl;go_wp2_with(at_builtin;refine wpList_append_own_at _ rfl _ _ 33 rfl (W.heap.size+1) 35 i0 (.agg #[.string ⟨#[]⟩,.int .i64 0,.int .i64 0,.slice none 0 0]) 4 56 Tryz.underlying33 hi hz0 hz1 hz2 rfl (by decide) _ ks.length (mcells ks) rfl HO4.out ⟨w3.heap.size,0,none⟩ 1 1 [.string M.op,.int .i64 M.a,.int .i64 M.b,.slice M.s.A M.s.n M.s.c] rfl rfl (new4 _ _ _ _ _ _) (one4m M) (by unfold maxLen;omega) (by omega) (by simp;omega) ?_);intro v' w4 hown' hgrow _ hat;have HK5:=iH (HK4.out.next HM4.out hgrow (by rw[World.size_alloc];exact hat));have HQ5:=iH (HQ4.out.own HO4.out hgrow (by omega));have HB5:=iH (HB4.out.grown hgrow (fun e=>by have:=row_base HO4.out _ e.symm;omega));have HG5:Hid (W.grownBy w4 (some pb)):=iH ⟨hgrow.os.trans HG4.out.os,hgrow.tape.trans HG4.out.tape,hgrow.output.trans HG4.out.output,Nat.le_trans HG4.out.size hgrow.size,fun b hb hne=>(hgrow.block b (Nat.lt_of_lt_of_le hb HG4.out.size) (fun e=>by have:=row_base HO4.out b e.symm;omega)).trans (HG4.out.block b hb hne)⟩;have HO5:Hid (w4.ownsRow (W.heap.size+1) 35 4 v' (ks ++ [M]).length (mcells (ks ++ [M]))):=iH (by rw[mcells_snoc,List.length_append];exact hown');have hs5:W.heap.size<w4.heap.size:=by have:=hgrow.size;rw[World.size_alloc]at this;omega
   have KI:=iH (is_rd ⟨#[111,114]⟩ HQ5.out);clear hown' hgrow hat HK4 HQ4 HB4 HG4 HO4 HM4 hub hpb5;cases bad2
   ·obtain⟨hlt2,kp',hk2,hno,hyes⟩:=HS.out.2 rfl;have HK2:=iH hk2;cases hx:textB (T.drop i2) sOr
    ·have HE:=iH (hno hx);change textB (T.drop i2) ⟨#[111,114]⟩=false at hx;rw[hx]at KI;clear hno hyes HS hx hk2;go_wp2_with fail;refine KI.out.mono ?_;rintro e w6 ⟨rfl,hb6⟩;have HO6:=iH (HO5.out.kept (grown_of_below hb6 none) (by cases v'.ownBlock <;> simp));have hs6:=hb6.size;have HK6:=iH (HK5.out.below hb6);have HQ6:=iH (HQ5.out.below hb6);have HB6:=iH (HB5.out.below hb6 HB5.out.lt);have HG6:=iH (grown_trans HG5.out (grown_of_below hb6 (some pb)));clear KI hb6 HO5 HK5 HQ5 HB5 HG5;go_wp2_with fail;go_roundw
     case rel=>exact⟨ks ++ [M],kp',i2,false,false,st2,rfl,HO6.out,HK6.out,HQ6.out,HG6.out,by omega,HB6.out,HK2.out,by simp;omega,fun _=>by simp;omega,.inr (.inl ⟨rfl,rfl,HE.out⟩)⟩
     case measure=>rw[HJM.out];simp[jM];omega
    ·have HE:=iH (hyes hx (by decide));have HX:=iH hx;change textB (T.drop i2) ⟨#[111,114]⟩=true at hx;rw[hx]at KI;clear hno hyes HS hx hk2;go_wp2_with fail;refine KI.out.mono ?_;rintro e w6 ⟨rfl,hb6⟩;have HO6:=iH (HO5.out.kept (grown_of_below hb6 none) (by cases v'.ownBlock <;> simp));have hs6:=hb6.size;have HK6:=iH (HK5.out.below hb6);have HQ6:=iH (HQ5.out.below hb6);have HB6:=iH (HB5.out.below hb6 HB5.out.lt);have HG6:=iH (grown_trans HG5.out (grown_of_below hb6 (some pb)));have KT:=iH (take_at 0 ⟨#[111,114]⟩ HQ6.out HX.out (fun t ht hs=>(HTK.out t (List.mem_of_getElem? ht)).2.2.1 (by rw[hs];decide)));have h2l:i2<n:=by obtain⟨t,_,_,hl,_⟩:=textB_head HX.out;have:=HTL.out;omega
     clear KI hb6 HO5 HK5 HQ5 HB5 HG5 HQ6;go_wp2_with fail;refine KT.out.mono ?_;rintro e w7 ⟨⟨y0,y1,y2,y3,rfl⟩,hq7,hg7⟩;have hub:v'.ownBlock≠some pb:=fun e=>by have:=row_base HO6.out pb e;omega
     have HO7:=iH (HO6.out.kept hg7 (.inr hub));have hs7:=hg7.size;have HK7:=iH (HK6.out.grown hg7 (Nat.le_of_lt hpl));have HQ7:=iH hq7;have HB7:=iH (HB6.out.grown hg7 (by simp;omega));have HG7:=iH (grown_trans HG6.out hg7);have HJ7:=iH (jM_true hq7);clear KT hq7 hg7 hub HO6 HK6 HB6 HG6;go_wp2_with fail;go_roundw
     case rel=>exact⟨ks ++ [M],kp',i2+1,false,true,st2,rfl,HO7.out,HK7.out,HQ7.out,HG7.out,by omega,HB7.out,HK2.out,by simp;omega,fun _=>by simp;omega,HE.out⟩
     case measure=>rw[HJM.out,HJ7.out];omega
   ·have HE:=iH (HS.out.1 rfl);clear HS;go_wp2_with fail;refine KI.out.mono ?_;rintro e w6 ⟨rfl,hb6⟩;have HO6:=iH (HO5.out.kept (grown_of_below hb6 none) (by cases v'.ownBlock <;> simp));have hs6:=hb6.size;have HK6:=iH (HK5.out.below hb6);have HQ6:=iH (HQ5.out.below hb6);have HB6:=iH (HB5.out.below hb6 HB5.out.lt);have HG6:=iH (grown_trans HG5.out (grown_of_below hb6 (some pb)));clear KI hb6 HO5 HK5 HQ5 HB5 HG5;go_wp2_with fail;go_roundw
    case rel=>exact⟨ks ++ [M],MkM.coreL (ks ++ [M]),i2,true,false,st2,rfl,HO6.out,HK6.out,HQ6.out,HG6.out,by omega,HB6.out,fun _=>rfl,by simp;omega,(fun h=>by cases h),.inl ⟨rfl,rfl,HE.out⟩⟩
    case measure=>rw[HJM.out];simp[jM];omega
theorem all_rd (m:CatM) (T:List Tok) (A:Option Addr) (pb n c:Nat):∀N,RF m T A pb n c N∧RJ false m T A pb n c N∧RJ true m T A pb n c N:=by
 intro N
 induction N using Nat.strongRecOn with
 | _ N ih =>
   refine⟨?_,?_,?_⟩
   ·intro W i st h hn;cases N with
    | zero=>exact absurd hn (by omega)
    | succ k=>exact fact_rd (iH (ih k (by omega)).1) (iH (ih k (by omega)).2.2) h hn
   ·intro W i st h hn;exact join_rd_and (iH fun k hk=>(ih k hk).1) h hn
   ·intro W i st h hn;exact join_rd_or (iH fun k hk=>(ih k hk).2.1) h hn
section
def PR.leaf:PR Mk->Prop | .bad _=>True | .ok k _ _=>k.size=1
theorem nameP_leaf {l:List ByteArray} {f:Int->Mk} {ts:List Tok} {st:PSt} (hf:∀i,(f i).size=1):(nameP l f ts st).leaf:=by
 unfold nameP
 repeat (first | exact hf _ | exact True.intro | split)
theorem numsP_leaf {op:ByteArray} {ts:List Tok} {st:PSt}:(numsP op ts st).leaf:=by
 unfold numsP
 repeat (first | rfl | exact True.intro | split)
theorem condP_leaf (kn rn it:List ByteArray) (ts:List Tok) (st:PSt):(condP kn rn it ts st).leaf:=by
 unfold condP
 repeat (first | exact nameP_leaf fun _=>rfl | exact numsP_leaf | exact True.intro | split)
section
variable (kn rn it : List ByteArray)
theorem size_all (n : Nat) : (∀ ts st k r s, factP kn rn it n ts st = .ok k r s -> k.size + r.length <= ts.length) ∧ (∀ o ts st k r s, joinP kn rn it n o ts st = .ok k r s -> k.size + r.length <= ts.length) ∧ (∀ o ts st ks r s, listP kn rn it n o ts st = .ok ks r s -> 1 <= ks.length ∧ Mk.sizeL ks + (ks.length - 1) + r.length <= ts.length) := by
 induction n with
 | zero=>exact⟨fun _ _ _ _ _ h=>by simp[factP]at h,fun _ _ _ _ _ _ h=>by simp[joinP]at h,fun _ _ _ _ _ _ h=>by simp[listP]at h⟩
 | succ n ih =>
   obtain⟨h1,h2,h3⟩:=ih;refine⟨fun ts st k r s h=>?_,fun o ts st k r s h=>?_,fun o ts st ks r s h=>?_⟩
   ·simp only [factP] at h;split at h
    ·rename_i hh
     have ht:=tail_lt hh;cases e:factP kn rn it n ts.tail st with
     | bad x=>rw[e]at h;cases h
     | ok k' r' s' =>
       rw[e]at h;simp only[PR.not,PR.ok.injEq]at h;obtain⟨rfl,rfl,rfl⟩:=h;have:=h1 _ _ _ _ _ e;simp only[Mk.size,Mk.sizeL];omega
    ·split at h
     ·rename_i hh
      have ht:=tail_lt hh;cases e:joinP kn rn it n true ts.tail st with
      | bad x=>rw[e]at h;cases h
      | ok k' r' s' =>
        rw[e]at h;simp only[PR.close]at h;split at h
        ·rename_i hc
         have hc:=tail_lt hc;simp only[PR.ok.injEq]at h;obtain⟨rfl,rfl,rfl⟩:=h;have:=h2 _ _ _ _ _ _ e;omega
        ·cases h
     ·have g:=condP_good kn rn it ts st;have l:=condP_leaf kn rn it ts st;rw[h]at g l;have g1:r.length<ts.length:=g.1;have l1:k.size=1:=l;omega
   ·simp only[joinP]at h;cases e:listP kn rn it n o ts st with
    | bad x=>rw[e]at h;cases h
    | ok ks r' s' =>
      rw[e]at h;simp only[PR.joined,PR.ok.injEq]at h;obtain⟨rfl,rfl,rfl⟩:=h;have:=h3 _ _ _ _ _ _ e;split
      ·simp only[Mk.sizeL,List.length_cons,List.length_nil]at this;omega
      ·rename_i hne
       have hl:ks.length≠1:=fun q=>by
        obtain⟨a,rfl⟩:=List.length_eq_one_iff.1 q;exact hne _ rfl
       simp only[Mk.size];omega
   ·simp only [listP] at h;have hg:∀k' r' s',(if o then joinP kn rn it n false ts st else factP kn rn it n ts st)=.ok k' r' s'->k'.size+r'.length<=ts.length:=fun k' r' s' e=>by
     split at e
     ·exact h2 _ _ _ _ _ _ e
     ·exact h1 _ _ _ _ _ e
    cases e:(if o then joinP kn rn it n false ts st else factP kn rn it n ts st)with
    | bad x=>rw[e]at h;cases h
    | ok k' r' s' =>
      have hk:=hg _ _ _ e;rw[e]at h;dsimp only at h;split at h
      ·rename_i hh
       have ht:=tail_lt hh;cases e2:listP kn rn it n o r'.tail s' with
       | bad x=>rw[e2]at h;cases h
       | ok ms r2 s2 =>
         rw[e2]at h;simp only[PR.ok.injEq]at h;obtain⟨rfl,rfl,rfl⟩:=h;have:=h3 _ _ _ _ _ _ e2;simp only[Mk.sizeL,List.length_cons];omega
      ·simp only[PR.ok.injEq]at h;obtain⟨rfl,rfl,rfl⟩:=h;simp only[Mk.sizeL,List.length_cons,List.length_nil];omega
end
theorem jP_size {m:CatM} {n:Nat} {o:Bool} {ts r:List Tok} {st s:PSt} {k:Mk} (h:jP m n o ts st=.ok k r s):k.size<=ts.length:=by
 have:=(size_all _ _ _ n).2.1 _ _ _ _ _ _ h;omega
end
def RParseQ (w:World) (ans:PAns) (e:Ending) (w':World):Prop :=
 match ans with
 | .err a c=>e=.returned (.tuple #[.agg #[.string ⟨#[]⟩,.int .i64 0,.int .i64 0,.slice none 0 0],.int .i64 a,.int .i64 c])∧Below w.heap.size w w'
 | .mark k=>∃M:MkM,e=.returned (.tuple #[.agg #[.string M.op,.int .i64 M.a,.int .i64 M.b,.slice M.s.A M.s.n M.s.c],.int .i64 0,.int .i64 0])∧M.core=k∧M.Ok w' 35 (fun b=>w.heap.size<=b)∧Below w.heap.size w w'
theorem ans_in {T:List Tok} {cp:PR Mk} {i':Nat} {bad':Bool} {st':PSt} {k':Mk} {len:Int} (hp:RRel T cp i' bad' st' k') (hi:i'<T.length) :
 (match cp with | .bad r=>PAns.err (atOf r len) 2 | .ok k r st=>if r≠[] then .err (atOf r len) 2 else if st.1≠0 then .err st.2 st.1 else if 64<k.size∨16<k.depth then .err 0 4 else .mark k)=.err (T[i']).at_ 2:=by
 have hd:T.drop i'=T[i'] :: T.drop (i'+1):=List.drop_eq_getElem_cons hi;cases cp with
 | bad r=>obtain⟨-,rfl⟩:=hp;simp only[hd,atOf]
 | ok k r st1 =>
   obtain⟨-,rfl,-,-⟩:=hp;have h0:T.drop i'≠[]:=by rw[hd];exact List.cons_ne_nil _ _
   dsimp only;rw[if_pos h0,hd];rfl
theorem ans_bad {T:List Tok} {cp:PR Mk} {i':Nat} {st':PSt} {k':Mk} {len:Int} (hp:RRel T cp i' true st' k') (hi:T.length<=i') :
 (match cp with | .bad r=>PAns.err (atOf r len) 2 | .ok k r st=>if r≠[] then .err (atOf r len) 2 else if st.1≠0 then .err st.2 st.1 else if 64<k.size∨16<k.depth then .err 0 4 else .mark k)=.err len 2:=by
 cases cp with
 | bad r=>obtain⟨-,rfl⟩:=hp;rw[List.drop_of_length_le hi];rfl
 | ok k r st1=>exact absurd hp.1 (by decide)
theorem ans_good {T:List Tok} {cp:PR Mk} {i':Nat} {st':PSt} {k':Mk} {len:Int} (hp:RRel T cp i' false st' k') (hi:T.length<=i'):∃k,cp=.ok k [] st'∧(st'.1=0->k'=k) ∧
 (match cp with | .bad r=>PAns.err (atOf r len) 2 | .ok k r st=>if r≠[] then .err (atOf r len) 2 else if st.1≠0 then .err st.2 st.1 else if 64<k.size∨16<k.depth then .err 0 4 else .mark k)=if st'.1≠0 then .err st'.2 st'.1 else if 64<k.size∨16<k.depth then .err 0 4 else .mark k:=by
 cases cp with
 | bad r=>exact absurd hp.1 (by decide)
 | ok k r st1 =>
   obtain⟨-,h2,rfl,h4⟩:=hp;rw[List.drop_of_length_le hi]at h2;subst h2;exact⟨k,rfl,h4,by simp⟩
theorem rparse_any {w : World} {m : CatM} (s : ByteArray) (hs : s.size <= 8192) (hi : ItsV w m.si m.items) (hr : RulesV w m.sr m.rules) :
 Calls Tryz.prog 43 #[.agg #[.slice m.si.A m.si.n m.si.c,.slice m.sr.A m.sr.n m.sr.c,.slice m.st.A m.st.n m.st.c,.slice m.sx.A m.sx.n m.sx.c],.string s] w (RParseQ w (parseAll m s)):=by
 have y:Below w.heap.size w ((w.alloc (.cells #[.slice m.si.A m.si.n m.si.c,.slice m.sr.A m.sr.n m.sr.c,.slice m.st.A m.st.n m.st.c,.slice m.sx.A m.sx.n m.sx.c] 28)).alloc (.cells #[.string ⟨#[]⟩,.int .i64 0,.int .i64 0,.slice none 0 0] 35)):=((Below.refl _ _).alloc (Nat.le_refl _) _).alloc (by simp) _;have B2:=iH ((Bk.new w 28 [.slice m.si.A m.si.n m.si.c,.slice m.sr.A m.sr.n m.sr.c,.slice m.st.A m.st.n m.st.c,.slice m.sx.A m.sx.n m.sx.c]).alloc (.cells #[.string ⟨#[]⟩,.int .i64 0,.int .i64 0,.slice none 0 0] 35));have B0:Hid (Bk ((w.alloc (.cells #[.slice m.si.A m.si.n m.si.c,.slice m.sr.A m.sr.n m.sr.c,.slice m.st.A m.st.n m.st.c,.slice m.sx.A m.sx.n m.sx.c] 28)).alloc (.cells #[.string ⟨#[]⟩,.int .i64 0,.int .i64 0,.slice none 0 0] 35)) (w.heap.size+1) 35 [.string ⟨#[]⟩,.int .i64 0,.int .i64 0,.slice none 0 0]):=by
  have:=Bk.new (w.alloc (.cells #[.slice m.si.A m.si.n m.si.c,.slice m.sr.A m.sr.n m.sr.c,.slice m.st.A m.st.n m.st.c,.slice m.sx.A m.sx.n m.sx.c] 28)) 35 [.string ⟨#[]⟩,.int .i64 0,.int .i64 0,.slice none 0 0];rw[World.size_alloc]at this;exact iH this
 have KN:=iH (rtokens_any s hs ((w.alloc (.cells #[.slice m.si.A m.si.n m.si.c,.slice m.sr.A m.sr.n m.sr.c,.slice m.st.A m.st.n m.st.c,.slice m.sx.A m.sx.n m.sx.c] 28)).alloc (.cells #[.string ⟨#[]⟩,.int .i64 0,.int .i64 0,.slice none 0 0] 35)));have Y:=iH y;have HI:=iH (hi.below y);have HRu:=iH (hr.below y);clear y hi hr;go_enter Tryz.func43,Tryz.ntmps43;go_wp2_with fail;refine KN.out.mono ?_;intro e w1 hp;clear KN;unfold RTokPost at hp;rcases hp with hp|hp
 rotate_left
 ·skip
  obtain⟨init,last,hpre,hin,hl,rfl,hb⟩:=hp;have hbt:=bad_some hpre hin hl;have HR:Hid (parseAll m s=.err last.at_ last.err):=by show _=_;unfold parseAll;rw[hbt]
  have B4:=B0.out.below hb B0.out.lt;have HBr:=iH B4;have Y5:=iH (Y.out.trans (hb.mono Y.out.size));have⟨z0,z1,z2,z3,_⟩:=B4.p4;have fz0:=B4.frozen 0;have fz1:=B4.frozen 1;have fz2:=B4.frozen 2;have fz3:=B4.frozen 3;have hzl:=B4.lt;clear hbt hpre hin hb B4 B0 B2 HI HRu Y;generalize last.err=le at *;generalize last.at_=la at *;go_wp2;have HX:=four_laid HBr.out (.string ⟨#[]⟩) (.int .i64 0) (.int .i64 0) (.slice none 0 0);have YX:=four_below (w:=w1) (B:=w.heap.size) (g:=w.heap.size+1) (by omega) (.string ⟨#[]⟩) (.int .i64 0) (.int .i64 0) (.slice none 0 0);generalize(((w1.setCell ⟨w.heap.size+1,0,none⟩ (.string ⟨#[]⟩)).setCell ⟨w.heap.size+1,1,none⟩ (.int .i64 0)).setCell ⟨w.heap.size+1,2,none⟩ (.int .i64 0)).setCell ⟨w.heap.size+1,3,none⟩ (.slice none 0 0)=X at *;have⟨x0,x1,x2,x3,_⟩:=HX.p4;refine bodyPost_ret (v:=.tuple #[.agg #[.string ⟨#[]⟩,.int .i64 0,.int .i64 0,.slice none 0 0],.int .i64 la,.int .i64 le]) (by simp[results,Tryz.results43,go_sem,x0,x1,x2,x3]) rfl ?_;rw[HR.out];exact⟨rfl,Y5.out.trans YX⟩
 ·skip
  obtain⟨hz,v,rfl,hown,hb⟩:=hp;have hbt:=bad_none hz;have HP0:Hid (parseAll m s=parseA kindNs (m.rules.map RuM.name) (m.items.map It.name) s.size (toks s)):=by show _=_;unfold parseAll;rw[hbt]
  rw[parseA_eq]at HP0;have hln:(toks s).length<=8192:=by
   have:=toks_len s (skipS s 0);show(toksFrom s (skipS s 0)).length<=8192;omega
  have HTK:Hid (∀t∈toks s,t.text.size<=8192∧In64 t.num∧TokK t):=iH fun t ht=>⟨(toks_ok hs ht (hz t ht)).1,(toks_ok hs ht (hz t ht)).2,toks_kind ht (hz t ht)⟩
  have HSZ:Hid (∀k r st,jP m (5*(toks s).length+5) true (toks s) (0,0)=.ok k r st->k.size<=8192):=iH fun k r st e=>Nat.le_trans (jP_size e) hln
  change parseAll m s=(match jP m (5*(toks s).length+5) true (toks s) (0,0)with | .bad r=>PAns.err (atOf r s.size) 2 | .ok k r st=>if r≠[] then .err (atOf r s.size) 2 else if st.1≠0 then .err st.2 st.1 else if 64<k.size∨16<k.depth then .err 0 4 else .mark k)at HP0;generalize toks s=T at *;obtain⟨A,c,rfl,-⟩:=row_of_owns hown;have hlo:∀b off,A=some ⟨b,off,none⟩->b<w1.heap.size:=fun b off e=>by
   rcases hown.2 with ⟨hv,h0⟩|⟨g,cap,cur,hv,hge,hg,_⟩
   ·simp only[Value.slice.injEq]at hv;rw[hv.1]at e;cases e
   ·simp only[Value.slice.injEq]at hv;rw[hv.1]at e;cases e;exact(Array.getElem?_eq_some_iff.1 hg).1
  have HLO2:Hid (∀b off,A=some ⟨b,off,none⟩->w.heap.size+2<=b):=iH fun b off e=>by
   have:=row_base hown b (by rw[e];rfl);simpa using this
  have htr:=TRow.of_own hown;have Y1:=iH (Y.out.trans (hb.mono Y.out.size));have hs1:=hb.size;rw[World.size_alloc,World.size_alloc]at hs1;have B21:=B2.out.below hb B2.out.lt;have⟨c20,c21,c22,c23,hl2⟩:=B21.p4;clear hown;obtain⟨n,hn⟩:∃n,n=T.length:=⟨_,rfl⟩;have HLN:=iH hn;rw[<- hn]at hln HP0 HSZ;rw[<- hn];have yq:Below w1.heap.size w1 (w1.alloc (.cells #[.slice m.si.A m.si.n m.si.c,.slice m.sr.A m.sr.n m.sr.c,.slice m.st.A m.st.n m.st.c,.slice m.sx.A m.sx.n m.sx.c,.slice A n c,.int .i64 0,.bool false,.int .i64 0,.int .i64 0] 150)):=(Below.refl _ _).alloc (Nat.le_refl _) _;have HQA:Hid (QAt (w1.alloc (.cells #[.slice m.si.A m.si.n m.si.c,.slice m.sr.A m.sr.n m.sr.c,.slice m.st.A m.st.n m.st.c,.slice m.sx.A m.sx.n m.sx.c,.slice A n c,.int .i64 0,.bool false,.int .i64 0,.int .i64 0] 150)) w1.heap.size m T A n c 0 false (0,0)) :=
   iH ⟨Bk.new w1 150 [.slice m.si.A m.si.n m.si.c,.slice m.sr.A m.sr.n m.sr.c,.slice m.st.A m.st.n m.st.c,.slice m.sx.A m.sx.n m.sx.c,.slice A n c,.int .i64 0,.bool false,.int .i64 0,.int .i64 0],htr.keep (.alloc 153 w1 _),hn,hln,Nat.zero_le _,hlo,(HI.out.below hb).below yq,(HRu.out.below hb).below yq,HTK.out⟩
  have KJ:=iH ((all_rd m T A w1.heap.size n c (5*n+5)).2.2 _ 0 (0,0) HQA.out (by simp));have hb4:=B0.out.below hb B0.out.lt;have HB4:=iH (hb4.below yq hb4.lt);have Y2:=iH (Y1.out.trans (yq.mono Y1.out.size));have hpl:=HQA.out.pk.lt;rw[List.drop_zero]at KJ;clear hbt hz hb htr hlo hn B21 yq HI HRu Y Y1 B0 B2 HTK HQA hs hb4;generalize jP m (5*n+5) true T (0,0)=cp at *;have HS:=iH HP0;clear HP0;go_wp2_with fail;refine KJ.out.mono ?_;intro e w2 hpost;obtain⟨M,i',bad',st',rfl,hM,hQ,hG,hp⟩:=hpost.get;clear hpost KJ;have hs2:=hG.size;rw[World.size_alloc]at hs2;have y3:Below w2.heap.size w2 (w2.alloc (.cells #[.string M.op,.int .i64 M.a,.int .i64 M.b,.slice M.s.A M.s.n M.s.c] 35)):=(Below.refl _ _).alloc (Nat.le_refl _) _;have Y3:=iH ((Y2.out.grown hG Y2.out.size (fun g e=>by cases e;omega)).trans (y3.mono (by omega)));have B4:=(HB4.out.grown hG (by simp;omega)).alloc (.cells #[.string M.op,.int .i64 M.a,.int .i64 M.b,.slice M.s.A M.s.n M.s.c] 35);have HBr:=iH B4;have HQ3:=iH (hQ.below y3);have HBm:=iH (Bk.new w2 35 [.string M.op,.int .i64 M.a,.int .i64 M.b,.slice M.s.A M.s.n M.s.c]);have HM3:=iH ((hM.mono (Q:=fun b=>w.heap.size<=b∧b≠w.heap.size+1) fun b _ hb=>⟨by rw[World.size_alloc]at hb;omega,by rw[World.size_alloc]at hb;omega⟩).bel y3);have hle:=hQ.le;have HPR:=iH hp;have hbm:w2.heap.size<(w2.alloc (.cells #[.string M.op,.int .i64 M.a,.int .i64 M.b,.slice M.s.A M.s.n M.s.c] 35)).heap.size:=by simp
  have q0:(w2.alloc (.cells #[.string M.op,.int .i64 M.a,.int .i64 M.b,.slice M.s.A M.s.n M.s.c] 35)).cell? ⟨w1.heap.size,0,none⟩=some (.slice m.si.A m.si.n m.si.c):=HQ3.out.pk.cell 0;have q1:(w2.alloc (.cells #[.string M.op,.int .i64 M.a,.int .i64 M.b,.slice M.s.A M.s.n M.s.c] 35)).cell? ⟨w1.heap.size,1,none⟩=some (.slice m.sr.A m.sr.n m.sr.c):=HQ3.out.pk.cell 1;have q2:(w2.alloc (.cells #[.string M.op,.int .i64 M.a,.int .i64 M.b,.slice M.s.A M.s.n M.s.c] 35)).cell? ⟨w1.heap.size,2,none⟩=some (.slice m.st.A m.st.n m.st.c):=HQ3.out.pk.cell 2;have q3:(w2.alloc (.cells #[.string M.op,.int .i64 M.a,.int .i64 M.b,.slice M.s.A M.s.n M.s.c] 35)).cell? ⟨w1.heap.size,3,none⟩=some (.slice m.sx.A m.sx.n m.sx.c):=HQ3.out.pk.cell 3;have q4:(w2.alloc (.cells #[.string M.op,.int .i64 M.a,.int .i64 M.b,.slice M.s.A M.s.n M.s.c] 35)).cell? ⟨w1.heap.size,4,none⟩=some (.slice A n c):=HQ3.out.pk.cell 4;have q5:(w2.alloc (.cells #[.string M.op,.int .i64 M.a,.int .i64 M.b,.slice M.s.A M.s.n M.s.c] 35)).cell? ⟨w1.heap.size,5,none⟩=some (.int .i64 (i':Int)):=HQ3.out.pk.cell 5;have q6:(w2.alloc (.cells #[.string M.op,.int .i64 M.a,.int .i64 M.b,.slice M.s.A M.s.n M.s.c] 35)).cell? ⟨w1.heap.size,6,none⟩=some (.bool bad'):=HQ3.out.pk.cell 6;have q7:(w2.alloc (.cells #[.string M.op,.int .i64 M.a,.int .i64 M.b,.slice M.s.A M.s.n M.s.c] 35)).cell? ⟨w1.heap.size,7,none⟩=some (.int .i64 st'.1):=HQ3.out.pk.cell 7;have q8:(w2.alloc (.cells #[.string M.op,.int .i64 M.a,.int .i64 M.b,.slice M.s.A M.s.n M.s.c] 35)).cell? ⟨w1.heap.size,8,none⟩=some (.int .i64 st'.2):=HQ3.out.pk.cell 8;have ql:=HQ3.out.pk.lt;have z0:(w2.alloc (.cells #[.string M.op,.int .i64 M.a,.int .i64 M.b,.slice M.s.A M.s.n M.s.c] 35)).cell? ⟨w.heap.size+1,0,none⟩=some (.string ⟨#[]⟩):=B4.cell 0;have z1:(w2.alloc (.cells #[.string M.op,.int .i64 M.a,.int .i64 M.b,.slice M.s.A M.s.n M.s.c] 35)).cell? ⟨w.heap.size+1,1,none⟩=some (.int .i64 0):=B4.cell 1;have z2:(w2.alloc (.cells #[.string M.op,.int .i64 M.a,.int .i64 M.b,.slice M.s.A M.s.n M.s.c] 35)).cell? ⟨w.heap.size+1,2,none⟩=some (.int .i64 0):=B4.cell 2;have z3:(w2.alloc (.cells #[.string M.op,.int .i64 M.a,.int .i64 M.b,.slice M.s.A M.s.n M.s.c] 35)).cell? ⟨w.heap.size+1,3,none⟩=some (.slice none 0 0):=B4.cell 3;have fz0:=B4.frozen 0;have fz1:=B4.frozen 1;have fz2:=B4.frozen 2;have fz3:=B4.frozen 3;have hzl:=B4.lt;clear hM hQ hG hp y3 B4 HB4 Y2 hbm;go_upto_region 6 with fail;generalize hw3:(w2.alloc (.cells #[.string M.op,.int .i64 M.a,.int .i64 M.b,.slice M.s.A M.s.n M.s.c] 35))=w3 at *;clear hw3;have⟨m0,m1,m2,m3,ml⟩:=HBm.out.p4;by_cases hi:i'<n
  ·have hit:i'<T.length:=by have:=HLN.out;omega
   have HR:Hid (parseAll m s=.err (T[i']).at_ 2):=by show _=_;rw[HS.out];exact ans_in HPR.out hit
   obtain⟨bb,off,rfl,hel,hbb⟩:=HQ3.out.at_ hit;obtain⟨e0,e1,e2,e3⟩:=hel;have hbn:=HLO2.out bb off rfl;clear HS HPR HSZ;generalize T[i']=t at *;clear hit;cases bad'
   ·go_wp2
    go_region
    all_goals go_wp2
    all_goals
     have HX:=four_laid HBr.out (.string ⟨#[]⟩) (.int .i64 0) (.int .i64 0) (.slice none 0 0);have YX:=four_below (w:=w3) (B:=w.heap.size) (g:=w.heap.size+1) (by omega) (.string ⟨#[]⟩) (.int .i64 0) (.int .i64 0) (.slice none 0 0);generalize(((w3.setCell ⟨w.heap.size+1,0,none⟩ (.string ⟨#[]⟩)).setCell ⟨w.heap.size+1,1,none⟩ (.int .i64 0)).setCell ⟨w.heap.size+1,2,none⟩ (.int .i64 0)).setCell ⟨w.heap.size+1,3,none⟩ (.slice none 0 0)=X at *;have⟨x0,x1,x2,x3,_⟩:=HX.p4;refine bodyPost_ret (v:=.tuple #[.agg #[.string ⟨#[]⟩,.int .i64 0,.int .i64 0,.slice none 0 0],.int .i64 t.at_,.int .i64 2]) (by simp[results,Tryz.results43,go_sem,x0,x1,x2,x3]) rfl ?_;rw[HR.out];exact⟨rfl,(Y3.out.trans YX).drew⟩
   ·go_wp2
    go_region
    all_goals go_wp2
    all_goals
     have HX:=four_laid HBr.out (.string ⟨#[]⟩) (.int .i64 0) (.int .i64 0) (.slice none 0 0);have YX:=four_below (w:=w3) (B:=w.heap.size) (g:=w.heap.size+1) (by omega) (.string ⟨#[]⟩) (.int .i64 0) (.int .i64 0) (.slice none 0 0);generalize(((w3.setCell ⟨w.heap.size+1,0,none⟩ (.string ⟨#[]⟩)).setCell ⟨w.heap.size+1,1,none⟩ (.int .i64 0)).setCell ⟨w.heap.size+1,2,none⟩ (.int .i64 0)).setCell ⟨w.heap.size+1,3,none⟩ (.slice none 0 0)=X at *;have⟨x0,x1,x2,x3,_⟩:=HX.p4;refine bodyPost_ret (v:=.tuple #[.agg #[.string ⟨#[]⟩,.int .i64 0,.int .i64 0,.slice none 0 0],.int .i64 t.at_,.int .i64 2]) (by simp[results,Tryz.results43,go_sem,x0,x1,x2,x3]) rfl ?_;rw[HR.out];exact⟨rfl,(Y3.out.trans YX).drew⟩
  ·have hin : T.length <= i' := by have := HLN.out; omega
   cases bad'
   ·obtain⟨k,hcp,hk,he⟩:=ans_good (len:=s.size) HPR.out hin;have hsz:=HSZ.out _ _ _ hcp;have HE:Hid (parseAll m s=if st'.1≠0 then .err st'.2 st'.1 else if 64<k.size∨16<k.depth then .err 0 4 else .mark k):=by show _=_;rw[HS.out];exact he
    have HK:=iH hk;clear HS HPR HSZ hin he hcp hk;obtain⟨s1,s2⟩:=st';dsimp only at *;by_cases hs0:s1=0
    ·subst hs0;have hk:=HK.out rfl;have KS:=iH (size_any M w3 _ HM3.out (by rw[hk];omega));have KD:Hid (∀U,Below w3.heap.size w3 U->_):=iH fun U hU=>depth_any M U _ (HM3.out.bel hU) (by rw[hk];omega)
     have HE2:Hid (parseAll m s=if 64<k.size∨16<k.depth then .err 0 4 else .mark k):=by show _=_;rw[HE.out];simp
     have HKc:=iH hk;rw[hk]at KS KD;clear HE HK hk;have hks:(k.size:Int)<=8192:=by omega
     go_wp2_with fail;refine KS.out.mono ?_;rintro e w4 ⟨rfl,hb4⟩;have Y4:=iH (Y3.out.trans (hb4.mono Y3.out.size));have HBr4:=iH (HBr.out.below hb4 HBr.out.lt);have HBm4:=iH (HBm.out.below hb4 HBm.out.lt);have HM4:=iH (HM3.out.bel hb4);have KD4:=iH (KD.out w4 hb4);clear q0 q1 q2 q3 q4 q5 q6 q7 q8 ql z0 z1 z2 z3 fz0 fz1 fz2 fz3 hzl m0 m1 m2 m3 ml KS KD HM3 Y3 HQ3 hb4 c20 c21 c22 c23 HLO2;by_cases h64:64<k.size
     ·have hI:(64:Int)<k.size:=by omega
      have HR:Hid (parseAll m s=.err 0 4):=by show _=_;rw[HE2.out,if_pos (.inl h64)]
      have⟨z0,z1,z2,z3,_⟩:=HBr4.out.p4;have fz0:=HBr4.out.frozen 0;have fz1:=HBr4.out.frozen 1;have fz2:=HBr4.out.frozen 2;have fz3:=HBr4.out.frozen 3;have hzl:=HBr4.out.lt;have HBr:=HBr4;have Hh:=iH h64;clear HE2 h64 KD4;generalize k.size=ks at *;go_wp2;have HX:=four_laid HBr.out (.string ⟨#[]⟩) (.int .i64 0) (.int .i64 0) (.slice none 0 0);have YX:=four_below (w:=w4) (B:=w.heap.size) (g:=w.heap.size+1) (by omega) (.string ⟨#[]⟩) (.int .i64 0) (.int .i64 0) (.slice none 0 0);generalize(((w4.setCell ⟨w.heap.size+1,0,none⟩ (.string ⟨#[]⟩)).setCell ⟨w.heap.size+1,1,none⟩ (.int .i64 0)).setCell ⟨w.heap.size+1,2,none⟩ (.int .i64 0)).setCell ⟨w.heap.size+1,3,none⟩ (.slice none 0 0)=X at *;have⟨x0,x1,x2,x3,_⟩:=HX.p4;refine bodyPost_ret (v:=.tuple #[.agg #[.string ⟨#[]⟩,.int .i64 0,.int .i64 0,.slice none 0 0],.int .i64 0,.int .i64 4]) (by simp[results,Tryz.results43,go_sem,x0,x1,x2,x3]) rfl ?_;rw[HR.out];exact⟨rfl,Y4.out.trans YX⟩
     ·have hI:¬ (64:Int)<k.size:=by omega
      have⟨m0,m1,m2,m3,ml⟩:=HBm4.out.p4;have h64':=iH h64;have HKk:=HKc;clear h64 HKc;generalize hz:k.size=ks at *;have HZ:=iH hz;clear hz;go_wp2_with fail;refine KD4.out.mono ?_;rintro e w5 ⟨rfl,hb5⟩;have Y5:=iH (Y4.out.trans (hb5.mono Y4.out.size));have HBr:=iH (HBr4.out.below hb5 HBr4.out.lt);have HBm5:=iH (HBm4.out.below hb5 HBm4.out.lt);have HM5:=iH (HM4.out.bel hb5);clear m0 m1 m2 m3 ml KD4 hb5 HM4 Y4 HBr4 HBm4;by_cases h16:16<k.depth
      ·have hI2:(16:Int)<k.depth:=by omega
       have HR:Hid (parseAll m s=.err 0 4):=by show _=_;rw[HE2.out,if_pos (.inr h16)]
       have⟨z0,z1,z2,z3,_⟩:=HBr.out.p4;have fz0:=HBr.out.frozen 0;have fz1:=HBr.out.frozen 1;have fz2:=HBr.out.frozen 2;have fz3:=HBr.out.frozen 3;have hzl:=HBr.out.lt;have Hh:=iH h16;clear HE2 h16 HKk;generalize k.depth=kd at *;go_wp2;have HX:=four_laid HBr.out (.string ⟨#[]⟩) (.int .i64 0) (.int .i64 0) (.slice none 0 0);have YX:=four_below (w:=w5) (B:=w.heap.size) (g:=w.heap.size+1) (by omega) (.string ⟨#[]⟩) (.int .i64 0) (.int .i64 0) (.slice none 0 0);generalize(((w5.setCell ⟨w.heap.size+1,0,none⟩ (.string ⟨#[]⟩)).setCell ⟨w.heap.size+1,1,none⟩ (.int .i64 0)).setCell ⟨w.heap.size+1,2,none⟩ (.int .i64 0)).setCell ⟨w.heap.size+1,3,none⟩ (.slice none 0 0)=X at *;have⟨x0,x1,x2,x3,_⟩:=HX.p4;refine bodyPost_ret (v:=.tuple #[.agg #[.string ⟨#[]⟩,.int .i64 0,.int .i64 0,.slice none 0 0],.int .i64 0,.int .i64 4]) (by simp[results,Tryz.results43,go_sem,x0,x1,x2,x3]) rfl ?_;rw[HR.out];exact⟨rfl,Y5.out.trans YX⟩
      ·have hI2:¬ (16:Int)<k.depth:=by omega
       have HR:Hid (parseAll m s=.mark k):=by
        show _=_;rw[HE2.out,if_neg];rintro(q|q)
        ·exact h64'.out (by have:=HZ.out;omega)
        ·exact h16 q
       have⟨m0,m1,m2,m3,ml⟩:=HBm5.out.p4;have⟨z0,z1,z2,z3,_⟩:=HBr.out.p4;have fz0:=HBr.out.frozen 0;have fz1:=HBr.out.frozen 1;have fz2:=HBr.out.frozen 2;have fz3:=HBr.out.frozen 3;have hzl:=HBr.out.lt;have Hh:=iH h16;clear HE2 h16;generalize hzd:k.depth=kd at *;have HZD:=iH hzd;clear hzd;go_wp2;have hX:=lay_res (W:=w) (g:=w.heap.size+1) (by omega) HBr.out HM5.out Y5.out;generalize(((w5.setCell ⟨w.heap.size+1,0,none⟩ (.string M.op)).setCell ⟨w.heap.size+1,1,none⟩ (.int .i64 M.a)).setCell ⟨w.heap.size+1,2,none⟩ (.int .i64 M.b)).setCell ⟨w.heap.size+1,3,none⟩ (.slice M.s.A M.s.n M.s.c)=X at *;have⟨x0,x1,x2,x3,_⟩:=hX.2.2.p4;refine bodyPost_ret (v:=.tuple #[.agg #[.string M.op,.int .i64 M.a,.int .i64 M.b,.slice M.s.A M.s.n M.s.c],.int .i64 0,.int .i64 0]) (by simp[results,Tryz.results43,go_sem,x0,x1,x2,x3]) rfl ?_;rw[HR.out];exact⟨M,rfl,HKk.out,hX.1,hX.2.1⟩
    ·have HR:Hid (parseAll m s=.err s2 s1):=by show _=_;rw[HE.out,if_pos hs0]
     clear HE HK;go_wp2
     go_region
     all_goals go_wp2
     all_goals
      have HX:=four_laid HBr.out (.string ⟨#[]⟩) (.int .i64 0) (.int .i64 0) (.slice none 0 0);have YX:=four_below (w:=w3) (B:=w.heap.size) (g:=w.heap.size+1) (by omega) (.string ⟨#[]⟩) (.int .i64 0) (.int .i64 0) (.slice none 0 0);generalize(((w3.setCell ⟨w.heap.size+1,0,none⟩ (.string ⟨#[]⟩)).setCell ⟨w.heap.size+1,1,none⟩ (.int .i64 0)).setCell ⟨w.heap.size+1,2,none⟩ (.int .i64 0)).setCell ⟨w.heap.size+1,3,none⟩ (.slice none 0 0)=X at *;have⟨x0,x1,x2,x3,_⟩:=HX.p4;refine bodyPost_ret (v:=.tuple #[.agg #[.string ⟨#[]⟩,.int .i64 0,.int .i64 0,.slice none 0 0],.int .i64 s2,.int .i64 s1]) (by simp[results,Tryz.results43,go_sem,x0,x1,x2,x3]) rfl ?_;rw[HR.out];exact⟨rfl,(Y3.out.trans YX).drew⟩
   ·have HR:Hid (parseAll m s=.err s.size 2):=by show _=_;rw[HS.out];exact ans_bad HPR.out hin
    clear HS HPR HSZ hin;go_wp2;have HX:=four_laid HBr.out (.string ⟨#[]⟩) (.int .i64 0) (.int .i64 0) (.slice none 0 0);have YX:=four_below (w:=w3) (B:=w.heap.size) (g:=w.heap.size+1) (by omega) (.string ⟨#[]⟩) (.int .i64 0) (.int .i64 0) (.slice none 0 0);generalize(((w3.setCell ⟨w.heap.size+1,0,none⟩ (.string ⟨#[]⟩)).setCell ⟨w.heap.size+1,1,none⟩ (.int .i64 0)).setCell ⟨w.heap.size+1,2,none⟩ (.int .i64 0)).setCell ⟨w.heap.size+1,3,none⟩ (.slice none 0 0)=X at *;have⟨x0,x1,x2,x3,_⟩:=HX.p4;refine bodyPost_ret (v:=.tuple #[.agg #[.string ⟨#[]⟩,.int .i64 0,.int .i64 0,.slice none 0 0],.int .i64 s.size,.int .i64 2]) (by simp[results,Tryz.results43,go_sem,x0,x1,x2,x3]) rfl ?_;rw[HR.out];exact⟨rfl,Y3.out.trans YX⟩
theorem condV_sKind (s:StepM) (a b:Int):condV s sKind a b=(s.kind == a):=by
 unfold condV;rw[if_pos rfl]
theorem condV_sActor (s:StepM) (a b:Int):condV s sActor a b=(s.actor == a):=by
 unfold condV;rw[if_neg (by decide),if_pos rfl]
theorem condV_sRule (s:StepM) (a b:Int):condV s sRule a b=(s.rule == a || s.rule == wrap64 (-2-a)):=by
 unfold condV;rw[if_neg (by decide),if_neg (by decide),if_pos rfl]
theorem condV_sTick (s:StepM) (a b:Int):condV s sTick a b=(decide (a<=s.tick) && decide (s.tick<=b)):=by
 unfold condV;rw[if_neg (by decide),if_neg (by decide),if_neg (by decide),if_pos rfl]
theorem condV_sItem (s:StepM) (a b:Int):condV s sItem a b=(s.moves.any (fun v=>v.item == a)):=by
 unfold condV;rw[if_neg (by decide),if_neg (by decide),if_neg (by decide),if_neg (by decide),if_pos rfl]
theorem condV_sMore (s:StepM) (a b:Int):condV s sMore a b=(s.moves.any (fun v=>v.item == b && decide (a<v.n))):=by
 unfold condV;rw[if_neg (by decide),if_neg (by decide),if_neg (by decide),if_neg (by decide),if_neg (by decide),if_pos rfl]
theorem condV_sStep (s:StepM) (a b:Int):condV s sStep a b=(decide (a<=s.id) && decide (s.id<=b)):=by
 unfold condV;rw[if_neg (by decide),if_neg (by decide),if_neg (by decide),if_neg (by decide),if_neg (by decide),if_neg (by decide),if_pos rfl]
theorem condV_sAccount (s:StepM) (a b:Int):condV s sAccount a b=(s.moves.any (fun v=>v.from_ == a || v.to_ == a)):=by
 unfold condV;rw[if_neg (by decide),if_neg (by decide),if_neg (by decide),if_neg (by decide),if_neg (by decide),if_neg (by decide),if_neg (by decide),if_pos rfl]
theorem enT90:EntersF 90:=enter_of Tryz.func90 (by kernel_rfl) rfl
theorem enT92:EntersF 92:=enter_of Tryz.func92 (by kernel_rfl) rfl
theorem enT94:EntersF 94:=enter_of Tryz.func94 (by kernel_rfl) rfl
theorem enT97:EntersF 97:=enter_of Tryz.func97 (by kernel_rfl) rfl
theorem enT87:EntersF 87:=enter_of Tryz.func87 (by kernel_rfl) rfl
theorem enT104:EntersF 104:=enter_of Tryz.func104 (by kernel_rfl) rfl
def TestS (f:Nat) (cv:Array Value) (W:World) (op:ByteArray) (a b:Int) (A:Option Addr) (n c:Nat) (s:StepM):Prop :=
 Calls Tryz.prog f (#[.agg #[.string op,.int .i64 a,.int .i64 b,.slice A n c],.agg #[.int .i64 s.id,.int .i64 s.kind,.int .i64 s.actor,.int .i64 s.tick,.int .i64 s.rule,.int .i64 s.times,.slice s.sm.A s.sm.n s.sm.c]] ++ cv) W fun e w'=>e=.returned (.bool (condV s op a b))∧Below W.heap.size W w'
theorem tests_ok {bm k b1 b2 b3:Nat} {op:ByteArray} (h:isOp op=true) (a b:Int) (A:Option Addr) (n c:Nat) (s:StepM):∃d,condsM b1 b2 b3 op=some d∧EntersF d.f∧∀W,CondsAt W bm k b1 b2 b3->s.Ok W->TestS d.f (capsV d.cap) W op a b A n c s:=by
 have e1:condsM b1 b2 b3 sKind=some ⟨false,90,none,85,91⟩:=by unfold condsM updC;rw[if_neg (by decide),if_neg (by decide),if_neg (by decide),if_neg (by decide),if_neg (by decide),if_neg (by decide),if_neg (by decide),if_pos rfl]
 have e2:condsM b1 b2 b3 sActor=some ⟨false,92,none,85,93⟩:=by unfold condsM updC;rw[if_neg (by decide),if_neg (by decide),if_neg (by decide),if_neg (by decide),if_neg (by decide),if_neg (by decide),if_pos rfl]
 have e3:condsM b1 b2 b3 sRule=some ⟨false,94,none,95,96⟩:=by unfold condsM updC;rw[if_neg (by decide),if_neg (by decide),if_neg (by decide),if_neg (by decide),if_neg (by decide),if_pos rfl]
 have e4:condsM b1 b2 b3 sTick=some ⟨true,97,none,85,98⟩:=by unfold condsM updC;rw[if_neg (by decide),if_neg (by decide),if_neg (by decide),if_neg (by decide),if_pos rfl]
 have e5:condsM b1 b2 b3 sItem=some ⟨false,87,some b1,100,96⟩:=by unfold condsM updC;rw[if_neg (by decide),if_neg (by decide),if_neg (by decide),if_pos rfl]
 have e6:condsM b1 b2 b3 sMore=some ⟨true,87,some b2,102,103⟩:=by unfold condsM updC;rw[if_neg (by decide),if_neg (by decide),if_pos rfl]
 have e7:condsM b1 b2 b3 sStep=some ⟨true,104,none,85,98⟩:=by unfold condsM updC;rw[if_neg (by decide),if_pos rfl]
 have e8:condsM b1 b2 b3 sAccount=some ⟨false,87,some b3,85,93⟩:=by unfold condsM updC;rw[if_pos rfl]
 unfold isOp at h;simp only[Bool.or_eq_true,decide_eq_true_eq]at h;rcases h with ((((((rfl|rfl)|rfl)|rfl)|rfl)|rfl)|rfl)|rfl
 ·exact⟨_,e1,enT90,fun W _ _=>by unfold TestS;rw[condV_sKind];exact t_kind sKind a b A n c s W⟩
 ·exact⟨_,e2,enT92,fun W _ _=>by unfold TestS;rw[condV_sActor];exact t_actor sActor a b A n c s W⟩
 ·exact⟨_,e3,enT94,fun W _ _=>by unfold TestS;rw[condV_sRule];exact t_rule sRule a b A n c s W⟩
 ·exact⟨_,e4,enT97,fun W _ _=>by unfold TestS;rw[condV_sTick];exact t_tick sTick a b A n c s W⟩
 ·exact⟨_,e5,enT87,fun W hC hs=>by unfold TestS;rw[condV_sItem];exact some87 test99 sItem a b A n c s hC.f1 hs⟩
 ·exact⟨_,e6,enT87,fun W hC hs=>by unfold TestS;rw[condV_sMore];exact some87 test101 sMore a b A n c s hC.f2 hs⟩
 ·exact⟨_,e7,enT104,fun W _ _=>by unfold TestS;rw[condV_sStep];exact t_step sStep a b A n c s W⟩
 ·exact⟨_,e8,enT87,fun W hC hs=>by unfold TestS;rw[condV_sAccount];exact some87 test105 sAccount a b A n c s hC.f3 hs⟩
theorem condV_none (s:StepM) {op:ByteArray} (a b:Int) (h:isOp op=false):condV s op a b=false:=by
 unfold isOp at h;simp only[Bool.or_eq_false_iff,decide_eq_false_iff_not]at h;obtain⟨⟨⟨⟨⟨⟨⟨h1,h2⟩,h3⟩,h4⟩,h5⟩,h6⟩,h7⟩,h8⟩:=h;unfold condV;rw[if_neg h1,if_neg h2,if_neg h3,if_neg h4,if_neg h5,if_neg h6,if_neg h7,if_neg h8]
theorem val_core (M:MkM) (f:ByteArray->Int->Int->Bool):M.core.val f=if M.op=sAnd then !M.ks.any (fun t=>!t.core.val f) else if M.op=sOr then M.ks.any (fun t=>t.core.val f) else if M.op=sNot then !M.ks.any (fun t=>t.core.val f) else f M.op M.a M.b:=by
 obtain⟨op,a,b,ks,s⟩:=M;show(Mk.node op a b (MkM.coreL ks)).val f=_;have eo:(MkM.coreL ks).any (fun k=>k.val f)=ks.any (fun t=>t.core.val f):=by rw[coreL_map,List.any_map];rfl
 have ea:(MkM.coreL ks).all (fun k=>k.val f) = !ks.any (fun t=>!t.core.val f):=by rw[coreL_map,List.all_map,List.not_any_eq_all_not];simp[Function.comp_def]
 by_cases h1:op=sAnd
 ·subst h1;rw[if_pos rfl,<- ea];exact val_and ..
 rw[if_neg h1];by_cases h2:op=sOr
 ·subst h2;rw[if_pos rfl,<- eo];exact val_or ..
 rw[if_neg h2];by_cases h3:op=sNot
 ·subst h3;rw[if_pos rfl,<- eo];exact val_not ..
 rw[if_neg h3];exact val_alone a b _ (by simp only[not_or];exact⟨h1,h2⟩) h3 f
theorem match_any {bm n b1 b2 b3:Nat} (s:StepM):∀(M:MkM) (W:World) (P:Nat->Prop),M.Ok W 49 P->CondsAt W bm n b1 b2 b3->s.Ok W ->
 Calls Tryz.prog 60 #[.map (some bm),.agg #[.string M.op,.int .i64 M.a,.int .i64 M.b,.slice M.s.A M.s.n M.s.c],.agg #[.int .i64 s.id,.int .i64 s.kind,.int .i64 s.actor,.int .i64 s.tick,.int .i64 s.rule,.int .i64 s.times,.slice s.sm.A s.sm.n s.sm.c]] W fun e w'=>e=.returned (.bool (M.core.val (condV s)))∧Below W.heap.size W w':=by
 intro M
 induction M using MkM.ind with
 | h M ih =>
   intro W P h hC hs;have hmf:=hmfN;have en7:=enters107;have en9:=enters109;have y:Below W.heap.size W ((((W.alloc (.cells #[.map (some bm)] 121)).alloc (.cells #[.string M.op,.int .i64 M.a,.int .i64 M.b,.slice M.s.A M.s.n M.s.c] 49)).alloc (.cells #[.int .i64 s.id,.int .i64 s.kind,.int .i64 s.actor,.int .i64 s.tick,.int .i64 s.rule,.int .i64 s.times,.slice s.sm.A s.sm.n s.sm.c] 59)).alloc (.cells #[.func (.func 107) #[] #[.pointer (some ⟨W.heap.size,0,none⟩),.pointer (some ⟨W.heap.size+1+1,0,none⟩)]] 70)):=((((Below.refl _ _).alloc (Nat.le_refl _) _).alloc (by simp) _).alloc (by simp;omega) _).alloc (by simp;omega) _;have Bk3:Bk ((((W.alloc (.cells #[.map (some bm)] 121)).alloc (.cells #[.string M.op,.int .i64 M.a,.int .i64 M.b,.slice M.s.A M.s.n M.s.c] 49)).alloc (.cells #[.int .i64 s.id,.int .i64 s.kind,.int .i64 s.actor,.int .i64 s.tick,.int .i64 s.rule,.int .i64 s.times,.slice s.sm.A s.sm.n s.sm.c] 59)).alloc (.cells #[.func (.func 107) #[] #[.pointer (some ⟨W.heap.size,0,none⟩),.pointer (some ⟨W.heap.size+1+1,0,none⟩)]] 70)) W.heap.size 121 [.map (some bm)]:=(((Bk.new W 121 [.map (some bm)]).alloc _).alloc _).alloc _;have Bs:Bk ((((W.alloc (.cells #[.map (some bm)] 121)).alloc (.cells #[.string M.op,.int .i64 M.a,.int .i64 M.b,.slice M.s.A M.s.n M.s.c] 49)).alloc (.cells #[.int .i64 s.id,.int .i64 s.kind,.int .i64 s.actor,.int .i64 s.tick,.int .i64 s.rule,.int .i64 s.times,.slice s.sm.A s.sm.n s.sm.c] 59)).alloc (.cells #[.func (.func 107) #[] #[.pointer (some ⟨W.heap.size,0,none⟩),.pointer (some ⟨W.heap.size+1+1,0,none⟩)]] 70)) (W.heap.size+1+1) 59 s.cells:=by
    have:=(Bk.new ((W.alloc (.cells #[.map (some bm)] 121)).alloc (.cells #[.string M.op,.int .i64 M.a,.int .i64 M.b,.slice M.s.A M.s.n M.s.c] 49)) 59 s.cells).alloc (.cells #[.func (.func 107) #[] #[.pointer (some ⟨W.heap.size,0,none⟩),.pointer (some ⟨W.heap.size+1+1,0,none⟩)]] 70);rw[World.size_alloc,World.size_alloc]at this;exact this
   have B7:Bk ((((W.alloc (.cells #[.map (some bm)] 121)).alloc (.cells #[.string M.op,.int .i64 M.a,.int .i64 M.b,.slice M.s.A M.s.n M.s.c] 49)).alloc (.cells #[.int .i64 s.id,.int .i64 s.kind,.int .i64 s.actor,.int .i64 s.tick,.int .i64 s.rule,.int .i64 s.times,.slice s.sm.A s.sm.n s.sm.c] 59)).alloc (.cells #[.func (.func 107) #[] #[.pointer (some ⟨W.heap.size,0,none⟩),.pointer (some ⟨W.heap.size+1+1,0,none⟩)]] 70)) (W.heap.size+1+1+1) 70 [.func (.func 107) #[] #[.pointer (some ⟨W.heap.size,0,none⟩),.pointer (some ⟨W.heap.size+1+1,0,none⟩)]]:=by
    have:=Bk.new (((W.alloc (.cells #[.map (some bm)] 121)).alloc (.cells #[.string M.op,.int .i64 M.a,.int .i64 M.b,.slice M.s.A M.s.n M.s.c] 49)).alloc (.cells #[.int .i64 s.id,.int .i64 s.kind,.int .i64 s.actor,.int .i64 s.tick,.int .i64 s.rule,.int .i64 s.times,.slice s.sm.A s.sm.n s.sm.c] 59)) 70 [.func (.func 107) #[] #[.pointer (some ⟨W.heap.size,0,none⟩),.pointer (some ⟨W.heap.size+1+1,0,none⟩)]];rw[World.size_alloc,World.size_alloc,World.size_alloc]at this;exact this
   have hkid:∀t∈M.ks,∀W',Below (((((W.alloc (.cells #[.map (some bm)] 121)).alloc (.cells #[.string M.op,.int .i64 M.a,.int .i64 M.b,.slice M.s.A M.s.n M.s.c] 49)).alloc (.cells #[.int .i64 s.id,.int .i64 s.kind,.int .i64 s.actor,.int .i64 s.tick,.int .i64 s.rule,.int .i64 s.times,.slice s.sm.A s.sm.n s.sm.c] 59)).alloc (.cells #[.func (.func 107) #[] #[.pointer (some ⟨W.heap.size,0,none⟩),.pointer (some ⟨W.heap.size+1+1,0,none⟩)]] 70))).heap.size ((((W.alloc (.cells #[.map (some bm)] 121)).alloc (.cells #[.string M.op,.int .i64 M.a,.int .i64 M.b,.slice M.s.A M.s.n M.s.c] 49)).alloc (.cells #[.int .i64 s.id,.int .i64 s.kind,.int .i64 s.actor,.int .i64 s.tick,.int .i64 s.rule,.int .i64 s.times,.slice s.sm.A s.sm.n s.sm.c] 59)).alloc (.cells #[.func (.func 107) #[] #[.pointer (some ⟨W.heap.size,0,none⟩),.pointer (some ⟨W.heap.size+1+1,0,none⟩)]] 70)) W'->Calls Tryz.prog 107 (#[.agg #[.string t.op,.int .i64 t.a,.int .i64 t.b,.slice t.s.A t.s.n t.s.c]] ++ #[.pointer (some ⟨W.heap.size,0,none⟩),.pointer (some ⟨W.heap.size+1+1,0,none⟩)]) W' fun e w'=>e=.returned (.bool (t.core.val (condV s)))∧Below W'.heap.size W' w':=fun t ht W' hW' =>
    kid_any t s _ (Bk3.below hW' Bk3.lt) (Bs.below hW' Bs.lt) (iH fun W2 h2=>ih t ht W2 P ((((h.bel y).each t ht).bel hW').bel h2) (((hC.below y).below hW').below h2) (((hs.below y).below hW').below h2))
   have KO:=iH (has_mk 107 #[.pointer (some ⟨W.heap.size,0,none⟩),.pointer (some ⟨W.heap.size+1+1,0,none⟩)] enters107 (fun t=>t.core.val (condV s)) (h.bel y) (iH fun t W' ht hW'=>hkid t ht W' hW'));have KA:=iH (has_mk 109 #[.pointer (some ⟨W.heap.size+1+1+1,0,none⟩)] enters109 (fun t=>!t.core.val (condV s)) (h.bel y) (iH fun t W' ht hW'=>nkid_any t _ ((B7.below hW' B7.lt).cell 0) (B7.below hW' B7.lt).lt (iH fun W2 h2=>hkid t ht W2 (hW'.trans (h2.mono hW'.size)))));have hV:=val_core M (condV s);have q1:(M.op.toList == [97,110,100])=decide (M.op=sAnd):=by rw[<- lAnd];exact eqL _ _
   have q2:(M.op.toList == [111,114])=decide (M.op=sOr):=by rw[<- lOr];exact eqL _ _
   have q3:(M.op.toList == [110,111,116])=decide (M.op=sNot):=by rw[<- lNot];exact eqL _ _
   have Y:=iH y;have hop:=h.hop;clear hkid Bk3 Bs B7 ih;generalize M.ks.any (fun t=>t.core.val (condV s))=vo at *;generalize M.ks.any (fun t=>!t.core.val (condV s))=va at *;by_cases e1:M.op=sAnd
   ·rw[if_pos e1]at hV;rw[decide_eq_true e1]at q1;have HV:=iH hV;clear e1 q2 q3 hV KO hC hs h y;go_enter Tryz.func60,Tryz.ntmps60;go_wp2_with fail;refine KA.out.mono ?_;rintro e w1 ⟨rfl,hb⟩;have YY:=iH (Y.out.trans (hb.mono Y.out.size));clear KA hb;go_wp2;go_ret;exact⟨by rw[HV.out];rfl,YY.out⟩
   rw[if_neg e1]at hV;rw[decide_eq_false e1]at q1;by_cases e2:M.op=sOr
   ·rw[if_pos e2]at hV;rw[decide_eq_true e2]at q2;have HV:=iH hV;clear e1 e2 q3 hV KA hC hs h y;go_enter Tryz.func60,Tryz.ntmps60;go_wp2_with fail;refine KO.out.mono ?_;rintro e w1 ⟨rfl,hb⟩;have YY:=iH (Y.out.trans (hb.mono Y.out.size));clear KO hb;go_wp2;go_ret;exact⟨by rw[HV.out];rfl,YY.out⟩
   rw[if_neg e2]at hV;rw[decide_eq_false e2]at q2;by_cases e3:M.op=sNot
   ·rw[if_pos e3]at hV;rw[decide_eq_true e3]at q3;have HV:=iH hV;clear e1 e2 e3 hV KA hC hs h y;go_enter Tryz.func60,Tryz.ntmps60;go_wp2_with fail;refine KO.out.mono ?_;rintro e w1 ⟨rfl,hb⟩;have YY:=iH (Y.out.trans (hb.mono Y.out.size));clear KO hb;go_wp2;go_ret;exact⟨by rw[HV.out];rfl,YY.out⟩
   rw[if_neg e3]at hV;rw[decide_eq_false e3]at q3;have hlook:=(hC.below y).map.look_ok (s:=M.op) (by unfold maxLen;omega);have HV:=iH hV;clear e1 e2 e3 hV KA KO;cases ho:isOp M.op
   ·have hz:condsM b1 b2 b3 M.op=none:=by
     have:=condsM_is b1 b2 b3 M.op;rw[ho]at this;cases hc:condsM b1 b2 b3 M.op with
     | none=>rfl
     | some c=>rw[hc]at this;cases this
    rw[hz]at hlook;change(Instr.lookup 121 (.map (some bm)) (.string M.op) true).run Tryz.prog _=.ok (.tuple #[.agg #[.bool false,.nilFunc,.nilFunc,.nilFunc],.bool false]) _ at hlook;have HN:=iH (condV_none s M.a M.b ho);have YY:Hid (Below W.heap.size W ((((((W.alloc (.cells #[.map (some bm)] 121)).alloc (.cells #[.string M.op,.int .i64 M.a,.int .i64 M.b,.slice M.s.A M.s.n M.s.c] 49)).alloc (.cells #[.int .i64 s.id,.int .i64 s.kind,.int .i64 s.actor,.int .i64 s.tick,.int .i64 s.rule,.int .i64 s.times,.slice s.sm.A s.sm.n s.sm.c] 59)).alloc (.cells #[.func (.func 107) #[] #[.pointer (some ⟨W.heap.size,0,none⟩),.pointer (some ⟨W.heap.size+1+1,0,none⟩)]] 70))).alloc (.cells #[.bool false,.nilFunc,.nilFunc,.nilFunc] 169))):=iH (y.alloc (by simp;omega) _);clear ho hz hC hs h y;go_enter Tryz.func60,Tryz.ntmps60;go_wp2;go_ret;exact⟨by rw[HV.out,HN.out];rfl,YY.out⟩
   ·obtain⟨⟨u,f,cap,nm,rg⟩,hc,hen,htest⟩:=tests_ok (bm:=bm) (k:=n) (b1:=b1) (b2:=b2) (b3:=b3) ho M.a M.b M.s.A M.s.n M.s.c s;dsimp only at hen htest;rw[hc]at hlook;change(Instr.lookup 121 (.map (some bm)) (.string M.op) true).run Tryz.prog _=.ok (.tuple #[.agg #[.bool u,.func (.func f) #[] (capsV cap),.func (.func nm) #[] #[],.func (.func rg) #[] #[]],.bool true]) _ at hlook;generalize capsV cap=cv at *;have y2:=y.alloc (by simp;omega) (.cells #[.bool u,.func (.func f) #[] cv,.func (.func nm) #[] #[],.func (.func rg) #[] #[]] 169);have KT:Hid (TestS f cv _ M.op M.a M.b M.s.A M.s.n M.s.c s):=iH (htest _ (hC.below y2) (hs.below y2));have hen':∀(args:Array Value) (W:World),(callFunc f args).run Tryz.prog W=.ok (.enter f args) W:=hen;have YY:=iH y2;clear hc hen htest ho hC hs h y y2;go_enter Tryz.func60,Tryz.ntmps60;go_wp2_with fail;refine(show Calls _ _ _ _ _ from KT.out).mono ?_;rintro e w1 ⟨rfl,hb⟩;have Y3:=iH (YY.out.trans (hb.mono YY.out.size));clear KT hb;go_wp2;go_ret;exact⟨by rw[HV.out];rfl,Y3.out⟩
theorem In64.le {x:Int} (h:In64 x) : -9223372036854775808<=x∧x<=9223372036854775807:=h
def EqS (M:MkM):Prop:=∀(M2:MkM) (w:World) (P Q:Nat->Prop),M.Ok w 35 P->M2.Ok w 35 Q->M.core=M2.core ->
 Calls Tryz.prog 29 #[.agg #[.string M.op,.int .i64 M.a,.int .i64 M.b,.slice M.s.A M.s.n M.s.c],.agg #[.string M2.op,.int .i64 M2.a,.int .i64 M2.b,.slice M2.s.A M2.s.n M2.s.c]] w fun e w'=>e=.returned (.bool true)∧Below w.heap.size w w'
theorem requal_any:∀M:MkM,EqS M:=by
 intro M
 induction M using MkM.ind with
 | h M ih =>
   intro M2 w P Q h h2 hc;have Hn:=iH h.len;have Hn2:=iH h2.len;have H:=iH h;have H2:=iH h2;have hs0:=h.small;have HI:=iH ih;obtain⟨op,a,b,l,s0⟩:=M;obtain⟨op2,a2,b2',l2,s2⟩:=M2;simp only[MkM.core,Mk.node.injEq,coreL_map]at hc;obtain⟨rfl,rfl,rfl,hl⟩:=hc;dsimp only[MkM.ks,MkM.s,MkM.op,MkM.a,MkM.b]at *;have hlen:l.length=l2.length:=by have:=congrArg List.length hl;simpa using this
   obtain⟨A,n,c⟩:=s0;obtain⟨A',n',c'⟩:=s2;dsimp only at *;have hnn:n'=n:=by have:=Hn.out;have:=Hn2.out;omega
   subst hnn;have HL:=iH hl;have y:Below w.heap.size w ((w.alloc (.cells #[.string op,.int .i64 a,.int .i64 b,.slice A n' c] 35)).alloc (.cells #[.string op,.int .i64 a,.int .i64 b,.slice A' n' c'] 35)):=((Below.refl _ _).alloc (Nat.le_refl _) _).alloc (by simp) _;have Y:=iH y;have B0:=iH ((Bk.new w 35 [.string op,.int .i64 a,.int .i64 b,.slice A n' c]).alloc (.cells #[.string op,.int .i64 a,.int .i64 b,.slice A' n' c'] 35));have B1:Hid (Bk ((w.alloc (.cells #[.string op,.int .i64 a,.int .i64 b,.slice A n' c] 35)).alloc (.cells #[.string op,.int .i64 a,.int .i64 b,.slice A' n' c'] 35)) (w.heap.size+1) 35 [.string op,.int .i64 a,.int .i64 b,.slice A' n' c']):=by
    have:=Bk.new (w.alloc (.cells #[.string op,.int .i64 a,.int .i64 b,.slice A n' c] 35)) 35 [.string op,.int .i64 a,.int .i64 b,.slice A' n' c'];rw[World.size_alloc]at this;exact iH this
   have qo:(op.toList != op.toList)=false:=by simp
   have qa:(a != a)=false:=by simp
   have qb:(b != b)=false:=by simp
   have qn:((n':Int) != (n':Int))=false:=by simp
   clear h h2 ih y hl hlen;go_enter Tryz.func29,Tryz.ntmps29;go_wp2_with fail;go_loopw [5] (fun i wr=>∃k:Nat,k<=n'∧i=.int .i64 k∧Below w.heap.size w wr∧Bk wr w.heap.size 35 [.string op,.int .i64 a,.int .i64 b,.slice A n' c]∧Bk wr (w.heap.size+1) 35 [.string op,.int .i64 a,.int .i64 b,.slice A' n' c']) (fun i _=>n'-(intOf i).toNat)
   case atStart=>exact⟨0,Nat.zero_le _,rfl,Y.out,B0.out,B1.out⟩
   case round =>
    obtain⟨k,hk,rfl,hb,hx,hz⟩:=hrel;have HB:=iH hb;have HX:=iH hx;have HZ:=iH hz;have hsz:=hb.size;have hxl:=hx.lt;have hzl:=hz.lt;have x3:=hx.k3;have z3:=hz.k3;clear hb hx hz;by_cases hlt:k<n'
    ·have hkl:k<l.length:=by have:=Hn.out;omega
     have hkl2:k<l2.length:=by have:=Hn2.out;omega
     obtain⟨bb,off,hA,cb,c0,c1,c2,c3⟩:=H.out.at_ k hkl;dsimp only[MkM.ks,MkM.s]at hA c0 c1 c2 c3;subst hA;obtain⟨b2,o2,hA,db,d0,d1,d2,d3⟩:=H2.out.at_ k hkl2;dsimp only[MkM.ks,MkM.s]at hA d0 d1 d2 d3;subst hA;have HKC:Hid (∀U,Below w.heap.size w U->((U.cell? ⟨bb,off+k*4,none⟩=some (.string l[k].op)∧U.cell? ⟨bb,off+k*4+1,none⟩=some (.int .i64 l[k].a)∧U.cell? ⟨bb,off+k*4+2,none⟩=some (.int .i64 l[k].b)∧U.cell? ⟨bb,off+k*4+3,none⟩=some (.slice l[k].s.A l[k].s.n l[k].s.c))∧bb<U.heap.size)∧((U.cell? ⟨b2,o2+k*4,none⟩=some (.string l2[k].op)∧U.cell? ⟨b2,o2+k*4+1,none⟩=some (.int .i64 l2[k].a)∧U.cell? ⟨b2,o2+k*4+2,none⟩=some (.int .i64 l2[k].b)∧U.cell? ⟨b2,o2+k*4+3,none⟩=some (.slice l2[k].s.A l2[k].s.n l2[k].s.c))∧b2<U.heap.size)):=iH fun U hU=>⟨⟨⟨(hU.cell (p:=⟨bb,off+k*4,none⟩) cb).trans c0,(hU.cell (p:=⟨bb,off+k*4+1,none⟩) cb).trans c1,(hU.cell (p:=⟨bb,off+k*4+2,none⟩) cb).trans c2,(hU.cell (p:=⟨bb,off+k*4+3,none⟩) cb).trans c3⟩,Nat.lt_of_lt_of_le cb hU.size⟩,⟨⟨(hU.cell (p:=⟨b2,o2+k*4,none⟩) db).trans d0,(hU.cell (p:=⟨b2,o2+k*4+1,none⟩) db).trans d1,(hU.cell (p:=⟨b2,o2+k*4+2,none⟩) db).trans d2,(hU.cell (p:=⟨b2,o2+k*4+3,none⟩) db).trans d3⟩,Nat.lt_of_lt_of_le db hU.size⟩⟩
     have hcc:l[k].core=l2[k].core:=by
      have:=congrArg (fun x:List Mk=>x[k]?) HL.out;simpa[hkl,hkl2]using this
     have HC:=iH (HI.out l[k] (List.getElem_mem hkl) l2[k] wr.drew P Q ((H.out.bel HB.out.drew).each l[k] (List.getElem_mem hkl)) ((H2.out.bel HB.out.drew).each l2[k] (List.getElem_mem hkl2)) hcc);clear c0 c1 c2 c3 cb d0 d1 d2 d3 db hcc;generalize l[k]=t at *;generalize l2[k]=u at *;clear hkl hkl2;go_wp2;refine wp_region_X (fun w'=>(Bk w' w.heap.size 35 [.string op,.int .i64 a,.int .i64 b,.slice (some ⟨bb,off,none⟩) n' c]∧Bk w' (w.heap.size+1) 35 [.string op,.int .i64 a,.int .i64 b,.slice (some ⟨b2,o2,none⟩) n' c'])∧(((w'.cell? ⟨bb,off+k*4,none⟩=some (.string t.op)∧w'.cell? ⟨bb,off+k*4+1,none⟩=some (.int .i64 t.a)∧w'.cell? ⟨bb,off+k*4+2,none⟩=some (.int .i64 t.b)∧w'.cell? ⟨bb,off+k*4+3,none⟩=some (.slice t.s.A t.s.n t.s.c))∧bb<w'.heap.size)∧((w'.cell? ⟨b2,o2+k*4,none⟩=some (.string u.op)∧w'.cell? ⟨b2,o2+k*4+1,none⟩=some (.int .i64 u.a)∧w'.cell? ⟨b2,o2+k*4+2,none⟩=some (.int .i64 u.b)∧w'.cell? ⟨b2,o2+k*4+3,none⟩=some (.slice u.s.A u.s.n u.s.c))∧b2<w'.heap.size))) 12 (n:=12) rfl (by kernel_rfl) (⟨⟨HX.out.drew,HZ.out.drew⟩,HKC.out _ HB.out.drew⟩) (fun hS=>?_);refine uT 0 41 hS ?_;refine uT 1 42 hS ?_ (hy:=fun w' hS'=>by have e3:=hS'.1.1.k3;have el:=hS'.1.1.lt;(go_simp;try with_reducible rfl));refine uT 2 43 hS ?_;refine uT 3 44 hS ?_;refine uT 4 45 hS ?_ (hy:=fun w' hS'=>by have e0:=hS'.2.1.1.1;have e1:=hS'.2.1.1.2.1;have e2:=hS'.2.1.1.2.2.1;have e3:=hS'.2.1.1.2.2.2;have el:=hS'.2.1.2;(go_simp;try with_reducible rfl));refine uT 5 46 hS ?_;refine uT 6 47 hS ?_ (hy:=fun w' hS'=>by have e3:=hS'.1.2.k3;have el:=hS'.1.2.lt;(go_simp;try with_reducible rfl));refine uT 7 48 hS ?_;refine uT 8 49 hS ?_;refine uT 9 50 hS ?_ (hy:=fun w' hS'=>by have e0:=hS'.2.2.1.1;have e1:=hS'.2.2.1.2.1;have e2:=hS'.2.2.1.2.2.1;have e3:=hS'.2.2.1.2.2.2;have el:=hS'.2.2.2;(go_simp;try with_reducible rfl));refine X_o 10 rfl fun K hK=>?_;go_simp;(with_reducible refine HC.out.mono ?_);rintro e w1 ⟨rfl,hb⟩;have hd:=(Below.refl wr.heap.size wr).drew.trans hb;have HB1:=iH (HB.out.trans (hd.mono HB.out.size));have HX1:=iH (HX.out.below hd HX.out.lt);have HZ1:=iH (HZ.out.below hd HZ.out.lt);refine hK _ _ ⟨⟨HX1.out,HZ1.out⟩,HKC.out _ HB1.out⟩ ?_;clear hK HC hb hd;refine X_o 11 rfl fun K hK=>?_;go_simp;refine hK _ _ ⟨⟨HX1.out,HZ1.out⟩,HKC.out _ HB1.out⟩ ?_;clear hK;refine X_done (by kernel_rfl) ?_;clear hS;go_wp2;go_roundw
     case rel=>exact⟨k+1,by omega,by go_num,HB1.out,HX1.out,HZ1.out⟩
     case measure=>simp[intOf];omega
    ·have hkn:k=n':=by omega
     clear hkn;go_wp2;go_ret;exact⟨rfl,HB.out⟩
end Go.Proofs.YtocodlpgaamblaaGreatDoor
