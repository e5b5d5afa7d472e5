/- The reference reads a condition with numbers. -/
import Derived.Test.YtocodlpgaamblaaGreatDoorN12
set_option linter.unusedVariables false
set_option linter.unusedSimpArgs false
set_option maxRecDepth 100000
set_option maxHeartbeats 8000000
open Go.RowKit
namespace Go.Proofs.YtocodlpgaamblaaGreatDoor
theorem tk_bad {T:List Tok} {k:Int} {s:ByteArray} {i:Nat}:tk T k s i true=(zeroTok,i,true):=by cases hT:T[i]? <;> simp[tk]
theorem tk_none {T:List Tok} {k:Int} {s:ByteArray} {i:Nat} (h:T[i]? = none):tk T k s i false=(zeroTok,i,true):=by simp[tk,h]
theorem drop_some {T:List Tok} {i:Nat} {t:Tok} (h:T[i]? = some t):T.drop i=t :: T.drop (i+1):=by
 have hl:i<T.length:=(List.getElem?_eq_some_iff.1 h).1;rw[List.drop_eq_getElem_cons hl];rw[List.getElem?_eq_getElem hl]at h;rw[Option.some.inj h]
theorem drop_none {T:List Tok} {i:Nat} (h:T[i]? = none):T.drop i=[]:=List.drop_of_length_le (List.getElem?_eq_none_iff.1 h)
theorem tk_num {T:List Tok} {i:Nat} {u:Tok} {i2:Nat} {b2:Bool} (h:tk T 1 ⟨#[]⟩ i false=(u,i2,b2)) :
 (b2=true∧i2=i∧(T.drop i=[]∨∃t,T.drop i=t :: T.drop (i+1)∧t.kind≠1))∨(b2=false∧i2=i+1∧T.drop i=u :: T.drop (i+1)∧u.kind=1):=by
 cases hT:T[i]? with
 | none =>
   rw[tk_none hT]at h;simp only[Prod.mk.injEq]at h;exact .inl ⟨h.2.2.symm,h.2.1.symm,.inl (drop_none hT)⟩
 | some t =>
   have hd:=drop_some hT;simp only[tk,hT,true_or,and_true]at h;by_cases hk:t.kind=1
   ·rw[if_pos hk]at h;simp only[Prod.mk.injEq]at h;exact .inr ⟨h.2.2.symm,h.2.1.symm,by rw[hd,h.1],by rw[<- h.1];exact hk⟩
   ·rw[if_neg hk]at h;simp only[Prod.mk.injEq]at h;exact .inl ⟨h.2.2.symm,h.2.1.symm,.inr ⟨t,hd,hk⟩⟩
theorem tk_dot {T:List Tok} {i:Nat} {u:Tok} {i2:Nat} {b2:Bool} (h:tk T 2 sDot i false=(u,i2,b2)) :
 (b2=true∧i2=i∧headB (T.drop i) 2 sDot=false)∨(b2=false∧i2=i+1∧headB (T.drop i) 2 sDot=true∧(T.drop i).tail=T.drop (i+1)):=by
 cases hT:T[i]? with
 | none =>
   rw[tk_none hT]at h;simp only[Prod.mk.injEq]at h;exact .inl ⟨h.2.2.symm,h.2.1.symm,by rw[drop_none hT];rfl⟩
 | some t =>
   have hd:=drop_some hT;have hne:(sDot=⟨#[]⟩)=False:=by decide
   simp only[tk,hT,hne,false_or]at h;rw[hd];by_cases hk:t.kind=2∧t.text=sDot
   ·rw[if_pos hk]at h;simp only[Prod.mk.injEq]at h;exact .inr ⟨h.2.2.symm,h.2.1.symm,by simp[headB,hk],rfl⟩
   ·rw[if_neg hk]at h;simp only[Prod.mk.injEq]at h;refine .inl ⟨h.2.2.symm,h.2.1.symm,?_⟩;simp only[headB,Bool.and_eq_false_iff,beq_eq_false_iff_ne,decide_eq_false_iff_not];by_cases h2:t.kind=2
    ·exact .inr fun e=>hk ⟨h2,e⟩
    ·exact .inl h2
theorem nums_rel1 {op:ByteArray} {T:List Tok} {i:Nat} {st:PSt} {u:Tok} {i2:Nat} {b2:Bool} {st':PSt} (ho:isTwo op=false) (h:tk T 1 ⟨#[]⟩ (i+1) false=(u,i2,b2)) (hs:st'=if rangeOk op u.num 0 then st else st.note 5 u.at_) :
 match numsP op (T.drop (i+1)) st with
 | .bad r=>b2=true∧T.drop i2=r
 | .ok k r st1=>b2=false∧T.drop i2=r∧st'=st1∧(st1.1=0->Mk.node op u.num 0 []=k):=by
 rcases tk_num h with ⟨rfl,rfl,h1⟩|⟨rfl,rfl,h1,h2⟩
 ·rcases h1 with h1 | ⟨t,h1,h2⟩
  ·rw[h1];exact⟨by first | rfl | trivial,by first | exact h1 | rfl⟩
  ·rw[h1];simp only[numsP];rw[if_pos h2];exact⟨by first | rfl | trivial,by first | exact h1 | rfl⟩
 ·rw[h1];simp only[numsP,ho];rw[if_neg (by simpa using h2),if_neg (by simp)];exact⟨by first | rfl | trivial,by first | rfl | trivial,hs,fun _=>rfl⟩
theorem nums_rel2 {op:ByteArray} {T:List Tok} {i:Nat} {st:PSt} {u d1 d2 v:Tok} {i2 i3 i4 i5:Nat} {b2 b3 b4 b5:Bool} {st':PSt} (ho:isTwo op=true) (h:tk T 1 ⟨#[]⟩ (i+1) false=(u,i2,b2)) (h3:tk T 2 sDot i2 b2=(d1,i3,b3)) (h4:tk T 2 sDot i3 b3=(d2,i4,b4)) (h5:tk T 1 ⟨#[]⟩ i4 b4=(v,i5,b5)) (hs:st'=if rangeOk op u.num v.num then st else st.note 5 v.at_) :
 match numsP op (T.drop (i+1)) st with
 | .bad r=>b5=true∧T.drop i5=r
 | .ok k r st1=>b5=false∧T.drop i5=r∧st'=st1∧(st1.1=0->Mk.node op u.num v.num []=k):=by
 have bad:∀(j:Nat) (b:Bool) (k:Int) (s:ByteArray) (u:Tok) (j':Nat) (b':Bool),b=true->tk T k s j b=(u,j',b')->b'=true∧j'=j:=fun j b k s u j' b' hb ht=>by
  subst hb;rw[tk_bad]at ht;simp only[Prod.mk.injEq]at ht;exact⟨ht.2.2.symm,ht.2.1.symm⟩
 rcases tk_num h with ⟨e1,e2,h1⟩|⟨rfl,rfl,h1,h2⟩
 ·obtain⟨f1,f2⟩:=bad _ _ _ _ _ _ _ e1 h3;obtain⟨g1,g2⟩:=bad _ _ _ _ _ _ _ f1 h4;obtain⟨k1,k2⟩:=bad _ _ _ _ _ _ _ g1 h5;subst k2 g2 f2 e2;rcases h1 with h1|⟨t,h1,h2⟩
  ·rw[h1];exact⟨k1,by first | exact h1 | rfl⟩
  ·rw[h1];simp only[numsP];rw[if_pos h2];exact⟨k1,by first | exact h1 | rfl⟩
 ·rw [h1];simp only[numsP,ho];rw[if_neg (by simpa using h2),if_pos trivial];rcases tk_dot h3 with ⟨e1,e2,e3⟩|⟨rfl,rfl,e3,e4⟩
  ·obtain⟨g1,g2⟩:=bad _ _ _ _ _ _ _ e1 h4;obtain⟨k1,k2⟩:=bad _ _ _ _ _ _ _ g1 h5;subst k2 g2 e2;rw[if_pos e3];exact⟨k1,rfl⟩
  ·rw [if_neg (by rw [e3]; simp), e4];rcases tk_dot h4 with ⟨g1,g2,g3⟩|⟨rfl,rfl,g3,g4⟩
   ·obtain⟨k1,k2⟩:=bad _ _ _ _ _ _ _ g1 h5;subst k2 g2;rw[if_pos g3];exact⟨k1,rfl⟩
   ·rw[if_neg (by rw[g3];simp),g4];rcases tk_num h5 with ⟨rfl,rfl,k1⟩|⟨rfl,rfl,k1,k2⟩
    ·rcases k1 with k1 | ⟨t,k1,k2⟩
     ·rw[k1];exact⟨by first | rfl | trivial,by first | exact k1 | rfl⟩
     ·rw[k1];dsimp only;rw[if_pos k2];exact⟨by first | rfl | trivial,by first | exact k1 | rfl⟩
    ·rw[k1];dsimp only;rw[if_neg (by simpa using k2)];exact⟨by first | rfl | trivial,by first | rfl | trivial,hs,fun _=>rfl⟩
def moreP (it:List ByteArray) (ts:List Tok) (st:PSt):PR Mk:=match ts with | []=>.bad [] | u :: r2=>if u.kind≠1 then .bad (u :: r2) else nameP it (fun z=>.node sMore u.num z []) r2 st
theorem more_rel {it:List ByteArray} {T:List Tok} {i:Nat} {st:PSt} {u v:Tok} {i2 i3:Nat} {b2 b3:Bool} {K:Mk} (h:tk T 1 ⟨#[]⟩ (i+1) false=(u,i2,b2)) (h3:tk T 0 ⟨#[]⟩ i2 b2=(v,i3,b3)) (hK:∀j,nameIx it v.text=some j->K=.node sMore u.num j []) :
 match moreP it (T.drop (i+1)) st with
 | .bad r=>b3=true∧T.drop i3=r
 | .ok k r st1=>b3=false∧T.drop i3=r∧nameSt it v st=st1∧(st1.1=0->K=k):=by
 rcases tk_num h with ⟨e1,e2,h1⟩|⟨rfl,rfl,h1,h2⟩
 ·subst e1;rw[tk_bad]at h3;simp only[Prod.mk.injEq]at h3;obtain⟨-,rfl,rfl⟩:=h3;subst e2;rcases h1 with h1|⟨t,h1,h2⟩
  ·rw[h1];exact⟨by first | rfl | trivial,by first | exact h1 | rfl⟩
  ·rw[h1];simp only[moreP];rw[if_pos h2];exact⟨by first | rfl | trivial,by first | exact h1 | rfl⟩
 ·rw[h1];simp only[moreP];rw[if_neg (by simpa using h2)];exact named_rel (i:=i+1) h3 hK
theorem own5_one {ni nr:Nat} {op:ByteArray} {a:Int} (ho:op=sActor∨op=sAccount):(aloneE ni nr op a 0 0=5)=(rangeOk op a 0=false):=by
 rcases ho with rfl|rfl
 ·simp only[aloneE,rangeOk,namesOk,rangeK,isTwo,isOp,usesB,(by decide:(sActor=sAnd)=False),(by decide:(sActor=sOr)=False),(by decide:(sActor=sNot)=False),(by decide:(sActor=sKind)=False),(by decide:(sActor=sRule)=False),(by decide:(sActor=sItem)=False),(by decide:(sActor=sMore)=False),(by decide:(sActor=sTick)=False),(by decide:(sActor=sStep)=False),(by decide:(sActor=sAccount)=False)];simp
  try omega
 ·simp only[aloneE,rangeOk,namesOk,rangeK,isTwo,isOp,usesB,(by decide:(sAccount=sAnd)=False),(by decide:(sAccount=sOr)=False),(by decide:(sAccount=sNot)=False),(by decide:(sAccount=sKind)=False),(by decide:(sAccount=sRule)=False),(by decide:(sAccount=sItem)=False),(by decide:(sAccount=sMore)=False),(by decide:(sAccount=sTick)=False),(by decide:(sAccount=sStep)=False),(by decide:(sAccount=sActor)=False)];simp
  try omega
theorem own5_two {ni nr:Nat} {op:ByteArray} {a b:Int} (ho:op=sTick∨op=sStep):(aloneE ni nr op a b 0=5)=(rangeOk op a b=false):=by
 rcases ho with rfl|rfl
 ·simp only[aloneE,rangeOk,namesOk,rangeK,isTwo,isOp,usesB,(by decide:(sTick=sAnd)=False),(by decide:(sTick=sOr)=False),(by decide:(sTick=sNot)=False),(by decide:(sTick=sKind)=False),(by decide:(sTick=sRule)=False),(by decide:(sTick=sItem)=False),(by decide:(sTick=sMore)=False),(by decide:(sTick=sActor)=False),(by decide:(sTick=sStep)=False),(by decide:(sTick=sAccount)=False)];simp
  try omega
 ·simp only[aloneE,rangeOk,namesOk,rangeK,isTwo,isOp,usesB,(by decide:(sStep=sAnd)=False),(by decide:(sStep=sOr)=False),(by decide:(sStep=sNot)=False),(by decide:(sStep=sKind)=False),(by decide:(sStep=sRule)=False),(by decide:(sStep=sItem)=False),(by decide:(sStep=sMore)=False),(by decide:(sStep=sTick)=False),(by decide:(sStep=sActor)=False),(by decide:(sStep=sAccount)=False)];simp
  try omega
theorem cond_Actor {W:World} {pb:Nat} {m:CatM} {T:List Tok} {A:Option Addr} {n c i:Nat} {st:PSt} {t:Tok} (h:QAt W pb m T A n c i false st) (hi:i<n) (ht:T[i]? = some t) (hop:t.text=sActor) :
 Calls Tryz.prog 135 #[.pointer (some ⟨pb,0,none⟩)] W (RPost W pb m T A n c (condP kindNs (m.rules.map RuM.name) (m.items.map It.name) (T.drop i) st)):=by
 have H:=iH h;have hpl:=h.pk.lt;have hfew:=h.few;have hit:i<T.length:=by have:=h.len;omega
 obtain⟨bb,off,rfl,hel,hbb⟩:=h.at_ hit;have HEL:Hid (∀w',Below W.heap.size W w'->((w'.cell? ⟨bb,off+i*4,none⟩=some (.int .i64 T[i].kind)∧w'.cell? ⟨bb,off+i*4+1,none⟩=some (.string T[i].text)∧w'.cell? ⟨bb,off+i*4+2,none⟩=some (.int .i64 T[i].num)∧w'.cell? ⟨bb,off+i*4+3,none⟩=some (.int .i64 T[i].at_))∧bb<w'.heap.size)):=iH fun U hU =>
  ⟨⟨(hU.cell (p:=⟨bb,off+i*4,none⟩) hbb).trans hel.1,(hU.cell (p:=⟨bb,off+i*4+1,none⟩) hbb).trans hel.2.1,(hU.cell (p:=⟨bb,off+i*4+2,none⟩) hbb).trans hel.2.2.1,(hU.cell (p:=⟨bb,off+i*4+3,none⟩) hbb).trans hel.2.2.2⟩,Nat.lt_of_lt_of_le hbb hU.size⟩
 have hiI:(i:Int)<n:=by omega
 have hni:¬ n<=i:=by omega
 have hnI:(n:Int)<=8192:=by omega
 have htt:T[i]=t:=by rw[List.getElem?_eq_getElem hit]at ht;exact Option.some.inj ht
 rw[htt]at HEL;have y1:Below W.heap.size W (W.alloc (.cells #[.string ⟨#[]⟩,.int .i64 0,.int .i64 0,.slice none 0 0] 35)):=(Below.refl _ _).alloc (Nat.le_refl _) _;have Y1:=iH y1;have H1:=iH (h.below y1);have HR:=iH (Bk.new W 35 [.string ⟨#[]⟩,.int .i64 0,.int .i64 0,.slice none 0 0]);have HTK:=iH (h.toks t (by rw[<- htt];exact List.getElem_mem hit));clear hel hbb htt y1 h;have HQ:Hid (T.drop i=t :: T.drop (i+1)):=iH (by rw[List.drop_eq_getElem_cons hit];rw[List.getElem?_eq_getElem hit]at ht;rw[Option.some.inj ht]);have hio:isOp t.text=true:=by rw[hop];decide
 have hk0:t.kind=0:=HTK.out.2.2.1 (by rw[hop];decide);have HX:Hid (¬ ixOf condNs t.text<0):=iH (by rw[ix_isOp,hio];simp);have qKind:(t.text.toList == [107,105,110,100])=false:=by rw[hop,<- lKind',eqL];decide
 have qActor:(t.text.toList == [97,99,116,111,114])=true:=by rw[hop,<- lActor',eqL];decide
 have qRule:(t.text.toList == [114,117,108,101])=false:=by rw[hop,<- lRule',eqL];decide
 have qTick:(t.text.toList == [116,105,99,107])=false:=by rw[hop,<- lTick',eqL];decide
 have qItem:(t.text.toList == [105,116,101,109])=false:=by rw[hop,<- lItem',eqL];decide
 have qMore:(t.text.toList == [109,111,114,101])=false:=by rw[hop,<- lMore',eqL];decide
 have qStep:(t.text.toList == [115,116,101,112])=false:=by rw[hop,<- lStep',eqL];decide
 have qAccount:(t.text.toList == [97,99,99,111,117,110,116])=false:=by rw[hop,<- lAccount',eqL];decide
 have HOP:=iH hop;clear hit hio hop;have HR0:condP kindNs (m.rules.map RuM.name) (m.items.map It.name) (T.drop i) st=numsP t.text (T.drop (i+1)) st:=by
  rw[HQ.out];simp only[condP];rw[if_neg (by rw[hk0,HOP.out];decide),if_neg (by rw[HOP.out];decide),if_neg (by rw[HOP.out];decide),if_neg (by rw[HOP.out];decide),if_neg (by rw[HOP.out];decide)]
 rw[HR0];clear HR0;go_enter Tryz.func135,Tryz.ntmps135;go_wp2;refine wp_region_X (fun w'=>Bk w' pb 150 [.slice m.si.A m.si.n m.si.c,.slice m.sr.A m.sr.n m.sr.c,.slice m.st.A m.st.n m.st.c,.slice m.sx.A m.sx.n m.sx.c,.slice (some ⟨bb,off,none⟩) n c,.int .i64 (i:Int),.bool false,.int .i64 st.1,.int .i64 st.2]∧((w'.cell? ⟨bb,off+i*4,none⟩=some (.int .i64 t.kind)∧w'.cell? ⟨bb,off+i*4+1,none⟩=some (.string t.text)∧w'.cell? ⟨bb,off+i*4+2,none⟩=some (.int .i64 t.num)∧w'.cell? ⟨bb,off+i*4+3,none⟩=some (.int .i64 t.at_))∧bb<w'.heap.size)) 26 (n:=26) rfl (by kernel_rfl) (⟨H1.out.pk.drew,HEL.out _ Y1.out.drew⟩) (fun hS=>?_);refine tU 0 (some 12) (v:=?_) rfl ⟨rfl,?_⟩ hS ?_;rotate_left
 ·intro w' hS';(go_simp;try with_reducible rfl)
 simp only[Act.put,Pa,Pb,Pc];refine tU 1 (some 13) (v:=?_) rfl ⟨rfl,?_⟩ hS ?_;rotate_left
 ·intro w' hS';(go_simp;try with_reducible rfl)
 simp only[Act.put,Pa,Pb,Pc];refine tU 2 (some 14) (v:=?_) rfl ⟨rfl,?_⟩ hS ?_;rotate_left
 ·intro w' hS';(go_simp;try with_reducible rfl)
 simp only[Act.put,Pa,Pb,Pc];refine tU 3 (some 15) (v:=?_) rfl ⟨rfl,?_⟩ hS ?_;rotate_left
 ·intro w' hS';have e0:=hS'.1.k0;have e1:=hS'.1.k1;have e2:=hS'.1.k2;have e3:=hS'.1.k3;have e4:=hS'.1.k4;have e5:=hS'.1.k5;have e6:=hS'.1.k6;have e7:=hS'.1.k7;have e8:=hS'.1.k8;have el:=hS'.1.lt;have t0:=hS'.2.1.1;have t1:=hS'.2.1.2.1;have t2:=hS'.2.1.2.2.1;have t3:=hS'.2.1.2.2.2;have tl:=hS'.2.2;(go_simp;try with_reducible rfl)
 simp only[Act.put,Pa,Pb,Pc];refine tU 4 (some 16) (v:=?_) rfl ⟨rfl,?_⟩ hS ?_;rotate_left
 ·intro w' hS';(go_simp;try with_reducible rfl)
 simp only[Act.put,Pa,Pb,Pc];refine tU 5 (some 17) (v:=?_) rfl ⟨rfl,?_⟩ hS ?_;rotate_left
 ·intro w' hS';(go_simp;try with_reducible rfl)
 simp only[Act.put,Pa,Pb,Pc];refine tU 6 (some 18) (v:=?_) rfl ⟨rfl,?_⟩ hS ?_;rotate_left
 ·intro w' hS';(go_simp;try with_reducible rfl)
 simp only[Act.put,Pa,Pb,Pc];refine tU 7 (some 19) (v:=?_) rfl ⟨rfl,?_⟩ hS ?_;rotate_left
 ·intro w' hS';have e0:=hS'.1.k0;have e1:=hS'.1.k1;have e2:=hS'.1.k2;have e3:=hS'.1.k3;have e4:=hS'.1.k4;have e5:=hS'.1.k5;have e6:=hS'.1.k6;have e7:=hS'.1.k7;have e8:=hS'.1.k8;have el:=hS'.1.lt;have t0:=hS'.2.1.1;have t1:=hS'.2.1.2.1;have t2:=hS'.2.1.2.2.1;have t3:=hS'.2.1.2.2.2;have tl:=hS'.2.2;(go_simp;try with_reducible rfl)
 simp only[Act.put,Pa,Pb,Pc];refine tU 8 (some 20) (v:=?_) rfl ⟨rfl,?_⟩ hS ?_;rotate_left
 ·intro w' hS';(go_simp;try with_reducible rfl)
 simp only[Act.put,Pa,Pb,Pc];refine tU 9 (some 21) (v:=?_) rfl ⟨rfl,?_⟩ hS ?_;rotate_left
 ·intro w' hS';(go_simp;try with_reducible rfl)
 simp only[Act.put,Pa,Pb,Pc];refine tU 10 (some 22) (v:=?_) rfl ⟨rfl,?_⟩ hS ?_;rotate_left
 ·intro w' hS';(go_simp;try with_reducible rfl)
 simp only[Act.put,Pa,Pb,Pc];refine tU 12 (some 24) (v:=?_) rfl ⟨rfl,?_⟩ hS ?_;rotate_left
 ·intro w' hS';(go_simp;try with_reducible rfl)
 simp only[Act.put,Pa,Pb,Pc];refine tU 13 (some 25) (v:=?_) rfl ⟨rfl,?_⟩ hS ?_;rotate_left
 ·intro w' hS';(go_simp;try with_reducible rfl)
 simp only[Act.put,Pa,Pb,Pc];refine tU 14 (some 26) (v:=?_) rfl ⟨rfl,?_⟩ hS ?_;rotate_left
 ·intro w' hS';(go_simp;try with_reducible rfl)
 simp only[Act.put,Pa,Pb,Pc];refine tU 15 (some 27) (v:=?_) rfl ⟨rfl,?_⟩ hS ?_;rotate_left
 ·intro w' hS';have e0:=hS'.1.k0;have e1:=hS'.1.k1;have e2:=hS'.1.k2;have e3:=hS'.1.k3;have e4:=hS'.1.k4;have e5:=hS'.1.k5;have e6:=hS'.1.k6;have e7:=hS'.1.k7;have e8:=hS'.1.k8;have el:=hS'.1.lt;have t0:=hS'.2.1.1;have t1:=hS'.2.1.2.1;have t2:=hS'.2.1.2.2.1;have t3:=hS'.2.1.2.2.2;have tl:=hS'.2.2;(go_simp;try with_reducible rfl)
 simp only[Act.put,Pa,Pb,Pc];refine tU 16 (some 28) (v:=?_) rfl ⟨rfl,?_⟩ hS ?_;rotate_left
 ·intro w' hS';(go_simp;try with_reducible rfl)
 simp only[Act.put,Pa,Pb,Pc];refine tU 17 (some 29) (v:=?_) rfl ⟨rfl,?_⟩ hS ?_;rotate_left
 ·intro w' hS';(go_simp;try with_reducible rfl)
 simp only[Act.put,Pa,Pb,Pc];refine tU 18 (some 30) (v:=?_) rfl ⟨rfl,?_⟩ hS ?_;rotate_left
 ·intro w' hS';(go_simp;try with_reducible rfl)
 simp only[Act.put,Pa,Pb,Pc];refine tU 19 (some 31) (v:=?_) rfl ⟨rfl,?_⟩ hS ?_;rotate_left
 ·intro w' hS';have e0:=hS'.1.k0;have e1:=hS'.1.k1;have e2:=hS'.1.k2;have e3:=hS'.1.k3;have e4:=hS'.1.k4;have e5:=hS'.1.k5;have e6:=hS'.1.k6;have e7:=hS'.1.k7;have e8:=hS'.1.k8;have el:=hS'.1.lt;have t0:=hS'.2.1.1;have t1:=hS'.2.1.2.1;have t2:=hS'.2.1.2.2.1;have t3:=hS'.2.1.2.2.2;have tl:=hS'.2.2;(go_simp;try with_reducible rfl)
 simp only[Act.put,Pa,Pb,Pc];refine tU 20 (some 32) (v:=?_) rfl ⟨rfl,?_⟩ hS ?_;rotate_left
 ·intro w' hS';(go_simp;try with_reducible rfl)
 simp only[Act.put,Pa,Pb,Pc];refine tU 21 (some 33) (v:=?_) rfl ⟨rfl,?_⟩ hS ?_;rotate_left
 ·intro w' hS';(go_simp;try with_reducible rfl)
 simp only[Act.put,Pa,Pb,Pc];refine tU 22 (some 34) (v:=?_) rfl ⟨rfl,?_⟩ hS ?_;rotate_left
 ·intro w' hS';have e0:=hS'.1.k0;have e1:=hS'.1.k1;have e2:=hS'.1.k2;have e3:=hS'.1.k3;have e4:=hS'.1.k4;have e5:=hS'.1.k5;have e6:=hS'.1.k6;have e7:=hS'.1.k7;have e8:=hS'.1.k8;have el:=hS'.1.lt;have t0:=hS'.2.1.1;have t1:=hS'.2.1.2.1;have t2:=hS'.2.1.2.2.1;have t3:=hS'.2.1.2.2.2;have tl:=hS'.2.2;(go_simp;try with_reducible rfl)
 simp only[Act.put,Pa,Pb,Pc];refine X_o 11 rfl fun K hK=>?_;go_simp;have K1:=iH (condNs_any (W.alloc (.cells #[.string ⟨#[]⟩,.int .i64 0,.int .i64 0,.slice none 0 0] 35)).drew);(with_reducible refine K1.out.mono ?_);rintro e w2 ⟨A1,n1,c1,rfl,hnm,hb⟩;have hd:=(Below.refl (W.alloc (.cells #[.string ⟨#[]⟩,.int .i64 0,.int .i64 0,.slice none 0 0] 35)).heap.size (W.alloc (.cells #[.string ⟨#[]⟩,.int .i64 0,.int .i64 0,.slice none 0 0] 35))).drew.trans hb;have Y2:=iH (Y1.out.trans (hd.mono Y1.out.size));have H2:=iH (H1.out.below hd);have HR2:=iH (HR.out.below hd HR.out.lt);have HNM:=iH hnm;refine hK _ _ ⟨H2.out.pk,HEL.out _ Y2.out⟩ ?_;clear hK K1 hnm hb hd;refine X_o 23 rfl fun K hK=>?_;go_simp;have K1:=iH (rindex_any (c:=c1) t.text HNM.out);(with_reducible refine K1.out.mono ?_);rintro e w2 ⟨rfl,rfl⟩;refine hK _ _ ⟨H2.out.pk,HEL.out _ Y2.out⟩ ?_;clear hK K1 HNM;refine tU 24 (some 36) (v:=?_) rfl ⟨rfl,?_⟩ ⟨H2.out.pk,HEL.out _ Y2.out⟩ ?_;rotate_left
 ·intro w' hS';(go_simp;try with_reducible rfl)
 simp only[Act.put,Pa,Pb,Pc];refine tU 25 (some 37) (v:=?_) rfl ⟨rfl,?_⟩ ⟨H2.out.pk,HEL.out _ Y2.out⟩ ?_;rotate_left
 ·intro w' hS';(go_simp;try with_reducible rfl)
 simp only[Act.put,Pa,Pb,Pc];refine X_done (by kernel_rfl) ?_;clear hS;have hx1:¬ ixOf condNs t.text<0:=by have:=HX.out;omega
 generalize ixOf condNs t.text=ix at *;have KT:=iH (take_yes 0 ⟨#[]⟩ H2.out hi ht hk0 (.inl rfl));rw[hk0]at KT;have hfd:=fun w=>field153 0 t.num t.at_ t.text w
 go_wp2_with fail;refine KT.out.mono ?_;rintro e w3 ⟨rfl,hq,hg⟩;have H3:=iH hq;have HR3:=iH (HR2.out.grown hg (by simp;omega));have HG3:=iH (grown_trans (grown_of_below Y2.out (some pb)) hg);have y4:Below w3.heap.size w3 (w3.alloc (.cells #[.string t.text,.int .i64 0,.int .i64 0,.slice none 0 0] 35)):=(Below.refl _ _).alloc (Nat.le_refl _) _;have H4:=iH (hq.below y4);have HR4:=iH (HR3.out.below y4 HR3.out.lt);have HB4:=iH (Bk.new w3 35 [.string t.text,.int .i64 0,.int .i64 0,.slice none 0 0]);have HG4:=iH (grown_trans HG3.out (grown_of_below y4 _));have hp3:pb<w3.heap.size:=hq.pk.lt;have hr3:W.heap.size<w3.heap.size:=HR3.out.lt;have b40:(w3.alloc (.cells #[.string t.text,.int .i64 0,.int .i64 0,.slice none 0 0] 35)).cell? ⟨w3.heap.size,0,none⟩=some (.string t.text):=HB4.out.cell 0;have b4l:=HB4.out.lt;clear KT hq hg y4 H2 HR2 Y2 H3 HR3 HG3 HX hx1;have KU:=iH (take_rd 1 ⟨#[]⟩ H4.out);go_wp2_with fail;refine KU.out.mono ?_;rintro e w5 ⟨u,i2,b2,htk,rfl,hq,hg,huszu,hunu⟩;have HTK2:=iH htk;have hn5:w3.heap.size<w5.heap.size:=Nat.lt_of_lt_of_le b4l hg.size;have y6:Below w5.heap.size w5 (w5.alloc (.cells #[.int .i64 u.kind,.string u.text,.int .i64 u.num,.int .i64 u.at_] 153)):=(Below.refl _ _).alloc (Nat.le_refl _) _;have H6:=iH (hq.below y6);have HR5:=HR4.out.grown hg (by simp;omega);have HB5:=HB4.out.grown hg (by simp;omega);have HR6:=iH (HR5.below y6 HR5.lt);have HB6:=iH (HB5.below y6 HB5.lt);have HT6:=iH (Bk.new w5 153 [.int .i64 u.kind,.string u.text,.int .i64 u.num,.int .i64 u.at_]);have HG6:=iH (grown_trans (grown_trans HG4.out hg) (grown_of_below y6 _));clear KU htk hq hg y6 H4 HR4 HB4 HG4 HR5 HB5 b40 b4l;go_upto_region 8 with fail;generalize(w5.alloc (.cells #[.int .i64 u.kind,.string u.text,.int .i64 u.num,.int .i64 u.at_] 153))=w6 at *;have u0:=HT6.out.k0;have u1:=HT6.out.k1;have u2:=HT6.out.k2;have u3:=HT6.out.k3;have ul:=HT6.out.lt;have m0:=HB6.out.k0;have m1:=HB6.out.k1;have m2:=HB6.out.k2;have m3:=HB6.out.k3;have ml:=HB6.out.lt;have mf:=HB6.out.frozen 1;go_upto_region 39 with fail;have HB8:=iH (HB6.out.set 1 (.int .i64 u.num));have HR8:=iH (HR6.out.setOther (b:=w3.heap.size) (k:=1) (u:=.int .i64 u.num) (by omega));have H8:=iH (H6.out.far (k:=1) HB6.out hp3 (by decide) (by decide) (by decide) (.int .i64 u.num));have HG8:=iH (grown_fresh (k:=1) (u:=.int .i64 u.num) HG6.out (by omega:W.heap.size<=w3.heap.size));have HTS:Hid (t.text.size<=8192):=iH HTK.out.1;have HIA:=iH hunu;have HIB:Hid (In64 0):=iH ⟨by decide,by decide⟩;have HOPO:t.text=sActor∨t.text=sAccount:=by rw[HOP.out];first | exact .inl rfl | exact .inr rfl
 have HISTWO:isTwo t.text=false:=by rw[HOP.out];decide
 clear H6 HR6 HB6 HT6 HG6 u0 u1 u2 u3 ul m0 m1 m2 m3 ml mf;generalize(w6.setCell ⟨w3.heap.size,1,none⟩ (.int .i64 u.num))=w8 at *;refine wp_region_X (fun w'=>Bk w' pb 150 [.slice m.si.A m.si.n m.si.c,.slice m.sr.A m.sr.n m.sr.c,.slice m.st.A m.st.n m.st.c,.slice m.sx.A m.sx.n m.sx.c,.slice (some ⟨bb,off,none⟩) n c,.int .i64 (i2:Int),.bool b2,.int .i64 st.1,.int .i64 st.2]∧Bk w' w3.heap.size 35 [.string t.text,.int .i64 u.num,.int .i64 0,.slice none 0 0]) 7 (n:=7) rfl (by kernel_rfl) (⟨H8.out.drew.pk,HB8.out.drew⟩) (fun hS=>?_);refine tU 0 (some 149) (v:=?_) rfl ⟨rfl,?_⟩ hS ?_;rotate_left
 ·intro w' hS';(go_simp;try with_reducible rfl)
 simp only[Act.put,Pa,Pb,Pc];refine tU 1 (some 150) (v:=?_) rfl ⟨rfl,?_⟩ hS ?_;rotate_left
 ·intro w' hS';(go_simp;try with_reducible rfl)
 simp only[Act.put,Pa,Pb,Pc];refine tU 2 (some 151) (v:=?_) rfl ⟨rfl,?_⟩ hS ?_;rotate_left
 ·intro w' hS';(go_simp;try with_reducible rfl)
 simp only[Act.put,Pa,Pb,Pc];refine tU 3 (some 152) (v:=?_) rfl ⟨rfl,?_⟩ hS ?_;rotate_left
 ·intro w' hS';have e0:=hS'.1.k0;have e1:=hS'.1.k1;have e2:=hS'.1.k2;have e3:=hS'.1.k3;have e4:=hS'.1.k4;have e5:=hS'.1.k5;have e6:=hS'.1.k6;have e7:=hS'.1.k7;have e8:=hS'.1.k8;have el:=hS'.1.lt;have v0:=hS'.2.k0;have v1:=hS'.2.k1;have v2:=hS'.2.k2;have v3:=hS'.2.k3;have vl:=hS'.2.lt;(go_simp;try with_reducible rfl)
 simp only[Act.put,Pa,Pb,Pc];refine tU 4 (some 153) (v:=?_) rfl ⟨rfl,?_⟩ hS ?_;rotate_left
 ·intro w' hS';have e0:=hS'.1.k0;have e1:=hS'.1.k1;have e2:=hS'.1.k2;have e3:=hS'.1.k3;have e4:=hS'.1.k4;have e5:=hS'.1.k5;have e6:=hS'.1.k6;have e7:=hS'.1.k7;have e8:=hS'.1.k8;have el:=hS'.1.lt;have v0:=hS'.2.k0;have v1:=hS'.2.k1;have v2:=hS'.2.k2;have v3:=hS'.2.k3;have vl:=hS'.2.lt;(go_simp;try with_reducible rfl)
 simp only[Act.put,Pa,Pb,Pc];refine X_o 5 rfl fun K hK=>?_;go_simp;have K1:=iH (rown_any (w:=w8.drew) t.text u.num 0 none 0 0 m.si m.sr m.st m.sx (by omega) (by have:=H8.out.its.small;omega) (by have:=H8.out.rus.small;omega));have HE:=iH (own5_one (ni:=m.si.n) (nr:=m.sr.n) (a:=u.num) HOPO);generalize aloneE m.si.n m.sr.n t.text u.num 0 0=E at *;(with_reducible refine K1.out.mono ?_);rintro e wa ⟨rfl,hb⟩;have hd:=(Below.refl w8.heap.size w8).drew.trans hb;have Ha:=iH (H8.out.below hd);have HRa:=iH (HR8.out.below hd HR8.out.lt);have HBa:=iH (HB8.out.below hd HB8.out.lt);have HGa:=iH (grown_trans HG8.out (grown_of_below hd _));refine hK _ _ ⟨Ha.out.pk,HBa.out⟩ ?_;clear hK K1 hb hd H8 HR8 HB8 HG8;refine tU 6 (some 155) (v:=?_) rfl ⟨rfl,?_⟩ ⟨Ha.out.pk,HBa.out⟩ ?_;rotate_left
 ·intro w' hS';(go_simp;try with_reducible rfl)
 simp only[Act.put,Pa,Pb,Pc];refine X_done (by kernel_rfl) ?_;clear hS;by_cases hE:E=5
 ·have hrg:rangeOk t.text u.num 0=false:=HE.out.mp hE;have HREL:=iH (nums_rel1 (st:=st) (st':=st.note 5 u.at_) HISTWO HTK2.out (by rw[hrg];rfl));subst hE;have KF:=iH (fail_rd 5 u.at_ Ha.out);clear hrg HE;go_wp2_with fail;refine KF.out.mono ?_;rintro e w9 ⟨rfl,hq,hg⟩;have HQA:=iH hq;have HB:=iH (HBa.out.grown hg (by simp;omega));have HR:=iH (HRa.out.grown hg (by simp;omega));have HGA:=iH (grown_trans HGa.out hg);clear KF hq hg Ha HRa HBa HGa;have m0:=HB.out.k0;have m1:=HB.out.k1;have m2:=HB.out.k2;have m3:=HB.out.k3;have ml:=HB.out.lt;have r0:=HR.out.k0;have r1:=HR.out.k1;have r2:=HR.out.k2;have r3:=HR.out.k3;have rl:=HR.out.lt;have rf0:=HR.out.frozen 0;have rf1:=HR.out.frozen 1;have rf2:=HR.out.frozen 2;have rf3:=HR.out.frozen 3;go_wp2;have hX:=lay_mq (M:=⟨t.text,u.num,0,[],⟨none,0,0⟩⟩) HR.out HQA.out HGA.out (by omega) (Nat.le_refl _) (leaf_mk _ _ HTS.out HIA.out HIB.out);dsimp only at hX;generalize((((w9.setCell ⟨W.heap.size,0,none⟩ (.string t.text)).setCell ⟨W.heap.size,1,none⟩ (.int .i64 u.num)).setCell ⟨W.heap.size,2,none⟩ (.int .i64 0)).setCell ⟨W.heap.size,3,none⟩ (.slice none 0 0))=X at *;have HXB:=hX.2.2.2;have xx0:=HXB.k0;have xx1:=HXB.k1;have xx2:=HXB.k2;have xx3:=HXB.k3;refine bodyPost_ret (v:=.agg #[.string t.text,.int .i64 u.num,.int .i64 0,.slice none 0 0]) (by simp[results,Tryz.results135,go_sem,xx0,xx1,xx2,xx3]) rfl ?_;exact⟨⟨t.text,u.num,0,[],⟨none,0,0⟩⟩,i2,b2,(st.note 5 u.at_),rfl,hX.1,hX.2.1,hX.2.2.1,HREL.out⟩
 ·have hE1:(E == 5)=false:=by simpa using hE
  have hrg:rangeOk t.text u.num 0=true:=by
   cases hq:rangeOk t.text u.num 0 with
   | true=>rfl
   | false=>exact absurd (HE.out.mpr hq) hE
  have HREL:=iH (nums_rel1 (st:=st) (st':=st) HISTWO HTK2.out (by rw[hrg];rfl));have HQA:=Ha;have HB:=HBa;have HR:=HRa;have HGA:=HGa;clear hrg HE hE Ha HRa HBa HGa;have m0:=HB.out.k0;have m1:=HB.out.k1;have m2:=HB.out.k2;have m3:=HB.out.k3;have ml:=HB.out.lt;have r0:=HR.out.k0;have r1:=HR.out.k1;have r2:=HR.out.k2;have r3:=HR.out.k3;have rl:=HR.out.lt;have rf0:=HR.out.frozen 0;have rf1:=HR.out.frozen 1;have rf2:=HR.out.frozen 2;have rf3:=HR.out.frozen 3;go_wp2;have hX:=lay_mq (M:=⟨t.text,u.num,0,[],⟨none,0,0⟩⟩) HR.out HQA.out HGA.out (by omega) (Nat.le_refl _) (leaf_mk _ _ HTS.out HIA.out HIB.out);dsimp only at hX;generalize((((wa.setCell ⟨W.heap.size,0,none⟩ (.string t.text)).setCell ⟨W.heap.size,1,none⟩ (.int .i64 u.num)).setCell ⟨W.heap.size,2,none⟩ (.int .i64 0)).setCell ⟨W.heap.size,3,none⟩ (.slice none 0 0))=X at *;have HXB:=hX.2.2.2;have xx0:=HXB.k0;have xx1:=HXB.k1;have xx2:=HXB.k2;have xx3:=HXB.k3;refine bodyPost_ret (v:=.agg #[.string t.text,.int .i64 u.num,.int .i64 0,.slice none 0 0]) (by simp[results,Tryz.results135,go_sem,xx0,xx1,xx2,xx3]) rfl ?_;exact⟨⟨t.text,u.num,0,[],⟨none,0,0⟩⟩,i2,b2,st,rfl,hX.1,hX.2.1,hX.2.2.1,HREL.out⟩
theorem cond_Account {W:World} {pb:Nat} {m:CatM} {T:List Tok} {A:Option Addr} {n c i:Nat} {st:PSt} {t:Tok} (h:QAt W pb m T A n c i false st) (hi:i<n) (ht:T[i]? = some t) (hop:t.text=sAccount) :
 Calls Tryz.prog 135 #[.pointer (some ⟨pb,0,none⟩)] W (RPost W pb m T A n c (condP kindNs (m.rules.map RuM.name) (m.items.map It.name) (T.drop i) st)):=by
 have H:=iH h;have hpl:=h.pk.lt;have hfew:=h.few;have hit:i<T.length:=by have:=h.len;omega
 obtain⟨bb,off,rfl,hel,hbb⟩:=h.at_ hit;have HEL:Hid (∀w',Below W.heap.size W w'->((w'.cell? ⟨bb,off+i*4,none⟩=some (.int .i64 T[i].kind)∧w'.cell? ⟨bb,off+i*4+1,none⟩=some (.string T[i].text)∧w'.cell? ⟨bb,off+i*4+2,none⟩=some (.int .i64 T[i].num)∧w'.cell? ⟨bb,off+i*4+3,none⟩=some (.int .i64 T[i].at_))∧bb<w'.heap.size)):=iH fun U hU =>
  ⟨⟨(hU.cell (p:=⟨bb,off+i*4,none⟩) hbb).trans hel.1,(hU.cell (p:=⟨bb,off+i*4+1,none⟩) hbb).trans hel.2.1,(hU.cell (p:=⟨bb,off+i*4+2,none⟩) hbb).trans hel.2.2.1,(hU.cell (p:=⟨bb,off+i*4+3,none⟩) hbb).trans hel.2.2.2⟩,Nat.lt_of_lt_of_le hbb hU.size⟩
 have hiI:(i:Int)<n:=by omega
 have hni:¬ n<=i:=by omega
 have hnI:(n:Int)<=8192:=by omega
 have htt:T[i]=t:=by rw[List.getElem?_eq_getElem hit]at ht;exact Option.some.inj ht
 rw[htt]at HEL;have y1:Below W.heap.size W (W.alloc (.cells #[.string ⟨#[]⟩,.int .i64 0,.int .i64 0,.slice none 0 0] 35)):=(Below.refl _ _).alloc (Nat.le_refl _) _;have Y1:=iH y1;have H1:=iH (h.below y1);have HR:=iH (Bk.new W 35 [.string ⟨#[]⟩,.int .i64 0,.int .i64 0,.slice none 0 0]);have HTK:=iH (h.toks t (by rw[<- htt];exact List.getElem_mem hit));clear hel hbb htt y1 h;have HQ:Hid (T.drop i=t :: T.drop (i+1)):=iH (by rw[List.drop_eq_getElem_cons hit];rw[List.getElem?_eq_getElem hit]at ht;rw[Option.some.inj ht]);have hio:isOp t.text=true:=by rw[hop];decide
 have hk0:t.kind=0:=HTK.out.2.2.1 (by rw[hop];decide);have HX:Hid (¬ ixOf condNs t.text<0):=iH (by rw[ix_isOp,hio];simp);have qKind:(t.text.toList == [107,105,110,100])=false:=by rw[hop,<- lKind',eqL];decide
 have qActor:(t.text.toList == [97,99,116,111,114])=false:=by rw[hop,<- lActor',eqL];decide
 have qRule:(t.text.toList == [114,117,108,101])=false:=by rw[hop,<- lRule',eqL];decide
 have qTick:(t.text.toList == [116,105,99,107])=false:=by rw[hop,<- lTick',eqL];decide
 have qItem:(t.text.toList == [105,116,101,109])=false:=by rw[hop,<- lItem',eqL];decide
 have qMore:(t.text.toList == [109,111,114,101])=false:=by rw[hop,<- lMore',eqL];decide
 have qStep:(t.text.toList == [115,116,101,112])=false:=by rw[hop,<- lStep',eqL];decide
 have qAccount:(t.text.toList == [97,99,99,111,117,110,116])=true:=by rw[hop,<- lAccount',eqL];decide
 have HOP:=iH hop;clear hit hio hop;have HR0:condP kindNs (m.rules.map RuM.name) (m.items.map It.name) (T.drop i) st=numsP t.text (T.drop (i+1)) st:=by
  rw[HQ.out];simp only[condP];rw[if_neg (by rw[hk0,HOP.out];decide),if_neg (by rw[HOP.out];decide),if_neg (by rw[HOP.out];decide),if_neg (by rw[HOP.out];decide),if_neg (by rw[HOP.out];decide)]
 rw[HR0];clear HR0;go_enter Tryz.func135,Tryz.ntmps135;go_wp2;refine wp_region_X (fun w'=>Bk w' pb 150 [.slice m.si.A m.si.n m.si.c,.slice m.sr.A m.sr.n m.sr.c,.slice m.st.A m.st.n m.st.c,.slice m.sx.A m.sx.n m.sx.c,.slice (some ⟨bb,off,none⟩) n c,.int .i64 (i:Int),.bool false,.int .i64 st.1,.int .i64 st.2]∧((w'.cell? ⟨bb,off+i*4,none⟩=some (.int .i64 t.kind)∧w'.cell? ⟨bb,off+i*4+1,none⟩=some (.string t.text)∧w'.cell? ⟨bb,off+i*4+2,none⟩=some (.int .i64 t.num)∧w'.cell? ⟨bb,off+i*4+3,none⟩=some (.int .i64 t.at_))∧bb<w'.heap.size)) 26 (n:=26) rfl (by kernel_rfl) (⟨H1.out.pk.drew,HEL.out _ Y1.out.drew⟩) (fun hS=>?_);refine tU 0 (some 12) (v:=?_) rfl ⟨rfl,?_⟩ hS ?_;rotate_left
 ·intro w' hS';(go_simp;try with_reducible rfl)
 simp only[Act.put,Pa,Pb,Pc];refine tU 1 (some 13) (v:=?_) rfl ⟨rfl,?_⟩ hS ?_;rotate_left
 ·intro w' hS';(go_simp;try with_reducible rfl)
 simp only[Act.put,Pa,Pb,Pc];refine tU 2 (some 14) (v:=?_) rfl ⟨rfl,?_⟩ hS ?_;rotate_left
 ·intro w' hS';(go_simp;try with_reducible rfl)
 simp only[Act.put,Pa,Pb,Pc];refine tU 3 (some 15) (v:=?_) rfl ⟨rfl,?_⟩ hS ?_;rotate_left
 ·intro w' hS';have e0:=hS'.1.k0;have e1:=hS'.1.k1;have e2:=hS'.1.k2;have e3:=hS'.1.k3;have e4:=hS'.1.k4;have e5:=hS'.1.k5;have e6:=hS'.1.k6;have e7:=hS'.1.k7;have e8:=hS'.1.k8;have el:=hS'.1.lt;have t0:=hS'.2.1.1;have t1:=hS'.2.1.2.1;have t2:=hS'.2.1.2.2.1;have t3:=hS'.2.1.2.2.2;have tl:=hS'.2.2;(go_simp;try with_reducible rfl)
 simp only[Act.put,Pa,Pb,Pc];refine tU 4 (some 16) (v:=?_) rfl ⟨rfl,?_⟩ hS ?_;rotate_left
 ·intro w' hS';(go_simp;try with_reducible rfl)
 simp only[Act.put,Pa,Pb,Pc];refine tU 5 (some 17) (v:=?_) rfl ⟨rfl,?_⟩ hS ?_;rotate_left
 ·intro w' hS';(go_simp;try with_reducible rfl)
 simp only[Act.put,Pa,Pb,Pc];refine tU 6 (some 18) (v:=?_) rfl ⟨rfl,?_⟩ hS ?_;rotate_left
 ·intro w' hS';(go_simp;try with_reducible rfl)
 simp only[Act.put,Pa,Pb,Pc];refine tU 7 (some 19) (v:=?_) rfl ⟨rfl,?_⟩ hS ?_;rotate_left
 ·intro w' hS';have e0:=hS'.1.k0;have e1:=hS'.1.k1;have e2:=hS'.1.k2;have e3:=hS'.1.k3;have e4:=hS'.1.k4;have e5:=hS'.1.k5;have e6:=hS'.1.k6;have e7:=hS'.1.k7;have e8:=hS'.1.k8;have el:=hS'.1.lt;have t0:=hS'.2.1.1;have t1:=hS'.2.1.2.1;have t2:=hS'.2.1.2.2.1;have t3:=hS'.2.1.2.2.2;have tl:=hS'.2.2;(go_simp;try with_reducible rfl)
 simp only[Act.put,Pa,Pb,Pc];refine tU 8 (some 20) (v:=?_) rfl ⟨rfl,?_⟩ hS ?_;rotate_left
 ·intro w' hS';(go_simp;try with_reducible rfl)
 simp only[Act.put,Pa,Pb,Pc];refine tU 9 (some 21) (v:=?_) rfl ⟨rfl,?_⟩ hS ?_;rotate_left
 ·intro w' hS';(go_simp;try with_reducible rfl)
 simp only[Act.put,Pa,Pb,Pc];refine tU 10 (some 22) (v:=?_) rfl ⟨rfl,?_⟩ hS ?_;rotate_left
 ·intro w' hS';(go_simp;try with_reducible rfl)
 simp only[Act.put,Pa,Pb,Pc];refine tU 12 (some 24) (v:=?_) rfl ⟨rfl,?_⟩ hS ?_;rotate_left
 ·intro w' hS';(go_simp;try with_reducible rfl)
 simp only[Act.put,Pa,Pb,Pc];refine tU 13 (some 25) (v:=?_) rfl ⟨rfl,?_⟩ hS ?_;rotate_left
 ·intro w' hS';(go_simp;try with_reducible rfl)
 simp only[Act.put,Pa,Pb,Pc];refine tU 14 (some 26) (v:=?_) rfl ⟨rfl,?_⟩ hS ?_;rotate_left
 ·intro w' hS';(go_simp;try with_reducible rfl)
 simp only[Act.put,Pa,Pb,Pc];refine tU 15 (some 27) (v:=?_) rfl ⟨rfl,?_⟩ hS ?_;rotate_left
 ·intro w' hS';have e0:=hS'.1.k0;have e1:=hS'.1.k1;have e2:=hS'.1.k2;have e3:=hS'.1.k3;have e4:=hS'.1.k4;have e5:=hS'.1.k5;have e6:=hS'.1.k6;have e7:=hS'.1.k7;have e8:=hS'.1.k8;have el:=hS'.1.lt;have t0:=hS'.2.1.1;have t1:=hS'.2.1.2.1;have t2:=hS'.2.1.2.2.1;have t3:=hS'.2.1.2.2.2;have tl:=hS'.2.2;(go_simp;try with_reducible rfl)
 simp only[Act.put,Pa,Pb,Pc];refine tU 16 (some 28) (v:=?_) rfl ⟨rfl,?_⟩ hS ?_;rotate_left
 ·intro w' hS';(go_simp;try with_reducible rfl)
 simp only[Act.put,Pa,Pb,Pc];refine tU 17 (some 29) (v:=?_) rfl ⟨rfl,?_⟩ hS ?_;rotate_left
 ·intro w' hS';(go_simp;try with_reducible rfl)
 simp only[Act.put,Pa,Pb,Pc];refine tU 18 (some 30) (v:=?_) rfl ⟨rfl,?_⟩ hS ?_;rotate_left
 ·intro w' hS';(go_simp;try with_reducible rfl)
 simp only[Act.put,Pa,Pb,Pc];refine tU 19 (some 31) (v:=?_) rfl ⟨rfl,?_⟩ hS ?_;rotate_left
 ·intro w' hS';have e0:=hS'.1.k0;have e1:=hS'.1.k1;have e2:=hS'.1.k2;have e3:=hS'.1.k3;have e4:=hS'.1.k4;have e5:=hS'.1.k5;have e6:=hS'.1.k6;have e7:=hS'.1.k7;have e8:=hS'.1.k8;have el:=hS'.1.lt;have t0:=hS'.2.1.1;have t1:=hS'.2.1.2.1;have t2:=hS'.2.1.2.2.1;have t3:=hS'.2.1.2.2.2;have tl:=hS'.2.2;(go_simp;try with_reducible rfl)
 simp only[Act.put,Pa,Pb,Pc];refine tU 20 (some 32) (v:=?_) rfl ⟨rfl,?_⟩ hS ?_;rotate_left
 ·intro w' hS';(go_simp;try with_reducible rfl)
 simp only[Act.put,Pa,Pb,Pc];refine tU 21 (some 33) (v:=?_) rfl ⟨rfl,?_⟩ hS ?_;rotate_left
 ·intro w' hS';(go_simp;try with_reducible rfl)
 simp only[Act.put,Pa,Pb,Pc];refine tU 22 (some 34) (v:=?_) rfl ⟨rfl,?_⟩ hS ?_;rotate_left
 ·intro w' hS';have e0:=hS'.1.k0;have e1:=hS'.1.k1;have e2:=hS'.1.k2;have e3:=hS'.1.k3;have e4:=hS'.1.k4;have e5:=hS'.1.k5;have e6:=hS'.1.k6;have e7:=hS'.1.k7;have e8:=hS'.1.k8;have el:=hS'.1.lt;have t0:=hS'.2.1.1;have t1:=hS'.2.1.2.1;have t2:=hS'.2.1.2.2.1;have t3:=hS'.2.1.2.2.2;have tl:=hS'.2.2;(go_simp;try with_reducible rfl)
 simp only[Act.put,Pa,Pb,Pc];refine X_o 11 rfl fun K hK=>?_;go_simp;have K1:=iH (condNs_any (W.alloc (.cells #[.string ⟨#[]⟩,.int .i64 0,.int .i64 0,.slice none 0 0] 35)).drew);(with_reducible refine K1.out.mono ?_);rintro e w2 ⟨A1,n1,c1,rfl,hnm,hb⟩;have hd:=(Below.refl (W.alloc (.cells #[.string ⟨#[]⟩,.int .i64 0,.int .i64 0,.slice none 0 0] 35)).heap.size (W.alloc (.cells #[.string ⟨#[]⟩,.int .i64 0,.int .i64 0,.slice none 0 0] 35))).drew.trans hb;have Y2:=iH (Y1.out.trans (hd.mono Y1.out.size));have H2:=iH (H1.out.below hd);have HR2:=iH (HR.out.below hd HR.out.lt);have HNM:=iH hnm;refine hK _ _ ⟨H2.out.pk,HEL.out _ Y2.out⟩ ?_;clear hK K1 hnm hb hd;refine X_o 23 rfl fun K hK=>?_;go_simp;have K1:=iH (rindex_any (c:=c1) t.text HNM.out);(with_reducible refine K1.out.mono ?_);rintro e w2 ⟨rfl,rfl⟩;refine hK _ _ ⟨H2.out.pk,HEL.out _ Y2.out⟩ ?_;clear hK K1 HNM;refine tU 24 (some 36) (v:=?_) rfl ⟨rfl,?_⟩ ⟨H2.out.pk,HEL.out _ Y2.out⟩ ?_;rotate_left
 ·intro w' hS';(go_simp;try with_reducible rfl)
 simp only[Act.put,Pa,Pb,Pc];refine tU 25 (some 37) (v:=?_) rfl ⟨rfl,?_⟩ ⟨H2.out.pk,HEL.out _ Y2.out⟩ ?_;rotate_left
 ·intro w' hS';(go_simp;try with_reducible rfl)
 simp only[Act.put,Pa,Pb,Pc];refine X_done (by kernel_rfl) ?_;clear hS;have hx1:¬ ixOf condNs t.text<0:=by have:=HX.out;omega
 generalize ixOf condNs t.text=ix at *;have KT:=iH (take_yes 0 ⟨#[]⟩ H2.out hi ht hk0 (.inl rfl));rw[hk0]at KT;have hfd:=fun w=>field153 0 t.num t.at_ t.text w
 go_wp2_with fail;refine KT.out.mono ?_;rintro e w3 ⟨rfl,hq,hg⟩;have H3:=iH hq;have HR3:=iH (HR2.out.grown hg (by simp;omega));have HG3:=iH (grown_trans (grown_of_below Y2.out (some pb)) hg);have y4:Below w3.heap.size w3 (w3.alloc (.cells #[.string t.text,.int .i64 0,.int .i64 0,.slice none 0 0] 35)):=(Below.refl _ _).alloc (Nat.le_refl _) _;have H4:=iH (hq.below y4);have HR4:=iH (HR3.out.below y4 HR3.out.lt);have HB4:=iH (Bk.new w3 35 [.string t.text,.int .i64 0,.int .i64 0,.slice none 0 0]);have HG4:=iH (grown_trans HG3.out (grown_of_below y4 _));have hp3:pb<w3.heap.size:=hq.pk.lt;have hr3:W.heap.size<w3.heap.size:=HR3.out.lt;have b40:(w3.alloc (.cells #[.string t.text,.int .i64 0,.int .i64 0,.slice none 0 0] 35)).cell? ⟨w3.heap.size,0,none⟩=some (.string t.text):=HB4.out.cell 0;have b4l:=HB4.out.lt;clear KT hq hg y4 H2 HR2 Y2 H3 HR3 HG3 HX hx1;have KU:=iH (take_rd 1 ⟨#[]⟩ H4.out);go_wp2_with fail;refine KU.out.mono ?_;rintro e w5 ⟨u,i2,b2,htk,rfl,hq,hg,huszu,hunu⟩;have HTK2:=iH htk;have hn5:w3.heap.size<w5.heap.size:=Nat.lt_of_lt_of_le b4l hg.size;have y6:Below w5.heap.size w5 (w5.alloc (.cells #[.int .i64 u.kind,.string u.text,.int .i64 u.num,.int .i64 u.at_] 153)):=(Below.refl _ _).alloc (Nat.le_refl _) _;have H6:=iH (hq.below y6);have HR5:=HR4.out.grown hg (by simp;omega);have HB5:=HB4.out.grown hg (by simp;omega);have HR6:=iH (HR5.below y6 HR5.lt);have HB6:=iH (HB5.below y6 HB5.lt);have HT6:=iH (Bk.new w5 153 [.int .i64 u.kind,.string u.text,.int .i64 u.num,.int .i64 u.at_]);have HG6:=iH (grown_trans (grown_trans HG4.out hg) (grown_of_below y6 _));clear KU htk hq hg y6 H4 HR4 HB4 HG4 HR5 HB5 b40 b4l;go_upto_region 8 with fail;generalize(w5.alloc (.cells #[.int .i64 u.kind,.string u.text,.int .i64 u.num,.int .i64 u.at_] 153))=w6 at *;have u0:=HT6.out.k0;have u1:=HT6.out.k1;have u2:=HT6.out.k2;have u3:=HT6.out.k3;have ul:=HT6.out.lt;have m0:=HB6.out.k0;have m1:=HB6.out.k1;have m2:=HB6.out.k2;have m3:=HB6.out.k3;have ml:=HB6.out.lt;have mf:=HB6.out.frozen 1;go_upto_region 39 with fail;have HB8:=iH (HB6.out.set 1 (.int .i64 u.num));have HR8:=iH (HR6.out.setOther (b:=w3.heap.size) (k:=1) (u:=.int .i64 u.num) (by omega));have H8:=iH (H6.out.far (k:=1) HB6.out hp3 (by decide) (by decide) (by decide) (.int .i64 u.num));have HG8:=iH (grown_fresh (k:=1) (u:=.int .i64 u.num) HG6.out (by omega:W.heap.size<=w3.heap.size));have HTS:Hid (t.text.size<=8192):=iH HTK.out.1;have HIA:=iH hunu;have HIB:Hid (In64 0):=iH ⟨by decide,by decide⟩;have HOPO:t.text=sActor∨t.text=sAccount:=by rw[HOP.out];first | exact .inl rfl | exact .inr rfl
 have HISTWO:isTwo t.text=false:=by rw[HOP.out];decide
 clear H6 HR6 HB6 HT6 HG6 u0 u1 u2 u3 ul m0 m1 m2 m3 ml mf;generalize(w6.setCell ⟨w3.heap.size,1,none⟩ (.int .i64 u.num))=w8 at *;refine wp_region_X (fun w'=>Bk w' pb 150 [.slice m.si.A m.si.n m.si.c,.slice m.sr.A m.sr.n m.sr.c,.slice m.st.A m.st.n m.st.c,.slice m.sx.A m.sx.n m.sx.c,.slice (some ⟨bb,off,none⟩) n c,.int .i64 (i2:Int),.bool b2,.int .i64 st.1,.int .i64 st.2]∧Bk w' w3.heap.size 35 [.string t.text,.int .i64 u.num,.int .i64 0,.slice none 0 0]) 7 (n:=7) rfl (by kernel_rfl) (⟨H8.out.drew.pk,HB8.out.drew⟩) (fun hS=>?_);refine tU 0 (some 149) (v:=?_) rfl ⟨rfl,?_⟩ hS ?_;rotate_left
 ·intro w' hS';(go_simp;try with_reducible rfl)
 simp only[Act.put,Pa,Pb,Pc];refine tU 1 (some 150) (v:=?_) rfl ⟨rfl,?_⟩ hS ?_;rotate_left
 ·intro w' hS';(go_simp;try with_reducible rfl)
 simp only[Act.put,Pa,Pb,Pc];refine tU 2 (some 151) (v:=?_) rfl ⟨rfl,?_⟩ hS ?_;rotate_left
 ·intro w' hS';(go_simp;try with_reducible rfl)
 simp only[Act.put,Pa,Pb,Pc];refine tU 3 (some 152) (v:=?_) rfl ⟨rfl,?_⟩ hS ?_;rotate_left
 ·intro w' hS';have e0:=hS'.1.k0;have e1:=hS'.1.k1;have e2:=hS'.1.k2;have e3:=hS'.1.k3;have e4:=hS'.1.k4;have e5:=hS'.1.k5;have e6:=hS'.1.k6;have e7:=hS'.1.k7;have e8:=hS'.1.k8;have el:=hS'.1.lt;have v0:=hS'.2.k0;have v1:=hS'.2.k1;have v2:=hS'.2.k2;have v3:=hS'.2.k3;have vl:=hS'.2.lt;(go_simp;try with_reducible rfl)
 simp only[Act.put,Pa,Pb,Pc];refine tU 4 (some 153) (v:=?_) rfl ⟨rfl,?_⟩ hS ?_;rotate_left
 ·intro w' hS';have e0:=hS'.1.k0;have e1:=hS'.1.k1;have e2:=hS'.1.k2;have e3:=hS'.1.k3;have e4:=hS'.1.k4;have e5:=hS'.1.k5;have e6:=hS'.1.k6;have e7:=hS'.1.k7;have e8:=hS'.1.k8;have el:=hS'.1.lt;have v0:=hS'.2.k0;have v1:=hS'.2.k1;have v2:=hS'.2.k2;have v3:=hS'.2.k3;have vl:=hS'.2.lt;(go_simp;try with_reducible rfl)
 simp only[Act.put,Pa,Pb,Pc];refine X_o 5 rfl fun K hK=>?_;go_simp;have K1:=iH (rown_any (w:=w8.drew) t.text u.num 0 none 0 0 m.si m.sr m.st m.sx (by omega) (by have:=H8.out.its.small;omega) (by have:=H8.out.rus.small;omega));have HE:=iH (own5_one (ni:=m.si.n) (nr:=m.sr.n) (a:=u.num) HOPO);generalize aloneE m.si.n m.sr.n t.text u.num 0 0=E at *;(with_reducible refine K1.out.mono ?_);rintro e wa ⟨rfl,hb⟩;have hd:=(Below.refl w8.heap.size w8).drew.trans hb;have Ha:=iH (H8.out.below hd);have HRa:=iH (HR8.out.below hd HR8.out.lt);have HBa:=iH (HB8.out.below hd HB8.out.lt);have HGa:=iH (grown_trans HG8.out (grown_of_below hd _));refine hK _ _ ⟨Ha.out.pk,HBa.out⟩ ?_;clear hK K1 hb hd H8 HR8 HB8 HG8;refine tU 6 (some 155) (v:=?_) rfl ⟨rfl,?_⟩ ⟨Ha.out.pk,HBa.out⟩ ?_;rotate_left
 ·intro w' hS';(go_simp;try with_reducible rfl)
 simp only[Act.put,Pa,Pb,Pc];refine X_done (by kernel_rfl) ?_;clear hS;by_cases hE:E=5
 ·have hrg:rangeOk t.text u.num 0=false:=HE.out.mp hE;have HREL:=iH (nums_rel1 (st:=st) (st':=st.note 5 u.at_) HISTWO HTK2.out (by rw[hrg];rfl));subst hE;have KF:=iH (fail_rd 5 u.at_ Ha.out);clear hrg HE;go_wp2_with fail;refine KF.out.mono ?_;rintro e w9 ⟨rfl,hq,hg⟩;have HQA:=iH hq;have HB:=iH (HBa.out.grown hg (by simp;omega));have HR:=iH (HRa.out.grown hg (by simp;omega));have HGA:=iH (grown_trans HGa.out hg);clear KF hq hg Ha HRa HBa HGa;have m0:=HB.out.k0;have m1:=HB.out.k1;have m2:=HB.out.k2;have m3:=HB.out.k3;have ml:=HB.out.lt;have r0:=HR.out.k0;have r1:=HR.out.k1;have r2:=HR.out.k2;have r3:=HR.out.k3;have rl:=HR.out.lt;have rf0:=HR.out.frozen 0;have rf1:=HR.out.frozen 1;have rf2:=HR.out.frozen 2;have rf3:=HR.out.frozen 3;go_wp2;have hX:=lay_mq (M:=⟨t.text,u.num,0,[],⟨none,0,0⟩⟩) HR.out HQA.out HGA.out (by omega) (Nat.le_refl _) (leaf_mk _ _ HTS.out HIA.out HIB.out);dsimp only at hX;generalize((((w9.setCell ⟨W.heap.size,0,none⟩ (.string t.text)).setCell ⟨W.heap.size,1,none⟩ (.int .i64 u.num)).setCell ⟨W.heap.size,2,none⟩ (.int .i64 0)).setCell ⟨W.heap.size,3,none⟩ (.slice none 0 0))=X at *;have HXB:=hX.2.2.2;have xx0:=HXB.k0;have xx1:=HXB.k1;have xx2:=HXB.k2;have xx3:=HXB.k3;refine bodyPost_ret (v:=.agg #[.string t.text,.int .i64 u.num,.int .i64 0,.slice none 0 0]) (by simp[results,Tryz.results135,go_sem,xx0,xx1,xx2,xx3]) rfl ?_;exact⟨⟨t.text,u.num,0,[],⟨none,0,0⟩⟩,i2,b2,(st.note 5 u.at_),rfl,hX.1,hX.2.1,hX.2.2.1,HREL.out⟩
 ·have hE1:(E == 5)=false:=by simpa using hE
  have hrg:rangeOk t.text u.num 0=true:=by
   cases hq:rangeOk t.text u.num 0 with
   | true=>rfl
   | false=>exact absurd (HE.out.mpr hq) hE
  have HREL:=iH (nums_rel1 (st:=st) (st':=st) HISTWO HTK2.out (by rw[hrg];rfl));have HQA:=Ha;have HB:=HBa;have HR:=HRa;have HGA:=HGa;clear hrg HE hE Ha HRa HBa HGa;have m0:=HB.out.k0;have m1:=HB.out.k1;have m2:=HB.out.k2;have m3:=HB.out.k3;have ml:=HB.out.lt;have r0:=HR.out.k0;have r1:=HR.out.k1;have r2:=HR.out.k2;have r3:=HR.out.k3;have rl:=HR.out.lt;have rf0:=HR.out.frozen 0;have rf1:=HR.out.frozen 1;have rf2:=HR.out.frozen 2;have rf3:=HR.out.frozen 3;go_wp2;have hX:=lay_mq (M:=⟨t.text,u.num,0,[],⟨none,0,0⟩⟩) HR.out HQA.out HGA.out (by omega) (Nat.le_refl _) (leaf_mk _ _ HTS.out HIA.out HIB.out);dsimp only at hX;generalize((((wa.setCell ⟨W.heap.size,0,none⟩ (.string t.text)).setCell ⟨W.heap.size,1,none⟩ (.int .i64 u.num)).setCell ⟨W.heap.size,2,none⟩ (.int .i64 0)).setCell ⟨W.heap.size,3,none⟩ (.slice none 0 0))=X at *;have HXB:=hX.2.2.2;have xx0:=HXB.k0;have xx1:=HXB.k1;have xx2:=HXB.k2;have xx3:=HXB.k3;refine bodyPost_ret (v:=.agg #[.string t.text,.int .i64 u.num,.int .i64 0,.slice none 0 0]) (by simp[results,Tryz.results135,go_sem,xx0,xx1,xx2,xx3]) rfl ?_;exact⟨⟨t.text,u.num,0,[],⟨none,0,0⟩⟩,i2,b2,st,rfl,hX.1,hX.2.1,hX.2.2.1,HREL.out⟩
theorem cond_Tick {W:World} {pb:Nat} {m:CatM} {T:List Tok} {A:Option Addr} {n c i:Nat} {st:PSt} {t:Tok} (h:QAt W pb m T A n c i false st) (hi:i<n) (ht:T[i]? = some t) (hop:t.text=sTick) :
 Calls Tryz.prog 135 #[.pointer (some ⟨pb,0,none⟩)] W (RPost W pb m T A n c (condP kindNs (m.rules.map RuM.name) (m.items.map It.name) (T.drop i) st)):=by
 have H:=iH h;have hpl:=h.pk.lt;have hfew:=h.few;have hit:i<T.length:=by have:=h.len;omega
 obtain⟨bb,off,rfl,hel,hbb⟩:=h.at_ hit;have HEL:Hid (∀w',Below W.heap.size W w'->((w'.cell? ⟨bb,off+i*4,none⟩=some (.int .i64 T[i].kind)∧w'.cell? ⟨bb,off+i*4+1,none⟩=some (.string T[i].text)∧w'.cell? ⟨bb,off+i*4+2,none⟩=some (.int .i64 T[i].num)∧w'.cell? ⟨bb,off+i*4+3,none⟩=some (.int .i64 T[i].at_))∧bb<w'.heap.size)):=iH fun U hU =>
  ⟨⟨(hU.cell (p:=⟨bb,off+i*4,none⟩) hbb).trans hel.1,(hU.cell (p:=⟨bb,off+i*4+1,none⟩) hbb).trans hel.2.1,(hU.cell (p:=⟨bb,off+i*4+2,none⟩) hbb).trans hel.2.2.1,(hU.cell (p:=⟨bb,off+i*4+3,none⟩) hbb).trans hel.2.2.2⟩,Nat.lt_of_lt_of_le hbb hU.size⟩
 have hiI:(i:Int)<n:=by omega
 have hni:¬ n<=i:=by omega
 have hnI:(n:Int)<=8192:=by omega
 have htt:T[i]=t:=by rw[List.getElem?_eq_getElem hit]at ht;exact Option.some.inj ht
 rw[htt]at HEL;have y1:Below W.heap.size W (W.alloc (.cells #[.string ⟨#[]⟩,.int .i64 0,.int .i64 0,.slice none 0 0] 35)):=(Below.refl _ _).alloc (Nat.le_refl _) _;have Y1:=iH y1;have H1:=iH (h.below y1);have HR:=iH (Bk.new W 35 [.string ⟨#[]⟩,.int .i64 0,.int .i64 0,.slice none 0 0]);have HTK:=iH (h.toks t (by rw[<- htt];exact List.getElem_mem hit));clear hel hbb htt y1 h;have HQ:Hid (T.drop i=t :: T.drop (i+1)):=iH (by rw[List.drop_eq_getElem_cons hit];rw[List.getElem?_eq_getElem hit]at ht;rw[Option.some.inj ht]);have hio:isOp t.text=true:=by rw[hop];decide
 have hk0:t.kind=0:=HTK.out.2.2.1 (by rw[hop];decide);have HX:Hid (¬ ixOf condNs t.text<0):=iH (by rw[ix_isOp,hio];simp);have qKind:(t.text.toList == [107,105,110,100])=false:=by rw[hop,<- lKind',eqL];decide
 have qActor:(t.text.toList == [97,99,116,111,114])=false:=by rw[hop,<- lActor',eqL];decide
 have qRule:(t.text.toList == [114,117,108,101])=false:=by rw[hop,<- lRule',eqL];decide
 have qTick:(t.text.toList == [116,105,99,107])=true:=by rw[hop,<- lTick',eqL];decide
 have qItem:(t.text.toList == [105,116,101,109])=false:=by rw[hop,<- lItem',eqL];decide
 have qMore:(t.text.toList == [109,111,114,101])=false:=by rw[hop,<- lMore',eqL];decide
 have qStep:(t.text.toList == [115,116,101,112])=false:=by rw[hop,<- lStep',eqL];decide
 have qAccount:(t.text.toList == [97,99,99,111,117,110,116])=false:=by rw[hop,<- lAccount',eqL];decide
 have HOP:=iH hop;clear hit hio hop;have HR0:condP kindNs (m.rules.map RuM.name) (m.items.map It.name) (T.drop i) st=numsP t.text (T.drop (i+1)) st:=by
  rw[HQ.out];simp only[condP];rw[if_neg (by rw[hk0,HOP.out];decide),if_neg (by rw[HOP.out];decide),if_neg (by rw[HOP.out];decide),if_neg (by rw[HOP.out];decide),if_neg (by rw[HOP.out];decide)]
 rw[HR0];clear HR0;go_enter Tryz.func135,Tryz.ntmps135;go_wp2;refine wp_region_X (fun w'=>Bk w' pb 150 [.slice m.si.A m.si.n m.si.c,.slice m.sr.A m.sr.n m.sr.c,.slice m.st.A m.st.n m.st.c,.slice m.sx.A m.sx.n m.sx.c,.slice (some ⟨bb,off,none⟩) n c,.int .i64 (i:Int),.bool false,.int .i64 st.1,.int .i64 st.2]∧((w'.cell? ⟨bb,off+i*4,none⟩=some (.int .i64 t.kind)∧w'.cell? ⟨bb,off+i*4+1,none⟩=some (.string t.text)∧w'.cell? ⟨bb,off+i*4+2,none⟩=some (.int .i64 t.num)∧w'.cell? ⟨bb,off+i*4+3,none⟩=some (.int .i64 t.at_))∧bb<w'.heap.size)) 26 (n:=26) rfl (by kernel_rfl) (⟨H1.out.pk.drew,HEL.out _ Y1.out.drew⟩) (fun hS=>?_);refine tU 0 (some 12) (v:=?_) rfl ⟨rfl,?_⟩ hS ?_;rotate_left
 ·intro w' hS';(go_simp;try with_reducible rfl)
 simp only[Act.put,Pa,Pb,Pc];refine tU 1 (some 13) (v:=?_) rfl ⟨rfl,?_⟩ hS ?_;rotate_left
 ·intro w' hS';(go_simp;try with_reducible rfl)
 simp only[Act.put,Pa,Pb,Pc];refine tU 2 (some 14) (v:=?_) rfl ⟨rfl,?_⟩ hS ?_;rotate_left
 ·intro w' hS';(go_simp;try with_reducible rfl)
 simp only[Act.put,Pa,Pb,Pc];refine tU 3 (some 15) (v:=?_) rfl ⟨rfl,?_⟩ hS ?_;rotate_left
 ·intro w' hS';have e0:=hS'.1.k0;have e1:=hS'.1.k1;have e2:=hS'.1.k2;have e3:=hS'.1.k3;have e4:=hS'.1.k4;have e5:=hS'.1.k5;have e6:=hS'.1.k6;have e7:=hS'.1.k7;have e8:=hS'.1.k8;have el:=hS'.1.lt;have t0:=hS'.2.1.1;have t1:=hS'.2.1.2.1;have t2:=hS'.2.1.2.2.1;have t3:=hS'.2.1.2.2.2;have tl:=hS'.2.2;(go_simp;try with_reducible rfl)
 simp only[Act.put,Pa,Pb,Pc];refine tU 4 (some 16) (v:=?_) rfl ⟨rfl,?_⟩ hS ?_;rotate_left
 ·intro w' hS';(go_simp;try with_reducible rfl)
 simp only[Act.put,Pa,Pb,Pc];refine tU 5 (some 17) (v:=?_) rfl ⟨rfl,?_⟩ hS ?_;rotate_left
 ·intro w' hS';(go_simp;try with_reducible rfl)
 simp only[Act.put,Pa,Pb,Pc];refine tU 6 (some 18) (v:=?_) rfl ⟨rfl,?_⟩ hS ?_;rotate_left
 ·intro w' hS';(go_simp;try with_reducible rfl)
 simp only[Act.put,Pa,Pb,Pc];refine tU 7 (some 19) (v:=?_) rfl ⟨rfl,?_⟩ hS ?_;rotate_left
 ·intro w' hS';have e0:=hS'.1.k0;have e1:=hS'.1.k1;have e2:=hS'.1.k2;have e3:=hS'.1.k3;have e4:=hS'.1.k4;have e5:=hS'.1.k5;have e6:=hS'.1.k6;have e7:=hS'.1.k7;have e8:=hS'.1.k8;have el:=hS'.1.lt;have t0:=hS'.2.1.1;have t1:=hS'.2.1.2.1;have t2:=hS'.2.1.2.2.1;have t3:=hS'.2.1.2.2.2;have tl:=hS'.2.2;(go_simp;try with_reducible rfl)
 simp only[Act.put,Pa,Pb,Pc];refine tU 8 (some 20) (v:=?_) rfl ⟨rfl,?_⟩ hS ?_;rotate_left
 ·intro w' hS';(go_simp;try with_reducible rfl)
 simp only[Act.put,Pa,Pb,Pc];refine tU 9 (some 21) (v:=?_) rfl ⟨rfl,?_⟩ hS ?_;rotate_left
 ·intro w' hS';(go_simp;try with_reducible rfl)
 simp only[Act.put,Pa,Pb,Pc];refine tU 10 (some 22) (v:=?_) rfl ⟨rfl,?_⟩ hS ?_;rotate_left
 ·intro w' hS';(go_simp;try with_reducible rfl)
 simp only[Act.put,Pa,Pb,Pc];refine tU 12 (some 24) (v:=?_) rfl ⟨rfl,?_⟩ hS ?_;rotate_left
 ·intro w' hS';(go_simp;try with_reducible rfl)
 simp only[Act.put,Pa,Pb,Pc];refine tU 13 (some 25) (v:=?_) rfl ⟨rfl,?_⟩ hS ?_;rotate_left
 ·intro w' hS';(go_simp;try with_reducible rfl)
 simp only[Act.put,Pa,Pb,Pc];refine tU 14 (some 26) (v:=?_) rfl ⟨rfl,?_⟩ hS ?_;rotate_left
 ·intro w' hS';(go_simp;try with_reducible rfl)
 simp only[Act.put,Pa,Pb,Pc];refine tU 15 (some 27) (v:=?_) rfl ⟨rfl,?_⟩ hS ?_;rotate_left
 ·intro w' hS';have e0:=hS'.1.k0;have e1:=hS'.1.k1;have e2:=hS'.1.k2;have e3:=hS'.1.k3;have e4:=hS'.1.k4;have e5:=hS'.1.k5;have e6:=hS'.1.k6;have e7:=hS'.1.k7;have e8:=hS'.1.k8;have el:=hS'.1.lt;have t0:=hS'.2.1.1;have t1:=hS'.2.1.2.1;have t2:=hS'.2.1.2.2.1;have t3:=hS'.2.1.2.2.2;have tl:=hS'.2.2;(go_simp;try with_reducible rfl)
 simp only[Act.put,Pa,Pb,Pc];refine tU 16 (some 28) (v:=?_) rfl ⟨rfl,?_⟩ hS ?_;rotate_left
 ·intro w' hS';(go_simp;try with_reducible rfl)
 simp only[Act.put,Pa,Pb,Pc];refine tU 17 (some 29) (v:=?_) rfl ⟨rfl,?_⟩ hS ?_;rotate_left
 ·intro w' hS';(go_simp;try with_reducible rfl)
 simp only[Act.put,Pa,Pb,Pc];refine tU 18 (some 30) (v:=?_) rfl ⟨rfl,?_⟩ hS ?_;rotate_left
 ·intro w' hS';(go_simp;try with_reducible rfl)
 simp only[Act.put,Pa,Pb,Pc];refine tU 19 (some 31) (v:=?_) rfl ⟨rfl,?_⟩ hS ?_;rotate_left
 ·intro w' hS';have e0:=hS'.1.k0;have e1:=hS'.1.k1;have e2:=hS'.1.k2;have e3:=hS'.1.k3;have e4:=hS'.1.k4;have e5:=hS'.1.k5;have e6:=hS'.1.k6;have e7:=hS'.1.k7;have e8:=hS'.1.k8;have el:=hS'.1.lt;have t0:=hS'.2.1.1;have t1:=hS'.2.1.2.1;have t2:=hS'.2.1.2.2.1;have t3:=hS'.2.1.2.2.2;have tl:=hS'.2.2;(go_simp;try with_reducible rfl)
 simp only[Act.put,Pa,Pb,Pc];refine tU 20 (some 32) (v:=?_) rfl ⟨rfl,?_⟩ hS ?_;rotate_left
 ·intro w' hS';(go_simp;try with_reducible rfl)
 simp only[Act.put,Pa,Pb,Pc];refine tU 21 (some 33) (v:=?_) rfl ⟨rfl,?_⟩ hS ?_;rotate_left
 ·intro w' hS';(go_simp;try with_reducible rfl)
 simp only[Act.put,Pa,Pb,Pc];refine tU 22 (some 34) (v:=?_) rfl ⟨rfl,?_⟩ hS ?_;rotate_left
 ·intro w' hS';have e0:=hS'.1.k0;have e1:=hS'.1.k1;have e2:=hS'.1.k2;have e3:=hS'.1.k3;have e4:=hS'.1.k4;have e5:=hS'.1.k5;have e6:=hS'.1.k6;have e7:=hS'.1.k7;have e8:=hS'.1.k8;have el:=hS'.1.lt;have t0:=hS'.2.1.1;have t1:=hS'.2.1.2.1;have t2:=hS'.2.1.2.2.1;have t3:=hS'.2.1.2.2.2;have tl:=hS'.2.2;(go_simp;try with_reducible rfl)
 simp only[Act.put,Pa,Pb,Pc];refine X_o 11 rfl fun K hK=>?_;go_simp;have K1:=iH (condNs_any (W.alloc (.cells #[.string ⟨#[]⟩,.int .i64 0,.int .i64 0,.slice none 0 0] 35)).drew);(with_reducible refine K1.out.mono ?_);rintro e w2 ⟨A1,n1,c1,rfl,hnm,hb⟩;have hd:=(Below.refl (W.alloc (.cells #[.string ⟨#[]⟩,.int .i64 0,.int .i64 0,.slice none 0 0] 35)).heap.size (W.alloc (.cells #[.string ⟨#[]⟩,.int .i64 0,.int .i64 0,.slice none 0 0] 35))).drew.trans hb;have Y2:=iH (Y1.out.trans (hd.mono Y1.out.size));have H2:=iH (H1.out.below hd);have HR2:=iH (HR.out.below hd HR.out.lt);have HNM:=iH hnm;refine hK _ _ ⟨H2.out.pk,HEL.out _ Y2.out⟩ ?_;clear hK K1 hnm hb hd;refine X_o 23 rfl fun K hK=>?_;go_simp;have K1:=iH (rindex_any (c:=c1) t.text HNM.out);(with_reducible refine K1.out.mono ?_);rintro e w2 ⟨rfl,rfl⟩;refine hK _ _ ⟨H2.out.pk,HEL.out _ Y2.out⟩ ?_;clear hK K1 HNM;refine tU 24 (some 36) (v:=?_) rfl ⟨rfl,?_⟩ ⟨H2.out.pk,HEL.out _ Y2.out⟩ ?_;rotate_left
 ·intro w' hS';(go_simp;try with_reducible rfl)
 simp only[Act.put,Pa,Pb,Pc];refine tU 25 (some 37) (v:=?_) rfl ⟨rfl,?_⟩ ⟨H2.out.pk,HEL.out _ Y2.out⟩ ?_;rotate_left
 ·intro w' hS';(go_simp;try with_reducible rfl)
 simp only[Act.put,Pa,Pb,Pc];refine X_done (by kernel_rfl) ?_;clear hS;have hx1:¬ ixOf condNs t.text<0:=by have:=HX.out;omega
 generalize ixOf condNs t.text=ix at *;have KT:=iH (take_yes 0 ⟨#[]⟩ H2.out hi ht hk0 (.inl rfl));rw[hk0]at KT;have hfd:=fun w=>field153 0 t.num t.at_ t.text w
 go_wp2_with fail;refine KT.out.mono ?_;rintro e w3 ⟨rfl,hq,hg⟩;have H3:=iH hq;have HR3:=iH (HR2.out.grown hg (by simp;omega));have HG3:=iH (grown_trans (grown_of_below Y2.out (some pb)) hg);have y4:Below w3.heap.size w3 (w3.alloc (.cells #[.string t.text,.int .i64 0,.int .i64 0,.slice none 0 0] 35)):=(Below.refl _ _).alloc (Nat.le_refl _) _;have H4:=iH (hq.below y4);have HR4:=iH (HR3.out.below y4 HR3.out.lt);have HB4:=iH (Bk.new w3 35 [.string t.text,.int .i64 0,.int .i64 0,.slice none 0 0]);have HG4:=iH (grown_trans HG3.out (grown_of_below y4 _));have hp3:pb<w3.heap.size:=hq.pk.lt;have hr3:W.heap.size<w3.heap.size:=HR3.out.lt;have b40:(w3.alloc (.cells #[.string t.text,.int .i64 0,.int .i64 0,.slice none 0 0] 35)).cell? ⟨w3.heap.size,0,none⟩=some (.string t.text):=HB4.out.cell 0;have b4l:=HB4.out.lt;clear KT hq hg y4 H2 HR2 Y2 H3 HR3 HG3 HX hx1;have KU:=iH (take_rd 1 ⟨#[]⟩ H4.out);go_wp2_with fail;refine KU.out.mono ?_;rintro e w5 ⟨u,i2,b2,htk,rfl,hq,hg,huszu,hunu⟩;have HTK2:=iH htk;have hs5:=hg.size;have H5:=iH hq;have HR5:=iH (HR4.out.grown hg (by simp;omega));have HB5:=iH (HB4.out.grown hg (by simp;omega));have HG5:=iH (grown_trans HG4.out hg);clear KU htk hq hg H4 HR4 HB4 HG4;have hfn:=fun w=>field153n u.kind u.num u.at_ u.text w
 have m0:=HB5.out.k0;have m1:=HB5.out.k1;have m2:=HB5.out.k2;have m3:=HB5.out.k3;have ml:=HB5.out.lt;have mf:=HB5.out.frozen 1;go_upto_region 34 with fail;have HB6:=iH (HB5.out.set 1 (.int .i64 u.num));have HR6:=iH (HR5.out.setOther (b:=w3.heap.size) (k:=1) (u:=.int .i64 u.num) (by omega));have H6:=iH (H5.out.far (k:=1) HB5.out hp3 (by decide) (by decide) (by decide) (.int .i64 u.num));have HG6:=iH (grown_fresh (k:=1) (u:=.int .i64 u.num) HG5.out (by omega:W.heap.size<=w3.heap.size));clear H5 HR5 HB5 HG5;clear m0 m1 m2 m3 ml mf b40 b4l hfn;generalize(w5.setCell ⟨w3.heap.size,1,none⟩ (.int .i64 u.num))=w6 at *;have KU:=iH (take_rd 2 sDot H6.out);go_wp2_with fail;refine KU.out.mono ?_;rintro e w7 ⟨d1,i3,b3,htk,rfl,hq,hg,huszd1,hund1⟩;have HTK3:=iH htk;have hs7:=hg.size;have H7:=iH hq;have HR7:=iH (HR6.out.grown hg (by simp;omega));have HB7:=iH (HB6.out.grown hg (by simp;omega));have HG7:=iH (grown_trans HG6.out hg);clear KU htk hq hg H6 HR6 HB6 HG6;have KU:=iH (take_rd 2 sDot H7.out);go_wp2_with fail;refine KU.out.mono ?_;rintro e w8 ⟨d2,i4,b4,htk,rfl,hq,hg,huszd2,hund2⟩;have HTK4:=iH htk;have hs8:=hg.size;have H8:=iH hq;have HR8:=iH (HR7.out.grown hg (by simp;omega));have HB8:=iH (HB7.out.grown hg (by simp;omega));have HG8:=iH (grown_trans HG7.out hg);clear KU htk hq hg H7 HR7 HB7 HG7;have KU:=iH (take_rd 1 ⟨#[]⟩ H8.out);go_wp2_with fail;refine KU.out.mono ?_;rintro e w9 ⟨v,i5,b5,htk,rfl,hq,hg,huszv,hunv⟩;have HTK5:=iH htk;have hs9:=hg.size;have hl8:w3.heap.size<w8.heap.size:=HB8.out.lt;have y6:Below w9.heap.size w9 (w9.alloc (.cells #[.int .i64 v.kind,.string v.text,.int .i64 v.num,.int .i64 v.at_] 153)):=(Below.refl _ _).alloc (Nat.le_refl _) _;have H10:=iH (hq.below y6);have HR9:=HR8.out.grown hg (by simp;omega);have HB9:=HB8.out.grown hg (by simp;omega);have HR10:=iH (HR9.below y6 HR9.lt);have HB10:=iH (HB9.below y6 HB9.lt);have HT10:=iH (Bk.new w9 153 [.int .i64 v.kind,.string v.text,.int .i64 v.num,.int .i64 v.at_]);have HG10:=iH (grown_trans (grown_trans HG8.out hg) (grown_of_below y6 _));clear KU htk hq hg y6 H8 HR8 HB8 HG8 HR9 HB9;go_upto_region 37 with fail;generalize(w9.alloc (.cells #[.int .i64 v.kind,.string v.text,.int .i64 v.num,.int .i64 v.at_] 153))=wt at *;have u0:=HT10.out.k0;have u1:=HT10.out.k1;have u2:=HT10.out.k2;have u3:=HT10.out.k3;have ul:=HT10.out.lt;have m0:=HB10.out.k0;have m1:=HB10.out.k1;have m2:=HB10.out.k2;have m3:=HB10.out.k3;have ml:=HB10.out.lt;have mf:=HB10.out.frozen 2;go_upto_region 39 with fail;have HB8:=iH (HB10.out.set 2 (.int .i64 v.num));have HR8:=iH (HR10.out.setOther (b:=w3.heap.size) (k:=2) (u:=.int .i64 v.num) (by omega));have H8:=iH (H10.out.far (k:=2) HB10.out hp3 (by decide) (by decide) (by decide) (.int .i64 v.num));have HG8:=iH (grown_fresh (k:=2) (u:=.int .i64 v.num) HG10.out (by omega:W.heap.size<=w3.heap.size));have HTS:Hid (t.text.size<=8192):=iH HTK.out.1;have HIA:=iH hunu;have HIB:=iH hunv;have HOPO:t.text=sTick∨t.text=sStep:=by rw[HOP.out];first | exact .inl rfl | exact .inr rfl
 have HISTWO:isTwo t.text=true:=by rw[HOP.out];decide
 clear H10 HR10 HB10 HT10 HG10 u0 u1 u2 u3 ul m0 m1 m2 m3 ml mf;generalize(wt.setCell ⟨w3.heap.size,2,none⟩ (.int .i64 v.num))=w8 at *;refine wp_region_X (fun w'=>Bk w' pb 150 [.slice m.si.A m.si.n m.si.c,.slice m.sr.A m.sr.n m.sr.c,.slice m.st.A m.st.n m.st.c,.slice m.sx.A m.sx.n m.sx.c,.slice (some ⟨bb,off,none⟩) n c,.int .i64 (i5:Int),.bool b5,.int .i64 st.1,.int .i64 st.2]∧Bk w' w3.heap.size 35 [.string t.text,.int .i64 u.num,.int .i64 v.num,.slice none 0 0]) 7 (n:=7) rfl (by kernel_rfl) (⟨H8.out.drew.pk,HB8.out.drew⟩) (fun hS=>?_);refine tU 0 (some 149) (v:=?_) rfl ⟨rfl,?_⟩ hS ?_;rotate_left
 ·intro w' hS';(go_simp;try with_reducible rfl)
 simp only[Act.put,Pa,Pb,Pc];refine tU 1 (some 150) (v:=?_) rfl ⟨rfl,?_⟩ hS ?_;rotate_left
 ·intro w' hS';(go_simp;try with_reducible rfl)
 simp only[Act.put,Pa,Pb,Pc];refine tU 2 (some 151) (v:=?_) rfl ⟨rfl,?_⟩ hS ?_;rotate_left
 ·intro w' hS';(go_simp;try with_reducible rfl)
 simp only[Act.put,Pa,Pb,Pc];refine tU 3 (some 152) (v:=?_) rfl ⟨rfl,?_⟩ hS ?_;rotate_left
 ·intro w' hS';have e0:=hS'.1.k0;have e1:=hS'.1.k1;have e2:=hS'.1.k2;have e3:=hS'.1.k3;have e4:=hS'.1.k4;have e5:=hS'.1.k5;have e6:=hS'.1.k6;have e7:=hS'.1.k7;have e8:=hS'.1.k8;have el:=hS'.1.lt;have v0:=hS'.2.k0;have v1:=hS'.2.k1;have v2:=hS'.2.k2;have v3:=hS'.2.k3;have vl:=hS'.2.lt;(go_simp;try with_reducible rfl)
 simp only[Act.put,Pa,Pb,Pc];refine tU 4 (some 153) (v:=?_) rfl ⟨rfl,?_⟩ hS ?_;rotate_left
 ·intro w' hS';have e0:=hS'.1.k0;have e1:=hS'.1.k1;have e2:=hS'.1.k2;have e3:=hS'.1.k3;have e4:=hS'.1.k4;have e5:=hS'.1.k5;have e6:=hS'.1.k6;have e7:=hS'.1.k7;have e8:=hS'.1.k8;have el:=hS'.1.lt;have v0:=hS'.2.k0;have v1:=hS'.2.k1;have v2:=hS'.2.k2;have v3:=hS'.2.k3;have vl:=hS'.2.lt;(go_simp;try with_reducible rfl)
 simp only[Act.put,Pa,Pb,Pc];refine X_o 5 rfl fun K hK=>?_;go_simp;have K1:=iH (rown_any (w:=w8.drew) t.text u.num v.num none 0 0 m.si m.sr m.st m.sx (by omega) (by have:=H8.out.its.small;omega) (by have:=H8.out.rus.small;omega));have HE:=iH (own5_two (ni:=m.si.n) (nr:=m.sr.n) (a:=u.num) (b:=v.num) HOPO);generalize aloneE m.si.n m.sr.n t.text u.num v.num 0=E at *;(with_reducible refine K1.out.mono ?_);rintro e wa ⟨rfl,hb⟩;have hd:=(Below.refl w8.heap.size w8).drew.trans hb;have Ha:=iH (H8.out.below hd);have HRa:=iH (HR8.out.below hd HR8.out.lt);have HBa:=iH (HB8.out.below hd HB8.out.lt);have HGa:=iH (grown_trans HG8.out (grown_of_below hd _));refine hK _ _ ⟨Ha.out.pk,HBa.out⟩ ?_;clear hK K1 hb hd H8 HR8 HB8 HG8;refine tU 6 (some 155) (v:=?_) rfl ⟨rfl,?_⟩ ⟨Ha.out.pk,HBa.out⟩ ?_;rotate_left
 ·intro w' hS';(go_simp;try with_reducible rfl)
 simp only[Act.put,Pa,Pb,Pc];refine X_done (by kernel_rfl) ?_;clear hS;by_cases hE:E=5
 ·have hrg:rangeOk t.text u.num v.num=false:=HE.out.mp hE;have HREL:=iH (nums_rel2 (st:=st) (st':=st.note 5 v.at_) HISTWO HTK2.out HTK3.out HTK4.out HTK5.out (by rw[hrg];rfl));subst hE;have KF:=iH (fail_rd 5 v.at_ Ha.out);clear hrg HE;go_wp2_with fail;refine KF.out.mono ?_;rintro e w9 ⟨rfl,hq,hg⟩;have HQA:=iH hq;have HB:=iH (HBa.out.grown hg (by simp;omega));have HR:=iH (HRa.out.grown hg (by simp;omega));have HGA:=iH (grown_trans HGa.out hg);clear KF hq hg Ha HRa HBa HGa;have m0:=HB.out.k0;have m1:=HB.out.k1;have m2:=HB.out.k2;have m3:=HB.out.k3;have ml:=HB.out.lt;have r0:=HR.out.k0;have r1:=HR.out.k1;have r2:=HR.out.k2;have r3:=HR.out.k3;have rl:=HR.out.lt;have rf0:=HR.out.frozen 0;have rf1:=HR.out.frozen 1;have rf2:=HR.out.frozen 2;have rf3:=HR.out.frozen 3;go_wp2;have hX:=lay_mq (M:=⟨t.text,u.num,v.num,[],⟨none,0,0⟩⟩) HR.out HQA.out HGA.out (by omega) (Nat.le_refl _) (leaf_mk _ _ HTS.out HIA.out HIB.out);dsimp only at hX;generalize((((w9.setCell ⟨W.heap.size,0,none⟩ (.string t.text)).setCell ⟨W.heap.size,1,none⟩ (.int .i64 u.num)).setCell ⟨W.heap.size,2,none⟩ (.int .i64 v.num)).setCell ⟨W.heap.size,3,none⟩ (.slice none 0 0))=X at *;have HXB:=hX.2.2.2;have xx0:=HXB.k0;have xx1:=HXB.k1;have xx2:=HXB.k2;have xx3:=HXB.k3;refine bodyPost_ret (v:=.agg #[.string t.text,.int .i64 u.num,.int .i64 v.num,.slice none 0 0]) (by simp[results,Tryz.results135,go_sem,xx0,xx1,xx2,xx3]) rfl ?_;exact⟨⟨t.text,u.num,v.num,[],⟨none,0,0⟩⟩,i5,b5,(st.note 5 v.at_),rfl,hX.1,hX.2.1,hX.2.2.1,HREL.out⟩
 ·have hE1:(E == 5)=false:=by simpa using hE
  have hrg:rangeOk t.text u.num v.num=true:=by
   cases hq:rangeOk t.text u.num v.num with
   | true=>rfl
   | false=>exact absurd (HE.out.mpr hq) hE
  have HREL:=iH (nums_rel2 (st:=st) (st':=st) HISTWO HTK2.out HTK3.out HTK4.out HTK5.out (by rw[hrg];rfl));have HQA:=Ha;have HB:=HBa;have HR:=HRa;have HGA:=HGa;clear hrg HE hE Ha HRa HBa HGa;have m0:=HB.out.k0;have m1:=HB.out.k1;have m2:=HB.out.k2;have m3:=HB.out.k3;have ml:=HB.out.lt;have r0:=HR.out.k0;have r1:=HR.out.k1;have r2:=HR.out.k2;have r3:=HR.out.k3;have rl:=HR.out.lt;have rf0:=HR.out.frozen 0;have rf1:=HR.out.frozen 1;have rf2:=HR.out.frozen 2;have rf3:=HR.out.frozen 3;go_wp2;have hX:=lay_mq (M:=⟨t.text,u.num,v.num,[],⟨none,0,0⟩⟩) HR.out HQA.out HGA.out (by omega) (Nat.le_refl _) (leaf_mk _ _ HTS.out HIA.out HIB.out);dsimp only at hX;generalize((((wa.setCell ⟨W.heap.size,0,none⟩ (.string t.text)).setCell ⟨W.heap.size,1,none⟩ (.int .i64 u.num)).setCell ⟨W.heap.size,2,none⟩ (.int .i64 v.num)).setCell ⟨W.heap.size,3,none⟩ (.slice none 0 0))=X at *;have HXB:=hX.2.2.2;have xx0:=HXB.k0;have xx1:=HXB.k1;have xx2:=HXB.k2;have xx3:=HXB.k3;refine bodyPost_ret (v:=.agg #[.string t.text,.int .i64 u.num,.int .i64 v.num,.slice none 0 0]) (by simp[results,Tryz.results135,go_sem,xx0,xx1,xx2,xx3]) rfl ?_;exact⟨⟨t.text,u.num,v.num,[],⟨none,0,0⟩⟩,i5,b5,st,rfl,hX.1,hX.2.1,hX.2.2.1,HREL.out⟩
theorem cond_Step {W:World} {pb:Nat} {m:CatM} {T:List Tok} {A:Option Addr} {n c i:Nat} {st:PSt} {t:Tok} (h:QAt W pb m T A n c i false st) (hi:i<n) (ht:T[i]? = some t) (hop:t.text=sStep) :
 Calls Tryz.prog 135 #[.pointer (some ⟨pb,0,none⟩)] W (RPost W pb m T A n c (condP kindNs (m.rules.map RuM.name) (m.items.map It.name) (T.drop i) st)):=by
 have H:=iH h;have hpl:=h.pk.lt;have hfew:=h.few;have hit:i<T.length:=by have:=h.len;omega
 obtain⟨bb,off,rfl,hel,hbb⟩:=h.at_ hit;have HEL:Hid (∀w',Below W.heap.size W w'->((w'.cell? ⟨bb,off+i*4,none⟩=some (.int .i64 T[i].kind)∧w'.cell? ⟨bb,off+i*4+1,none⟩=some (.string T[i].text)∧w'.cell? ⟨bb,off+i*4+2,none⟩=some (.int .i64 T[i].num)∧w'.cell? ⟨bb,off+i*4+3,none⟩=some (.int .i64 T[i].at_))∧bb<w'.heap.size)):=iH fun U hU =>
  ⟨⟨(hU.cell (p:=⟨bb,off+i*4,none⟩) hbb).trans hel.1,(hU.cell (p:=⟨bb,off+i*4+1,none⟩) hbb).trans hel.2.1,(hU.cell (p:=⟨bb,off+i*4+2,none⟩) hbb).trans hel.2.2.1,(hU.cell (p:=⟨bb,off+i*4+3,none⟩) hbb).trans hel.2.2.2⟩,Nat.lt_of_lt_of_le hbb hU.size⟩
 have hiI:(i:Int)<n:=by omega
 have hni:¬ n<=i:=by omega
 have hnI:(n:Int)<=8192:=by omega
 have htt:T[i]=t:=by rw[List.getElem?_eq_getElem hit]at ht;exact Option.some.inj ht
 rw[htt]at HEL;have y1:Below W.heap.size W (W.alloc (.cells #[.string ⟨#[]⟩,.int .i64 0,.int .i64 0,.slice none 0 0] 35)):=(Below.refl _ _).alloc (Nat.le_refl _) _;have Y1:=iH y1;have H1:=iH (h.below y1);have HR:=iH (Bk.new W 35 [.string ⟨#[]⟩,.int .i64 0,.int .i64 0,.slice none 0 0]);have HTK:=iH (h.toks t (by rw[<- htt];exact List.getElem_mem hit));clear hel hbb htt y1 h;have HQ:Hid (T.drop i=t :: T.drop (i+1)):=iH (by rw[List.drop_eq_getElem_cons hit];rw[List.getElem?_eq_getElem hit]at ht;rw[Option.some.inj ht]);have hio:isOp t.text=true:=by rw[hop];decide
 have hk0:t.kind=0:=HTK.out.2.2.1 (by rw[hop];decide);have HX:Hid (¬ ixOf condNs t.text<0):=iH (by rw[ix_isOp,hio];simp);have qKind:(t.text.toList == [107,105,110,100])=false:=by rw[hop,<- lKind',eqL];decide
 have qActor:(t.text.toList == [97,99,116,111,114])=false:=by rw[hop,<- lActor',eqL];decide
 have qRule:(t.text.toList == [114,117,108,101])=false:=by rw[hop,<- lRule',eqL];decide
 have qTick:(t.text.toList == [116,105,99,107])=false:=by rw[hop,<- lTick',eqL];decide
 have qItem:(t.text.toList == [105,116,101,109])=false:=by rw[hop,<- lItem',eqL];decide
 have qMore:(t.text.toList == [109,111,114,101])=false:=by rw[hop,<- lMore',eqL];decide
 have qStep:(t.text.toList == [115,116,101,112])=true:=by rw[hop,<- lStep',eqL];decide
 have qAccount:(t.text.toList == [97,99,99,111,117,110,116])=false:=by rw[hop,<- lAccount',eqL];decide
 have HOP:=iH hop;clear hit hio hop;have HR0:condP kindNs (m.rules.map RuM.name) (m.items.map It.name) (T.drop i) st=numsP t.text (T.drop (i+1)) st:=by
  rw[HQ.out];simp only[condP];rw[if_neg (by rw[hk0,HOP.out];decide),if_neg (by rw[HOP.out];decide),if_neg (by rw[HOP.out];decide),if_neg (by rw[HOP.out];decide),if_neg (by rw[HOP.out];decide)]
 rw[HR0];clear HR0;go_enter Tryz.func135,Tryz.ntmps135;go_wp2;refine wp_region_X (fun w'=>Bk w' pb 150 [.slice m.si.A m.si.n m.si.c,.slice m.sr.A m.sr.n m.sr.c,.slice m.st.A m.st.n m.st.c,.slice m.sx.A m.sx.n m.sx.c,.slice (some ⟨bb,off,none⟩) n c,.int .i64 (i:Int),.bool false,.int .i64 st.1,.int .i64 st.2]∧((w'.cell? ⟨bb,off+i*4,none⟩=some (.int .i64 t.kind)∧w'.cell? ⟨bb,off+i*4+1,none⟩=some (.string t.text)∧w'.cell? ⟨bb,off+i*4+2,none⟩=some (.int .i64 t.num)∧w'.cell? ⟨bb,off+i*4+3,none⟩=some (.int .i64 t.at_))∧bb<w'.heap.size)) 26 (n:=26) rfl (by kernel_rfl) (⟨H1.out.pk.drew,HEL.out _ Y1.out.drew⟩) (fun hS=>?_);refine tU 0 (some 12) (v:=?_) rfl ⟨rfl,?_⟩ hS ?_;rotate_left
 ·intro w' hS';(go_simp;try with_reducible rfl)
 simp only[Act.put,Pa,Pb,Pc];refine tU 1 (some 13) (v:=?_) rfl ⟨rfl,?_⟩ hS ?_;rotate_left
 ·intro w' hS';(go_simp;try with_reducible rfl)
 simp only[Act.put,Pa,Pb,Pc];refine tU 2 (some 14) (v:=?_) rfl ⟨rfl,?_⟩ hS ?_;rotate_left
 ·intro w' hS';(go_simp;try with_reducible rfl)
 simp only[Act.put,Pa,Pb,Pc];refine tU 3 (some 15) (v:=?_) rfl ⟨rfl,?_⟩ hS ?_;rotate_left
 ·intro w' hS';have e0:=hS'.1.k0;have e1:=hS'.1.k1;have e2:=hS'.1.k2;have e3:=hS'.1.k3;have e4:=hS'.1.k4;have e5:=hS'.1.k5;have e6:=hS'.1.k6;have e7:=hS'.1.k7;have e8:=hS'.1.k8;have el:=hS'.1.lt;have t0:=hS'.2.1.1;have t1:=hS'.2.1.2.1;have t2:=hS'.2.1.2.2.1;have t3:=hS'.2.1.2.2.2;have tl:=hS'.2.2;(go_simp;try with_reducible rfl)
 simp only[Act.put,Pa,Pb,Pc];refine tU 4 (some 16) (v:=?_) rfl ⟨rfl,?_⟩ hS ?_;rotate_left
 ·intro w' hS';(go_simp;try with_reducible rfl)
 simp only[Act.put,Pa,Pb,Pc];refine tU 5 (some 17) (v:=?_) rfl ⟨rfl,?_⟩ hS ?_;rotate_left
 ·intro w' hS';(go_simp;try with_reducible rfl)
 simp only[Act.put,Pa,Pb,Pc];refine tU 6 (some 18) (v:=?_) rfl ⟨rfl,?_⟩ hS ?_;rotate_left
 ·intro w' hS';(go_simp;try with_reducible rfl)
 simp only[Act.put,Pa,Pb,Pc];refine tU 7 (some 19) (v:=?_) rfl ⟨rfl,?_⟩ hS ?_;rotate_left
 ·intro w' hS';have e0:=hS'.1.k0;have e1:=hS'.1.k1;have e2:=hS'.1.k2;have e3:=hS'.1.k3;have e4:=hS'.1.k4;have e5:=hS'.1.k5;have e6:=hS'.1.k6;have e7:=hS'.1.k7;have e8:=hS'.1.k8;have el:=hS'.1.lt;have t0:=hS'.2.1.1;have t1:=hS'.2.1.2.1;have t2:=hS'.2.1.2.2.1;have t3:=hS'.2.1.2.2.2;have tl:=hS'.2.2;(go_simp;try with_reducible rfl)
 simp only[Act.put,Pa,Pb,Pc];refine tU 8 (some 20) (v:=?_) rfl ⟨rfl,?_⟩ hS ?_;rotate_left
 ·intro w' hS';(go_simp;try with_reducible rfl)
 simp only[Act.put,Pa,Pb,Pc];refine tU 9 (some 21) (v:=?_) rfl ⟨rfl,?_⟩ hS ?_;rotate_left
 ·intro w' hS';(go_simp;try with_reducible rfl)
 simp only[Act.put,Pa,Pb,Pc];refine tU 10 (some 22) (v:=?_) rfl ⟨rfl,?_⟩ hS ?_;rotate_left
 ·intro w' hS';(go_simp;try with_reducible rfl)
 simp only[Act.put,Pa,Pb,Pc];refine tU 12 (some 24) (v:=?_) rfl ⟨rfl,?_⟩ hS ?_;rotate_left
 ·intro w' hS';(go_simp;try with_reducible rfl)
 simp only[Act.put,Pa,Pb,Pc];refine tU 13 (some 25) (v:=?_) rfl ⟨rfl,?_⟩ hS ?_;rotate_left
 ·intro w' hS';(go_simp;try with_reducible rfl)
 simp only[Act.put,Pa,Pb,Pc];refine tU 14 (some 26) (v:=?_) rfl ⟨rfl,?_⟩ hS ?_;rotate_left
 ·intro w' hS';(go_simp;try with_reducible rfl)
 simp only[Act.put,Pa,Pb,Pc];refine tU 15 (some 27) (v:=?_) rfl ⟨rfl,?_⟩ hS ?_;rotate_left
 ·intro w' hS';have e0:=hS'.1.k0;have e1:=hS'.1.k1;have e2:=hS'.1.k2;have e3:=hS'.1.k3;have e4:=hS'.1.k4;have e5:=hS'.1.k5;have e6:=hS'.1.k6;have e7:=hS'.1.k7;have e8:=hS'.1.k8;have el:=hS'.1.lt;have t0:=hS'.2.1.1;have t1:=hS'.2.1.2.1;have t2:=hS'.2.1.2.2.1;have t3:=hS'.2.1.2.2.2;have tl:=hS'.2.2;(go_simp;try with_reducible rfl)
 simp only[Act.put,Pa,Pb,Pc];refine tU 16 (some 28) (v:=?_) rfl ⟨rfl,?_⟩ hS ?_;rotate_left
 ·intro w' hS';(go_simp;try with_reducible rfl)
 simp only[Act.put,Pa,Pb,Pc];refine tU 17 (some 29) (v:=?_) rfl ⟨rfl,?_⟩ hS ?_;rotate_left
 ·intro w' hS';(go_simp;try with_reducible rfl)
 simp only[Act.put,Pa,Pb,Pc];refine tU 18 (some 30) (v:=?_) rfl ⟨rfl,?_⟩ hS ?_;rotate_left
 ·intro w' hS';(go_simp;try with_reducible rfl)
 simp only[Act.put,Pa,Pb,Pc];refine tU 19 (some 31) (v:=?_) rfl ⟨rfl,?_⟩ hS ?_;rotate_left
 ·intro w' hS';have e0:=hS'.1.k0;have e1:=hS'.1.k1;have e2:=hS'.1.k2;have e3:=hS'.1.k3;have e4:=hS'.1.k4;have e5:=hS'.1.k5;have e6:=hS'.1.k6;have e7:=hS'.1.k7;have e8:=hS'.1.k8;have el:=hS'.1.lt;have t0:=hS'.2.1.1;have t1:=hS'.2.1.2.1;have t2:=hS'.2.1.2.2.1;have t3:=hS'.2.1.2.2.2;have tl:=hS'.2.2;(go_simp;try with_reducible rfl)
 simp only[Act.put,Pa,Pb,Pc];refine tU 20 (some 32) (v:=?_) rfl ⟨rfl,?_⟩ hS ?_;rotate_left
 ·intro w' hS';(go_simp;try with_reducible rfl)
 simp only[Act.put,Pa,Pb,Pc];refine tU 21 (some 33) (v:=?_) rfl ⟨rfl,?_⟩ hS ?_;rotate_left
 ·intro w' hS';(go_simp;try with_reducible rfl)
 simp only[Act.put,Pa,Pb,Pc];refine tU 22 (some 34) (v:=?_) rfl ⟨rfl,?_⟩ hS ?_;rotate_left
 ·intro w' hS';have e0:=hS'.1.k0;have e1:=hS'.1.k1;have e2:=hS'.1.k2;have e3:=hS'.1.k3;have e4:=hS'.1.k4;have e5:=hS'.1.k5;have e6:=hS'.1.k6;have e7:=hS'.1.k7;have e8:=hS'.1.k8;have el:=hS'.1.lt;have t0:=hS'.2.1.1;have t1:=hS'.2.1.2.1;have t2:=hS'.2.1.2.2.1;have t3:=hS'.2.1.2.2.2;have tl:=hS'.2.2;(go_simp;try with_reducible rfl)
 simp only[Act.put,Pa,Pb,Pc];refine X_o 11 rfl fun K hK=>?_;go_simp;have K1:=iH (condNs_any (W.alloc (.cells #[.string ⟨#[]⟩,.int .i64 0,.int .i64 0,.slice none 0 0] 35)).drew);(with_reducible refine K1.out.mono ?_);rintro e w2 ⟨A1,n1,c1,rfl,hnm,hb⟩;have hd:=(Below.refl (W.alloc (.cells #[.string ⟨#[]⟩,.int .i64 0,.int .i64 0,.slice none 0 0] 35)).heap.size (W.alloc (.cells #[.string ⟨#[]⟩,.int .i64 0,.int .i64 0,.slice none 0 0] 35))).drew.trans hb;have Y2:=iH (Y1.out.trans (hd.mono Y1.out.size));have H2:=iH (H1.out.below hd);have HR2:=iH (HR.out.below hd HR.out.lt);have HNM:=iH hnm;refine hK _ _ ⟨H2.out.pk,HEL.out _ Y2.out⟩ ?_;clear hK K1 hnm hb hd;refine X_o 23 rfl fun K hK=>?_;go_simp;have K1:=iH (rindex_any (c:=c1) t.text HNM.out);(with_reducible refine K1.out.mono ?_);rintro e w2 ⟨rfl,rfl⟩;refine hK _ _ ⟨H2.out.pk,HEL.out _ Y2.out⟩ ?_;clear hK K1 HNM;refine tU 24 (some 36) (v:=?_) rfl ⟨rfl,?_⟩ ⟨H2.out.pk,HEL.out _ Y2.out⟩ ?_;rotate_left
 ·intro w' hS';(go_simp;try with_reducible rfl)
 simp only[Act.put,Pa,Pb,Pc];refine tU 25 (some 37) (v:=?_) rfl ⟨rfl,?_⟩ ⟨H2.out.pk,HEL.out _ Y2.out⟩ ?_;rotate_left
 ·intro w' hS';(go_simp;try with_reducible rfl)
 simp only[Act.put,Pa,Pb,Pc];refine X_done (by kernel_rfl) ?_;clear hS;have hx1:¬ ixOf condNs t.text<0:=by have:=HX.out;omega
 generalize ixOf condNs t.text=ix at *;have KT:=iH (take_yes 0 ⟨#[]⟩ H2.out hi ht hk0 (.inl rfl));rw[hk0]at KT;have hfd:=fun w=>field153 0 t.num t.at_ t.text w
 go_wp2_with fail;refine KT.out.mono ?_;rintro e w3 ⟨rfl,hq,hg⟩;have H3:=iH hq;have HR3:=iH (HR2.out.grown hg (by simp;omega));have HG3:=iH (grown_trans (grown_of_below Y2.out (some pb)) hg);have y4:Below w3.heap.size w3 (w3.alloc (.cells #[.string t.text,.int .i64 0,.int .i64 0,.slice none 0 0] 35)):=(Below.refl _ _).alloc (Nat.le_refl _) _;have H4:=iH (hq.below y4);have HR4:=iH (HR3.out.below y4 HR3.out.lt);have HB4:=iH (Bk.new w3 35 [.string t.text,.int .i64 0,.int .i64 0,.slice none 0 0]);have HG4:=iH (grown_trans HG3.out (grown_of_below y4 _));have hp3:pb<w3.heap.size:=hq.pk.lt;have hr3:W.heap.size<w3.heap.size:=HR3.out.lt;have b40:(w3.alloc (.cells #[.string t.text,.int .i64 0,.int .i64 0,.slice none 0 0] 35)).cell? ⟨w3.heap.size,0,none⟩=some (.string t.text):=HB4.out.cell 0;have b4l:=HB4.out.lt;clear KT hq hg y4 H2 HR2 Y2 H3 HR3 HG3 HX hx1;have KU:=iH (take_rd 1 ⟨#[]⟩ H4.out);go_wp2_with fail;refine KU.out.mono ?_;rintro e w5 ⟨u,i2,b2,htk,rfl,hq,hg,huszu,hunu⟩;have HTK2:=iH htk;have hs5:=hg.size;have H5:=iH hq;have HR5:=iH (HR4.out.grown hg (by simp;omega));have HB5:=iH (HB4.out.grown hg (by simp;omega));have HG5:=iH (grown_trans HG4.out hg);clear KU htk hq hg H4 HR4 HB4 HG4;have hfn:=fun w=>field153n u.kind u.num u.at_ u.text w
 have m0:=HB5.out.k0;have m1:=HB5.out.k1;have m2:=HB5.out.k2;have m3:=HB5.out.k3;have ml:=HB5.out.lt;have mf:=HB5.out.frozen 1;go_upto_region 34 with fail;have HB6:=iH (HB5.out.set 1 (.int .i64 u.num));have HR6:=iH (HR5.out.setOther (b:=w3.heap.size) (k:=1) (u:=.int .i64 u.num) (by omega));have H6:=iH (H5.out.far (k:=1) HB5.out hp3 (by decide) (by decide) (by decide) (.int .i64 u.num));have HG6:=iH (grown_fresh (k:=1) (u:=.int .i64 u.num) HG5.out (by omega:W.heap.size<=w3.heap.size));clear H5 HR5 HB5 HG5;clear m0 m1 m2 m3 ml mf b40 b4l hfn;generalize(w5.setCell ⟨w3.heap.size,1,none⟩ (.int .i64 u.num))=w6 at *;have KU:=iH (take_rd 2 sDot H6.out);go_wp2_with fail;refine KU.out.mono ?_;rintro e w7 ⟨d1,i3,b3,htk,rfl,hq,hg,huszd1,hund1⟩;have HTK3:=iH htk;have hs7:=hg.size;have H7:=iH hq;have HR7:=iH (HR6.out.grown hg (by simp;omega));have HB7:=iH (HB6.out.grown hg (by simp;omega));have HG7:=iH (grown_trans HG6.out hg);clear KU htk hq hg H6 HR6 HB6 HG6;have KU:=iH (take_rd 2 sDot H7.out);go_wp2_with fail;refine KU.out.mono ?_;rintro e w8 ⟨d2,i4,b4,htk,rfl,hq,hg,huszd2,hund2⟩;have HTK4:=iH htk;have hs8:=hg.size;have H8:=iH hq;have HR8:=iH (HR7.out.grown hg (by simp;omega));have HB8:=iH (HB7.out.grown hg (by simp;omega));have HG8:=iH (grown_trans HG7.out hg);clear KU htk hq hg H7 HR7 HB7 HG7;have KU:=iH (take_rd 1 ⟨#[]⟩ H8.out);go_wp2_with fail;refine KU.out.mono ?_;rintro e w9 ⟨v,i5,b5,htk,rfl,hq,hg,huszv,hunv⟩;have HTK5:=iH htk;have hs9:=hg.size;have hl8:w3.heap.size<w8.heap.size:=HB8.out.lt;have y6:Below w9.heap.size w9 (w9.alloc (.cells #[.int .i64 v.kind,.string v.text,.int .i64 v.num,.int .i64 v.at_] 153)):=(Below.refl _ _).alloc (Nat.le_refl _) _;have H10:=iH (hq.below y6);have HR9:=HR8.out.grown hg (by simp;omega);have HB9:=HB8.out.grown hg (by simp;omega);have HR10:=iH (HR9.below y6 HR9.lt);have HB10:=iH (HB9.below y6 HB9.lt);have HT10:=iH (Bk.new w9 153 [.int .i64 v.kind,.string v.text,.int .i64 v.num,.int .i64 v.at_]);have HG10:=iH (grown_trans (grown_trans HG8.out hg) (grown_of_below y6 _));clear KU htk hq hg y6 H8 HR8 HB8 HG8 HR9 HB9;go_upto_region 37 with fail;generalize(w9.alloc (.cells #[.int .i64 v.kind,.string v.text,.int .i64 v.num,.int .i64 v.at_] 153))=wt at *;have u0:=HT10.out.k0;have u1:=HT10.out.k1;have u2:=HT10.out.k2;have u3:=HT10.out.k3;have ul:=HT10.out.lt;have m0:=HB10.out.k0;have m1:=HB10.out.k1;have m2:=HB10.out.k2;have m3:=HB10.out.k3;have ml:=HB10.out.lt;have mf:=HB10.out.frozen 2;go_upto_region 39 with fail;have HB8:=iH (HB10.out.set 2 (.int .i64 v.num));have HR8:=iH (HR10.out.setOther (b:=w3.heap.size) (k:=2) (u:=.int .i64 v.num) (by omega));have H8:=iH (H10.out.far (k:=2) HB10.out hp3 (by decide) (by decide) (by decide) (.int .i64 v.num));have HG8:=iH (grown_fresh (k:=2) (u:=.int .i64 v.num) HG10.out (by omega:W.heap.size<=w3.heap.size));have HTS:Hid (t.text.size<=8192):=iH HTK.out.1;have HIA:=iH hunu;have HIB:=iH hunv;have HOPO:t.text=sTick∨t.text=sStep:=by rw[HOP.out];first | exact .inl rfl | exact .inr rfl
 have HISTWO:isTwo t.text=true:=by rw[HOP.out];decide
 clear H10 HR10 HB10 HT10 HG10 u0 u1 u2 u3 ul m0 m1 m2 m3 ml mf;generalize(wt.setCell ⟨w3.heap.size,2,none⟩ (.int .i64 v.num))=w8 at *;refine wp_region_X (fun w'=>Bk w' pb 150 [.slice m.si.A m.si.n m.si.c,.slice m.sr.A m.sr.n m.sr.c,.slice m.st.A m.st.n m.st.c,.slice m.sx.A m.sx.n m.sx.c,.slice (some ⟨bb,off,none⟩) n c,.int .i64 (i5:Int),.bool b5,.int .i64 st.1,.int .i64 st.2]∧Bk w' w3.heap.size 35 [.string t.text,.int .i64 u.num,.int .i64 v.num,.slice none 0 0]) 7 (n:=7) rfl (by kernel_rfl) (⟨H8.out.drew.pk,HB8.out.drew⟩) (fun hS=>?_);refine tU 0 (some 149) (v:=?_) rfl ⟨rfl,?_⟩ hS ?_;rotate_left
 ·intro w' hS';(go_simp;try with_reducible rfl)
 simp only[Act.put,Pa,Pb,Pc];refine tU 1 (some 150) (v:=?_) rfl ⟨rfl,?_⟩ hS ?_;rotate_left
 ·intro w' hS';(go_simp;try with_reducible rfl)
 simp only[Act.put,Pa,Pb,Pc];refine tU 2 (some 151) (v:=?_) rfl ⟨rfl,?_⟩ hS ?_;rotate_left
 ·intro w' hS';(go_simp;try with_reducible rfl)
 simp only[Act.put,Pa,Pb,Pc];refine tU 3 (some 152) (v:=?_) rfl ⟨rfl,?_⟩ hS ?_;rotate_left
 ·intro w' hS';have e0:=hS'.1.k0;have e1:=hS'.1.k1;have e2:=hS'.1.k2;have e3:=hS'.1.k3;have e4:=hS'.1.k4;have e5:=hS'.1.k5;have e6:=hS'.1.k6;have e7:=hS'.1.k7;have e8:=hS'.1.k8;have el:=hS'.1.lt;have v0:=hS'.2.k0;have v1:=hS'.2.k1;have v2:=hS'.2.k2;have v3:=hS'.2.k3;have vl:=hS'.2.lt;(go_simp;try with_reducible rfl)
 simp only[Act.put,Pa,Pb,Pc];refine tU 4 (some 153) (v:=?_) rfl ⟨rfl,?_⟩ hS ?_;rotate_left
 ·intro w' hS';have e0:=hS'.1.k0;have e1:=hS'.1.k1;have e2:=hS'.1.k2;have e3:=hS'.1.k3;have e4:=hS'.1.k4;have e5:=hS'.1.k5;have e6:=hS'.1.k6;have e7:=hS'.1.k7;have e8:=hS'.1.k8;have el:=hS'.1.lt;have v0:=hS'.2.k0;have v1:=hS'.2.k1;have v2:=hS'.2.k2;have v3:=hS'.2.k3;have vl:=hS'.2.lt;(go_simp;try with_reducible rfl)
 simp only[Act.put,Pa,Pb,Pc];refine X_o 5 rfl fun K hK=>?_;go_simp;have K1:=iH (rown_any (w:=w8.drew) t.text u.num v.num none 0 0 m.si m.sr m.st m.sx (by omega) (by have:=H8.out.its.small;omega) (by have:=H8.out.rus.small;omega));have HE:=iH (own5_two (ni:=m.si.n) (nr:=m.sr.n) (a:=u.num) (b:=v.num) HOPO);generalize aloneE m.si.n m.sr.n t.text u.num v.num 0=E at *;(with_reducible refine K1.out.mono ?_);rintro e wa ⟨rfl,hb⟩;have hd:=(Below.refl w8.heap.size w8).drew.trans hb;have Ha:=iH (H8.out.below hd);have HRa:=iH (HR8.out.below hd HR8.out.lt);have HBa:=iH (HB8.out.below hd HB8.out.lt);have HGa:=iH (grown_trans HG8.out (grown_of_below hd _));refine hK _ _ ⟨Ha.out.pk,HBa.out⟩ ?_;clear hK K1 hb hd H8 HR8 HB8 HG8;refine tU 6 (some 155) (v:=?_) rfl ⟨rfl,?_⟩ ⟨Ha.out.pk,HBa.out⟩ ?_;rotate_left
 ·intro w' hS';(go_simp;try with_reducible rfl)
 simp only[Act.put,Pa,Pb,Pc];refine X_done (by kernel_rfl) ?_;clear hS;by_cases hE:E=5
 ·have hrg:rangeOk t.text u.num v.num=false:=HE.out.mp hE;have HREL:=iH (nums_rel2 (st:=st) (st':=st.note 5 v.at_) HISTWO HTK2.out HTK3.out HTK4.out HTK5.out (by rw[hrg];rfl));subst hE;have KF:=iH (fail_rd 5 v.at_ Ha.out);clear hrg HE;go_wp2_with fail;refine KF.out.mono ?_;rintro e w9 ⟨rfl,hq,hg⟩;have HQA:=iH hq;have HB:=iH (HBa.out.grown hg (by simp;omega));have HR:=iH (HRa.out.grown hg (by simp;omega));have HGA:=iH (grown_trans HGa.out hg);clear KF hq hg Ha HRa HBa HGa;have m0:=HB.out.k0;have m1:=HB.out.k1;have m2:=HB.out.k2;have m3:=HB.out.k3;have ml:=HB.out.lt;have r0:=HR.out.k0;have r1:=HR.out.k1;have r2:=HR.out.k2;have r3:=HR.out.k3;have rl:=HR.out.lt;have rf0:=HR.out.frozen 0;have rf1:=HR.out.frozen 1;have rf2:=HR.out.frozen 2;have rf3:=HR.out.frozen 3;go_wp2;have hX:=lay_mq (M:=⟨t.text,u.num,v.num,[],⟨none,0,0⟩⟩) HR.out HQA.out HGA.out (by omega) (Nat.le_refl _) (leaf_mk _ _ HTS.out HIA.out HIB.out);dsimp only at hX;generalize((((w9.setCell ⟨W.heap.size,0,none⟩ (.string t.text)).setCell ⟨W.heap.size,1,none⟩ (.int .i64 u.num)).setCell ⟨W.heap.size,2,none⟩ (.int .i64 v.num)).setCell ⟨W.heap.size,3,none⟩ (.slice none 0 0))=X at *;have HXB:=hX.2.2.2;have xx0:=HXB.k0;have xx1:=HXB.k1;have xx2:=HXB.k2;have xx3:=HXB.k3;refine bodyPost_ret (v:=.agg #[.string t.text,.int .i64 u.num,.int .i64 v.num,.slice none 0 0]) (by simp[results,Tryz.results135,go_sem,xx0,xx1,xx2,xx3]) rfl ?_;exact⟨⟨t.text,u.num,v.num,[],⟨none,0,0⟩⟩,i5,b5,(st.note 5 v.at_),rfl,hX.1,hX.2.1,hX.2.2.1,HREL.out⟩
 ·have hE1:(E == 5)=false:=by simpa using hE
  have hrg:rangeOk t.text u.num v.num=true:=by
   cases hq:rangeOk t.text u.num v.num with
   | true=>rfl
   | false=>exact absurd (HE.out.mpr hq) hE
  have HREL:=iH (nums_rel2 (st:=st) (st':=st) HISTWO HTK2.out HTK3.out HTK4.out HTK5.out (by rw[hrg];rfl));have HQA:=Ha;have HB:=HBa;have HR:=HRa;have HGA:=HGa;clear hrg HE hE Ha HRa HBa HGa;have m0:=HB.out.k0;have m1:=HB.out.k1;have m2:=HB.out.k2;have m3:=HB.out.k3;have ml:=HB.out.lt;have r0:=HR.out.k0;have r1:=HR.out.k1;have r2:=HR.out.k2;have r3:=HR.out.k3;have rl:=HR.out.lt;have rf0:=HR.out.frozen 0;have rf1:=HR.out.frozen 1;have rf2:=HR.out.frozen 2;have rf3:=HR.out.frozen 3;go_wp2;have hX:=lay_mq (M:=⟨t.text,u.num,v.num,[],⟨none,0,0⟩⟩) HR.out HQA.out HGA.out (by omega) (Nat.le_refl _) (leaf_mk _ _ HTS.out HIA.out HIB.out);dsimp only at hX;generalize((((wa.setCell ⟨W.heap.size,0,none⟩ (.string t.text)).setCell ⟨W.heap.size,1,none⟩ (.int .i64 u.num)).setCell ⟨W.heap.size,2,none⟩ (.int .i64 v.num)).setCell ⟨W.heap.size,3,none⟩ (.slice none 0 0))=X at *;have HXB:=hX.2.2.2;have xx0:=HXB.k0;have xx1:=HXB.k1;have xx2:=HXB.k2;have xx3:=HXB.k3;refine bodyPost_ret (v:=.agg #[.string t.text,.int .i64 u.num,.int .i64 v.num,.slice none 0 0]) (by simp[results,Tryz.results135,go_sem,xx0,xx1,xx2,xx3]) rfl ?_;exact⟨⟨t.text,u.num,v.num,[],⟨none,0,0⟩⟩,i5,b5,st,rfl,hX.1,hX.2.1,hX.2.2.1,HREL.out⟩
theorem cond_More {W:World} {pb:Nat} {m:CatM} {T:List Tok} {A:Option Addr} {n c i:Nat} {st:PSt} {t:Tok} (h:QAt W pb m T A n c i false st) (hi:i<n) (ht:T[i]? = some t) (hop:t.text=sMore) :
 Calls Tryz.prog 135 #[.pointer (some ⟨pb,0,none⟩)] W (RPost W pb m T A n c (condP kindNs (m.rules.map RuM.name) (m.items.map It.name) (T.drop i) st)):=by
 have H:=iH h;have hpl:=h.pk.lt;have hfew:=h.few;have hit:i<T.length:=by have:=h.len;omega
 obtain⟨bb,off,rfl,hel,hbb⟩:=h.at_ hit;have HEL:Hid (∀w',Below W.heap.size W w'->((w'.cell? ⟨bb,off+i*4,none⟩=some (.int .i64 T[i].kind)∧w'.cell? ⟨bb,off+i*4+1,none⟩=some (.string T[i].text)∧w'.cell? ⟨bb,off+i*4+2,none⟩=some (.int .i64 T[i].num)∧w'.cell? ⟨bb,off+i*4+3,none⟩=some (.int .i64 T[i].at_))∧bb<w'.heap.size)):=iH fun U hU =>
  ⟨⟨(hU.cell (p:=⟨bb,off+i*4,none⟩) hbb).trans hel.1,(hU.cell (p:=⟨bb,off+i*4+1,none⟩) hbb).trans hel.2.1,(hU.cell (p:=⟨bb,off+i*4+2,none⟩) hbb).trans hel.2.2.1,(hU.cell (p:=⟨bb,off+i*4+3,none⟩) hbb).trans hel.2.2.2⟩,Nat.lt_of_lt_of_le hbb hU.size⟩
 have hiI:(i:Int)<n:=by omega
 have hni:¬ n<=i:=by omega
 have hnI:(n:Int)<=8192:=by omega
 have htt:T[i]=t:=by rw[List.getElem?_eq_getElem hit]at ht;exact Option.some.inj ht
 rw[htt]at HEL;have y1:Below W.heap.size W (W.alloc (.cells #[.string ⟨#[]⟩,.int .i64 0,.int .i64 0,.slice none 0 0] 35)):=(Below.refl _ _).alloc (Nat.le_refl _) _;have Y1:=iH y1;have H1:=iH (h.below y1);have HR:=iH (Bk.new W 35 [.string ⟨#[]⟩,.int .i64 0,.int .i64 0,.slice none 0 0]);have HTK:=iH (h.toks t (by rw[<- htt];exact List.getElem_mem hit));clear hel hbb htt y1 h;have HQ:Hid (T.drop i=t :: T.drop (i+1)):=iH (by rw[List.drop_eq_getElem_cons hit];rw[List.getElem?_eq_getElem hit]at ht;rw[Option.some.inj ht]);have hio:isOp t.text=true:=by rw[hop];decide
 have hk0:t.kind=0:=HTK.out.2.2.1 (by rw[hop];decide);have HX:Hid (¬ ixOf condNs t.text<0):=iH (by rw[ix_isOp,hio];simp);have qKind:(t.text.toList == [107,105,110,100])=false:=by rw[hop,<- lKind',eqL];decide
 have qActor:(t.text.toList == [97,99,116,111,114])=false:=by rw[hop,<- lActor',eqL];decide
 have qRule:(t.text.toList == [114,117,108,101])=false:=by rw[hop,<- lRule',eqL];decide
 have qTick:(t.text.toList == [116,105,99,107])=false:=by rw[hop,<- lTick',eqL];decide
 have qItem:(t.text.toList == [105,116,101,109])=false:=by rw[hop,<- lItem',eqL];decide
 have qMore:(t.text.toList == [109,111,114,101])=true:=by rw[hop,<- lMore',eqL];decide
 have qStep:(t.text.toList == [115,116,101,112])=false:=by rw[hop,<- lStep',eqL];decide
 have qAccount:(t.text.toList == [97,99,99,111,117,110,116])=false:=by rw[hop,<- lAccount',eqL];decide
 have HOP:=iH hop;clear hit hio hop;have HR0:condP kindNs (m.rules.map RuM.name) (m.items.map It.name) (T.drop i) st=moreP (m.items.map It.name) (T.drop (i+1)) st:=by
  rw[HQ.out];simp only[condP];rw[if_neg (by rw[hk0,HOP.out];decide),if_neg (by rw[HOP.out];decide),if_neg (by rw[HOP.out];decide),if_neg (by rw[HOP.out];decide),if_pos HOP.out];cases T.drop (i+1) <;> rfl
 rw[HR0];clear HR0;go_enter Tryz.func135,Tryz.ntmps135;go_wp2;refine wp_region_X (fun w'=>Bk w' pb 150 [.slice m.si.A m.si.n m.si.c,.slice m.sr.A m.sr.n m.sr.c,.slice m.st.A m.st.n m.st.c,.slice m.sx.A m.sx.n m.sx.c,.slice (some ⟨bb,off,none⟩) n c,.int .i64 (i:Int),.bool false,.int .i64 st.1,.int .i64 st.2]∧((w'.cell? ⟨bb,off+i*4,none⟩=some (.int .i64 t.kind)∧w'.cell? ⟨bb,off+i*4+1,none⟩=some (.string t.text)∧w'.cell? ⟨bb,off+i*4+2,none⟩=some (.int .i64 t.num)∧w'.cell? ⟨bb,off+i*4+3,none⟩=some (.int .i64 t.at_))∧bb<w'.heap.size)) 26 (n:=26) rfl (by kernel_rfl) (⟨H1.out.pk.drew,HEL.out _ Y1.out.drew⟩) (fun hS=>?_);refine tU 0 (some 12) (v:=?_) rfl ⟨rfl,?_⟩ hS ?_;rotate_left
 ·intro w' hS';(go_simp;try with_reducible rfl)
 simp only[Act.put,Pa,Pb,Pc];refine tU 1 (some 13) (v:=?_) rfl ⟨rfl,?_⟩ hS ?_;rotate_left
 ·intro w' hS';(go_simp;try with_reducible rfl)
 simp only[Act.put,Pa,Pb,Pc];refine tU 2 (some 14) (v:=?_) rfl ⟨rfl,?_⟩ hS ?_;rotate_left
 ·intro w' hS';(go_simp;try with_reducible rfl)
 simp only[Act.put,Pa,Pb,Pc];refine tU 3 (some 15) (v:=?_) rfl ⟨rfl,?_⟩ hS ?_;rotate_left
 ·intro w' hS';have e0:=hS'.1.k0;have e1:=hS'.1.k1;have e2:=hS'.1.k2;have e3:=hS'.1.k3;have e4:=hS'.1.k4;have e5:=hS'.1.k5;have e6:=hS'.1.k6;have e7:=hS'.1.k7;have e8:=hS'.1.k8;have el:=hS'.1.lt;have t0:=hS'.2.1.1;have t1:=hS'.2.1.2.1;have t2:=hS'.2.1.2.2.1;have t3:=hS'.2.1.2.2.2;have tl:=hS'.2.2;(go_simp;try with_reducible rfl)
 simp only[Act.put,Pa,Pb,Pc];refine tU 4 (some 16) (v:=?_) rfl ⟨rfl,?_⟩ hS ?_;rotate_left
 ·intro w' hS';(go_simp;try with_reducible rfl)
 simp only[Act.put,Pa,Pb,Pc];refine tU 5 (some 17) (v:=?_) rfl ⟨rfl,?_⟩ hS ?_;rotate_left
 ·intro w' hS';(go_simp;try with_reducible rfl)
 simp only[Act.put,Pa,Pb,Pc];refine tU 6 (some 18) (v:=?_) rfl ⟨rfl,?_⟩ hS ?_;rotate_left
 ·intro w' hS';(go_simp;try with_reducible rfl)
 simp only[Act.put,Pa,Pb,Pc];refine tU 7 (some 19) (v:=?_) rfl ⟨rfl,?_⟩ hS ?_;rotate_left
 ·intro w' hS';have e0:=hS'.1.k0;have e1:=hS'.1.k1;have e2:=hS'.1.k2;have e3:=hS'.1.k3;have e4:=hS'.1.k4;have e5:=hS'.1.k5;have e6:=hS'.1.k6;have e7:=hS'.1.k7;have e8:=hS'.1.k8;have el:=hS'.1.lt;have t0:=hS'.2.1.1;have t1:=hS'.2.1.2.1;have t2:=hS'.2.1.2.2.1;have t3:=hS'.2.1.2.2.2;have tl:=hS'.2.2;(go_simp;try with_reducible rfl)
 simp only[Act.put,Pa,Pb,Pc];refine tU 8 (some 20) (v:=?_) rfl ⟨rfl,?_⟩ hS ?_;rotate_left
 ·intro w' hS';(go_simp;try with_reducible rfl)
 simp only[Act.put,Pa,Pb,Pc];refine tU 9 (some 21) (v:=?_) rfl ⟨rfl,?_⟩ hS ?_;rotate_left
 ·intro w' hS';(go_simp;try with_reducible rfl)
 simp only[Act.put,Pa,Pb,Pc];refine tU 10 (some 22) (v:=?_) rfl ⟨rfl,?_⟩ hS ?_;rotate_left
 ·intro w' hS';(go_simp;try with_reducible rfl)
 simp only[Act.put,Pa,Pb,Pc];refine tU 12 (some 24) (v:=?_) rfl ⟨rfl,?_⟩ hS ?_;rotate_left
 ·intro w' hS';(go_simp;try with_reducible rfl)
 simp only[Act.put,Pa,Pb,Pc];refine tU 13 (some 25) (v:=?_) rfl ⟨rfl,?_⟩ hS ?_;rotate_left
 ·intro w' hS';(go_simp;try with_reducible rfl)
 simp only[Act.put,Pa,Pb,Pc];refine tU 14 (some 26) (v:=?_) rfl ⟨rfl,?_⟩ hS ?_;rotate_left
 ·intro w' hS';(go_simp;try with_reducible rfl)
 simp only[Act.put,Pa,Pb,Pc];refine tU 15 (some 27) (v:=?_) rfl ⟨rfl,?_⟩ hS ?_;rotate_left
 ·intro w' hS';have e0:=hS'.1.k0;have e1:=hS'.1.k1;have e2:=hS'.1.k2;have e3:=hS'.1.k3;have e4:=hS'.1.k4;have e5:=hS'.1.k5;have e6:=hS'.1.k6;have e7:=hS'.1.k7;have e8:=hS'.1.k8;have el:=hS'.1.lt;have t0:=hS'.2.1.1;have t1:=hS'.2.1.2.1;have t2:=hS'.2.1.2.2.1;have t3:=hS'.2.1.2.2.2;have tl:=hS'.2.2;(go_simp;try with_reducible rfl)
 simp only[Act.put,Pa,Pb,Pc];refine tU 16 (some 28) (v:=?_) rfl ⟨rfl,?_⟩ hS ?_;rotate_left
 ·intro w' hS';(go_simp;try with_reducible rfl)
 simp only[Act.put,Pa,Pb,Pc];refine tU 17 (some 29) (v:=?_) rfl ⟨rfl,?_⟩ hS ?_;rotate_left
 ·intro w' hS';(go_simp;try with_reducible rfl)
 simp only[Act.put,Pa,Pb,Pc];refine tU 18 (some 30) (v:=?_) rfl ⟨rfl,?_⟩ hS ?_;rotate_left
 ·intro w' hS';(go_simp;try with_reducible rfl)
 simp only[Act.put,Pa,Pb,Pc];refine tU 19 (some 31) (v:=?_) rfl ⟨rfl,?_⟩ hS ?_;rotate_left
 ·intro w' hS';have e0:=hS'.1.k0;have e1:=hS'.1.k1;have e2:=hS'.1.k2;have e3:=hS'.1.k3;have e4:=hS'.1.k4;have e5:=hS'.1.k5;have e6:=hS'.1.k6;have e7:=hS'.1.k7;have e8:=hS'.1.k8;have el:=hS'.1.lt;have t0:=hS'.2.1.1;have t1:=hS'.2.1.2.1;have t2:=hS'.2.1.2.2.1;have t3:=hS'.2.1.2.2.2;have tl:=hS'.2.2;(go_simp;try with_reducible rfl)
 simp only[Act.put,Pa,Pb,Pc];refine tU 20 (some 32) (v:=?_) rfl ⟨rfl,?_⟩ hS ?_;rotate_left
 ·intro w' hS';(go_simp;try with_reducible rfl)
 simp only[Act.put,Pa,Pb,Pc];refine tU 21 (some 33) (v:=?_) rfl ⟨rfl,?_⟩ hS ?_;rotate_left
 ·intro w' hS';(go_simp;try with_reducible rfl)
 simp only[Act.put,Pa,Pb,Pc];refine tU 22 (some 34) (v:=?_) rfl ⟨rfl,?_⟩ hS ?_;rotate_left
 ·intro w' hS';have e0:=hS'.1.k0;have e1:=hS'.1.k1;have e2:=hS'.1.k2;have e3:=hS'.1.k3;have e4:=hS'.1.k4;have e5:=hS'.1.k5;have e6:=hS'.1.k6;have e7:=hS'.1.k7;have e8:=hS'.1.k8;have el:=hS'.1.lt;have t0:=hS'.2.1.1;have t1:=hS'.2.1.2.1;have t2:=hS'.2.1.2.2.1;have t3:=hS'.2.1.2.2.2;have tl:=hS'.2.2;(go_simp;try with_reducible rfl)
 simp only[Act.put,Pa,Pb,Pc];refine X_o 11 rfl fun K hK=>?_;go_simp;have K1:=iH (condNs_any (W.alloc (.cells #[.string ⟨#[]⟩,.int .i64 0,.int .i64 0,.slice none 0 0] 35)).drew);(with_reducible refine K1.out.mono ?_);rintro e w2 ⟨A1,n1,c1,rfl,hnm,hb⟩;have hd:=(Below.refl (W.alloc (.cells #[.string ⟨#[]⟩,.int .i64 0,.int .i64 0,.slice none 0 0] 35)).heap.size (W.alloc (.cells #[.string ⟨#[]⟩,.int .i64 0,.int .i64 0,.slice none 0 0] 35))).drew.trans hb;have Y2:=iH (Y1.out.trans (hd.mono Y1.out.size));have H2:=iH (H1.out.below hd);have HR2:=iH (HR.out.below hd HR.out.lt);have HNM:=iH hnm;refine hK _ _ ⟨H2.out.pk,HEL.out _ Y2.out⟩ ?_;clear hK K1 hnm hb hd;refine X_o 23 rfl fun K hK=>?_;go_simp;have K1:=iH (rindex_any (c:=c1) t.text HNM.out);(with_reducible refine K1.out.mono ?_);rintro e w2 ⟨rfl,rfl⟩;refine hK _ _ ⟨H2.out.pk,HEL.out _ Y2.out⟩ ?_;clear hK K1 HNM;refine tU 24 (some 36) (v:=?_) rfl ⟨rfl,?_⟩ ⟨H2.out.pk,HEL.out _ Y2.out⟩ ?_;rotate_left
 ·intro w' hS';(go_simp;try with_reducible rfl)
 simp only[Act.put,Pa,Pb,Pc];refine tU 25 (some 37) (v:=?_) rfl ⟨rfl,?_⟩ ⟨H2.out.pk,HEL.out _ Y2.out⟩ ?_;rotate_left
 ·intro w' hS';(go_simp;try with_reducible rfl)
 simp only[Act.put,Pa,Pb,Pc];refine X_done (by kernel_rfl) ?_;clear hS;have hx1:¬ ixOf condNs t.text<0:=by have:=HX.out;omega
 generalize ixOf condNs t.text=ix at *;have KT:=iH (take_yes 0 ⟨#[]⟩ H2.out hi ht hk0 (.inl rfl));rw[hk0]at KT;have hfd:=fun w=>field153 0 t.num t.at_ t.text w
 go_wp2_with fail;refine KT.out.mono ?_;rintro e w3 ⟨rfl,hq,hg⟩;have H3:=iH hq;have HR3:=iH (HR2.out.grown hg (by simp;omega));have HG3:=iH (grown_trans (grown_of_below Y2.out (some pb)) hg);have y4:Below w3.heap.size w3 (w3.alloc (.cells #[.string t.text,.int .i64 0,.int .i64 0,.slice none 0 0] 35)):=(Below.refl _ _).alloc (Nat.le_refl _) _;have H4:=iH (hq.below y4);have HR4:=iH (HR3.out.below y4 HR3.out.lt);have HB4:=iH (Bk.new w3 35 [.string t.text,.int .i64 0,.int .i64 0,.slice none 0 0]);have HG4:=iH (grown_trans HG3.out (grown_of_below y4 _));have hp3:pb<w3.heap.size:=hq.pk.lt;have hr3:W.heap.size<w3.heap.size:=HR3.out.lt;have b40:(w3.alloc (.cells #[.string t.text,.int .i64 0,.int .i64 0,.slice none 0 0] 35)).cell? ⟨w3.heap.size,0,none⟩=some (.string t.text):=HB4.out.cell 0;have b4l:=HB4.out.lt;clear KT hq hg y4 H2 HR2 Y2 H3 HR3 HG3 HX hx1;have KU:=iH (take_rd 1 ⟨#[]⟩ H4.out);go_wp2_with fail;refine KU.out.mono ?_;rintro e w5 ⟨u,i2,b2,htk,rfl,hq,hg,huszu,hunu⟩;have HTK2:=iH htk;have hs5:=hg.size;have H5:=iH hq;have HR5:=iH (HR4.out.grown hg (by simp;omega));have HB5:=iH (HB4.out.grown hg (by simp;omega));have HG5:=iH (grown_trans HG4.out hg);clear KU htk hq hg H4 HR4 HB4 HG4;have hfn:=fun w=>field153n u.kind u.num u.at_ u.text w
 have m0:=HB5.out.k0;have m1:=HB5.out.k1;have m2:=HB5.out.k2;have m3:=HB5.out.k3;have ml:=HB5.out.lt;have mf:=HB5.out.frozen 1;go_upto_region 25 with fail;have HB6:=iH (HB5.out.set 1 (.int .i64 u.num));have HR6:=iH (HR5.out.setOther (b:=w3.heap.size) (k:=1) (u:=.int .i64 u.num) (by omega));have H6:=iH (H5.out.far (k:=1) HB5.out hp3 (by decide) (by decide) (by decide) (.int .i64 u.num));have HG6:=iH (grown_fresh (k:=1) (u:=.int .i64 u.num) HG5.out (by omega:W.heap.size<=w3.heap.size));clear H5 HR5 HB5 HG5;clear m0 m1 m2 m3 ml mf b40 b4l hfn;generalize(w5.setCell ⟨w3.heap.size,1,none⟩ (.int .i64 u.num))=w6 at *;have KU:=iH (take_rd 0 ⟨#[]⟩ H6.out);have hl6:w3.heap.size<w6.heap.size:=HB6.out.lt;go_wp2_with fail;refine KU.out.mono ?_;rintro e w9 ⟨v,i3,b3,htk,rfl,hq,hg,huszv,hunv⟩;have HTK3:=iH htk;have hs9:=hg.size;have y6:Below w9.heap.size w9 (w9.alloc (.cells #[.int .i64 v.kind,.string v.text,.int .i64 v.num,.int .i64 v.at_] 153)):=(Below.refl _ _).alloc (Nat.le_refl _) _;have H10:=iH (hq.below y6);have HR9:=HR6.out.grown hg (by simp;omega);have HB9:=HB6.out.grown hg (by simp;omega);have HR10:=iH (HR9.below y6 HR9.lt);have HB10:=iH (HB9.below y6 HB9.lt);have HT10:=iH (Bk.new w9 153 [.int .i64 v.kind,.string v.text,.int .i64 v.num,.int .i64 v.at_]);have HG10:=iH (grown_trans (grown_trans HG6.out hg) (grown_of_below y6 _));clear KU htk hq hg y6 H6 HR6 HB6 HG6 HR9 HB9;go_upto_region 26 with fail;generalize(w9.alloc (.cells #[.int .i64 v.kind,.string v.text,.int .i64 v.num,.int .i64 v.at_] 153))=wt at *;have hp9:pb<w9.heap.size:=by omega
 refine wp_region_X (fun w'=>Bk w' pb 150 [.slice m.si.A m.si.n m.si.c,.slice m.sr.A m.sr.n m.sr.c,.slice m.st.A m.st.n m.st.c,.slice m.sx.A m.sx.n m.sx.c,.slice (some ⟨bb,off,none⟩) n c,.int .i64 (i3:Int),.bool b3,.int .i64 st.1,.int .i64 st.2]∧Bk w' w9.heap.size 153 [.int .i64 v.kind,.string v.text,.int .i64 v.num,.int .i64 v.at_]) 12 (n:=12) rfl (by kernel_rfl) (⟨H10.out.drew.pk,HT10.out.drew⟩) (fun hS=>?_);refine tU 0 (some 113) (v:=?_) rfl ⟨rfl,?_⟩ hS ?_;rotate_left
 ·intro w' hS';(go_simp;try with_reducible rfl)
 simp only[Act.put,Pa,Pb,Pc];refine tU 1 (some 114) (v:=?_) rfl ⟨rfl,?_⟩ hS ?_;rotate_left
 ·intro w' hS';(go_simp;try with_reducible rfl)
 simp only[Act.put,Pa,Pb,Pc];refine tU 2 (some 115) (v:=?_) rfl ⟨rfl,?_⟩ hS ?_;rotate_left
 ·intro w' hS';(go_simp;try with_reducible rfl)
 simp only[Act.put,Pa,Pb,Pc];refine tU 3 (some 116) (v:=?_) rfl ⟨rfl,?_⟩ hS ?_;rotate_left
 ·intro w' hS';have e0:=hS'.1.k0;have e1:=hS'.1.k1;have e2:=hS'.1.k2;have e3:=hS'.1.k3;have e4:=hS'.1.k4;have e5:=hS'.1.k5;have e6:=hS'.1.k6;have e7:=hS'.1.k7;have e8:=hS'.1.k8;have el:=hS'.1.lt;have v0:=hS'.2.k0;have v1:=hS'.2.k1;have v2:=hS'.2.k2;have v3:=hS'.2.k3;have vl:=hS'.2.lt;(go_simp;try with_reducible rfl)
 simp only[Act.put,Pa,Pb,Pc];refine tU 4 (some 117) (v:=?_) rfl ⟨rfl,?_⟩ hS ?_;rotate_left
 ·intro w' hS';(go_simp;try with_reducible rfl)
 simp only[Act.put,Pa,Pb,Pc];refine tU 5 (some 118) (v:=?_) rfl ⟨rfl,?_⟩ hS ?_;rotate_left
 ·intro w' hS';have e0:=hS'.1.k0;have e1:=hS'.1.k1;have e2:=hS'.1.k2;have e3:=hS'.1.k3;have e4:=hS'.1.k4;have e5:=hS'.1.k5;have e6:=hS'.1.k6;have e7:=hS'.1.k7;have e8:=hS'.1.k8;have el:=hS'.1.lt;have v0:=hS'.2.k0;have v1:=hS'.2.k1;have v2:=hS'.2.k2;have v3:=hS'.2.k3;have vl:=hS'.2.lt;(go_simp;try with_reducible rfl)
 simp only[Act.put,Pa,Pb,Pc];refine X_o 6 rfl fun K hK=>?_;go_simp;have K1:=iH (ritemN_any (m:=m) H10.out.drew.its v.text);unfold FindQ at K1;generalize hkk:(nameIx (m.items.map It.name) v.text).getD 0=kk at *;generalize hok:(nameIx (m.items.map It.name) v.text).isSome=okk at *;(with_reducible refine K1.out.mono ?_);rintro e wa ⟨rfl,hb⟩;have hd:=(Below.refl wt.heap.size wt).drew.trans hb;have Ha:=iH (H10.out.below hd);have HRa:=iH (HR10.out.below hd HR10.out.lt);have HBa:=iH (HB10.out.below hd HB10.out.lt);have HTa:=iH (HT10.out.below hd HT10.out.lt);have HGa:=iH (grown_trans HG10.out (grown_of_below hd _));refine hK _ _ ⟨Ha.out.pk,HTa.out⟩ ?_;clear hK K1 hb hd H10 HR10 HB10 HT10 HG10;refine tU 7 (some 112) (v:=?_) rfl ⟨rfl,?_⟩ ⟨Ha.out.pk,HTa.out⟩ ?_;rotate_left
 ·intro w' hS';(go_simp;try with_reducible rfl)
 simp only[Act.put,Pa,Pb,Pc];refine tU 8 (some 120) (v:=?_) rfl ⟨rfl,?_⟩ ⟨Ha.out.pk,HTa.out⟩ ?_;rotate_left
 ·intro w' hS';(go_simp;try with_reducible rfl)
 simp only[Act.put,Pa,Pb,Pc];refine tU 9 (some 121) (v:=?_) rfl ⟨rfl,?_⟩ ⟨Ha.out.pk,HTa.out⟩ ?_;rotate_left
 ·intro w' hS';(go_simp;try with_reducible rfl)
 simp only[Act.put,Pa,Pb,Pc];refine X_o 10 rfl fun K hK=>?_;go_simp;refine hK _ _ ⟨Ha.out.pk,HTa.out⟩ ?_;clear hK;refine X_o 11 rfl fun K hK=>?_;go_simp;refine hK _ _ ⟨Ha.out.pk,HTa.out⟩ ?_;clear hK;refine X_done (by kernel_rfl) ?_;clear hS;have m0:=HBa.out.k0;have m1:=HBa.out.k1;have m2:=HBa.out.k2;have m3:=HBa.out.k3;have ml:=HBa.out.lt;have mf:=HBa.out.frozen 2;go_upto_region 28 with fail;have HB8:=iH (HBa.out.set 2 (.int .i64 (kk:Int)));have HT8:=iH (HTa.out.setOther (b:=w3.heap.size) (k:=2) (u:=.int .i64 (kk:Int)) (by omega));have HR8:=iH (HRa.out.setOther (b:=w3.heap.size) (k:=2) (u:=.int .i64 (kk:Int)) (by omega));have H8:=iH (Ha.out.far (k:=2) HBa.out hp3 (by decide) (by decide) (by decide) (.int .i64 (kk:Int)));have HG8:=iH (grown_fresh (k:=2) (u:=.int .i64 (kk:Int)) HGa.out (by omega:W.heap.size<=w3.heap.size));have HKN:Hid (∀j,nameIx (m.items.map It.name) v.text=some j->j<m.items.length):=iH fun j hj=>by have:=nameIx_lt hj;simpa using this
 have HSM:Hid (m.items.length<=100000):=iH (by have h1:=Ha.out.its.len;have h2:=Ha.out.its.small;omega);have HTS:Hid (t.text.size<=8192):=iH HTK.out.1;have HIA:=iH hunu;clear Ha HRa HBa HTa HGa m0 m1 m2 m3 ml mf;generalize(wa.setCell ⟨w3.heap.size,2,none⟩ (.int .i64 (kk:Int)))=w8 at *;cases hx:nameIx (m.items.map It.name) v.text with
 | some j =>
   have hkj:kk=j:=by rw[<- hkk,hx];rfl
   have HREL:=iH (more_rel (it:=m.items.map It.name) (K:=.node t.text u.num (kk:Int) []) (st:=st) HTK2.out HTK3.out (fun j' hj'=>by rw[hx]at hj';cases hj';rw[hkj,HOP.out]));have HNS:nameSt (m.items.map It.name) v st=st:=by simp[nameSt,hx]
   rw[HNS]at HREL;have hkb:kk<=100000:=by have h1:=HKN.out j hx;have h2:=HSM.out;omega
   have hot:okk=true:=by rw[<- hok,hx];rfl
   clear hkk hok HKN HSM hkj;subst hot;have HIB:Hid (In64 (kk:Int)):=iH ⟨by omega,by omega⟩;have HB:=HB8;have HR:=HR8;have HQA:=H8;have HGA:=HG8;clear hx HNS;have m0:=HB.out.k0;have m1:=HB.out.k1;have m2:=HB.out.k2;have m3:=HB.out.k3;have ml:=HB.out.lt;have r0:=HR.out.k0;have r1:=HR.out.k1;have r2:=HR.out.k2;have r3:=HR.out.k3;have rl:=HR.out.lt;have rf0:=HR.out.frozen 0;have rf1:=HR.out.frozen 1;have rf2:=HR.out.frozen 2;have rf3:=HR.out.frozen 3;go_wp2;have hX:=lay_mq (M:=⟨t.text,u.num,(kk:Int),[],⟨none,0,0⟩⟩) HR.out HQA.out HGA.out (by omega) (Nat.le_refl _) (leaf_mk _ _ HTS.out HIA.out HIB.out);dsimp only at hX;generalize((((w8.setCell ⟨W.heap.size,0,none⟩ (.string t.text)).setCell ⟨W.heap.size,1,none⟩ (.int .i64 u.num)).setCell ⟨W.heap.size,2,none⟩ (.int .i64 (kk:Int))).setCell ⟨W.heap.size,3,none⟩ (.slice none 0 0))=X at *;have HXB:=hX.2.2.2;have xx0:=HXB.k0;have xx1:=HXB.k1;have xx2:=HXB.k2;have xx3:=HXB.k3;refine bodyPost_ret (v:=.agg #[.string t.text,.int .i64 u.num,.int .i64 (kk:Int),.slice none 0 0]) (by simp[results,Tryz.results135,go_sem,xx0,xx1,xx2,xx3]) rfl ?_;exact⟨⟨t.text,u.num,(kk:Int),[],⟨none,0,0⟩⟩,i3,b3,st,rfl,hX.1,hX.2.1,hX.2.2.1,HREL.out⟩
 | none =>
   have hkj:kk=0:=by rw[<- hkk,hx];rfl
   have HREL:=iH (more_rel (it:=m.items.map It.name) (K:=.node t.text u.num (kk:Int) []) (st:=st) HTK2.out HTK3.out (fun j' hj'=>by rw[hx]at hj';cases hj'));have HNS:nameSt (m.items.map It.name) v st=st.note 6 v.at_:=by simp[nameSt,hx]
   rw[HNS]at HREL;have hkb:kk<=100000:=by omega
   have hot:okk=false:=by rw[<- hok,hx];rfl
   clear hkk hok HKN HSM hkj;subst hot;have HIB:Hid (In64 (kk:Int)):=iH ⟨by omega,by omega⟩;have u0:=HT8.out.k0;have u1:=HT8.out.k1;have u2:=HT8.out.k2;have u3:=HT8.out.k3;have ul:=HT8.out.lt;have KF:=iH (fail_rd 6 v.at_ H8.out);clear hx HNS;go_wp2_with fail;refine KF.out.mono ?_;rintro e wz ⟨rfl,hq,hg⟩;have HQA:=iH hq;have HB:=iH (HB8.out.grown hg (by simp;omega));have HR:=iH (HR8.out.grown hg (by simp;omega));have HGA:=iH (grown_trans HG8.out hg);clear KF hq hg H8 HR8 HB8 HG8 HT8 u0 u1 u2 u3 ul;have m0:=HB.out.k0;have m1:=HB.out.k1;have m2:=HB.out.k2;have m3:=HB.out.k3;have ml:=HB.out.lt;have r0:=HR.out.k0;have r1:=HR.out.k1;have r2:=HR.out.k2;have r3:=HR.out.k3;have rl:=HR.out.lt;have rf0:=HR.out.frozen 0;have rf1:=HR.out.frozen 1;have rf2:=HR.out.frozen 2;have rf3:=HR.out.frozen 3;go_wp2;have hX:=lay_mq (M:=⟨t.text,u.num,(kk:Int),[],⟨none,0,0⟩⟩) HR.out HQA.out HGA.out (by omega) (Nat.le_refl _) (leaf_mk _ _ HTS.out HIA.out HIB.out);dsimp only at hX;generalize((((wz.setCell ⟨W.heap.size,0,none⟩ (.string t.text)).setCell ⟨W.heap.size,1,none⟩ (.int .i64 u.num)).setCell ⟨W.heap.size,2,none⟩ (.int .i64 (kk:Int))).setCell ⟨W.heap.size,3,none⟩ (.slice none 0 0))=X at *;have HXB:=hX.2.2.2;have xx0:=HXB.k0;have xx1:=HXB.k1;have xx2:=HXB.k2;have xx3:=HXB.k3;refine bodyPost_ret (v:=.agg #[.string t.text,.int .i64 u.num,.int .i64 (kk:Int),.slice none 0 0]) (by simp[results,Tryz.results135,go_sem,xx0,xx1,xx2,xx3]) rfl ?_;exact⟨⟨t.text,u.num,(kk:Int),[],⟨none,0,0⟩⟩,i3,b3,(st.note 6 v.at_),rfl,hX.1,hX.2.1,hX.2.2.1,HREL.out⟩
theorem cond_rd {W:World} {pb:Nat} {m:CatM} {T:List Tok} {A:Option Addr} {n c i:Nat} {st:PSt} (h:QAt W pb m T A n c i false st) :
 Calls Tryz.prog 135 #[.pointer (some ⟨pb,0,none⟩)] W (RPost W pb m T A n c (condP kindNs (m.rules.map RuM.name) (m.items.map It.name) (T.drop i) st)):=by
 by_cases hi:i<n
 ·have hit:i<T.length:=by have:=h.len;omega
  have ht:T[i]? = some T[i]:=List.getElem?_eq_getElem hit;cases ho:isOp T[i].text with
  | false=>exact cond_no h hi ht ho
  | true =>
    unfold isOp at ho;simp only[Bool.or_eq_true,decide_eq_true_eq]at ho;rcases ho with ((((((ho|ho)|ho)|ho)|ho)|ho)|ho)|ho
    ·exact cond_Kind h hi ht ho
    ·exact cond_Actor h hi ht ho
    ·exact cond_Rule h hi ht ho
    ·exact cond_Tick h hi ht ho
    ·exact cond_Item h hi ht ho
    ·exact cond_More h hi ht ho
    ·exact cond_Step h hi ht ho
    ·exact cond_Account h hi ht ho
 ·exact cond_end h (by omega)
end Go.Proofs.YtocodlpgaamblaaGreatDoor
