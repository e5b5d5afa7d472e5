/- The reference lexer's Tokens on any text; what a name is to both lexers. What a name is to both lexers: catalog.fits and the reference's Word on any text. Catalogs in memory: rows of a type, and what keeps them. Cells of the elements of a catalog's lists; every, on these lists, with whatever test. differ, on the lists of a catalog. catalog's namesFit, namesDiffer and withinLimits on any catalog. catalog's withinLimits on any catalog. catalog's tests on lists of amounts: sorted, and units in range. catalog.contains on any two lists of amounts. catalog's ruleFormed on any rule. Tests of numbers: ruleInRange, and the closures of weightsInRange and taxInRange. Brackets: the plain law of their form; taxFormed and the reference's TaxErrors (turned from the tax seat). The reference's names on any catalog. catalog.wellFormed on any catalog. catalog.inRange and Valid on any catalog. Marks in memory. What a mark's text reads as. Steps in memory; the tests of conditions. reading: the reader of tokens. The table of conditions: a map from words to tests. conditions: the table of conditions. Matches: which steps a mark chooses. Matches: which steps a mark chooses. -/
import Derived.Test.YtocodlpgaamblaaGreatDoorO1
import Derived.Test.YtocodlpgaamblaaGreatDoorO2
import Derived.Test.YtocodlpgaamblaaGreatDoorO3
import Derived.Laws.StructEq
import Derived.BigQuiet
import Derived.Maps.AppendAt
import Derived.WalkKit
import Derived.Maps.Own
import Derived.Maps.OwnOps
import Derived.Maps.OwnSet
import Derived.Laws.EntriesVeiled
set_option linter.unusedVariables false
set_option linter.unusedSimpArgs false
set_option maxRecDepth 100000
set_option maxHeartbeats 2000000
open Go.RowKit
namespace Go.Proofs.YtocodlpgaamblaaGreatDoor
set_option linter.unusedVariables false
set_option linter.unusedSimpArgs false
theorem rtokens_any (s:ByteArray) (hs:s.size<=8192) (w:World):Calls Tryz.prog 75 #[.string s] w (RTokPost w (toks s)):=by
 obtain⟨i0,hi,hz0,hz1,hz2⟩:=info_parts info153;have HK:Hid (∀j,(hj:j<s.size)->∀W,Calls Tryz.prog 118 #[.int .u8 (s[j].toNat:Int)] W fun e w'=>e=.returned (.int .i64 (clsK (kindAt s j)))∧W=w'):=fun j hj W=>by
  have:=class_any s[j].toNat W s[j].toNat_lt
  rwa [cls_kind hj]at this
 have hq:toks s=toksFrom s (skipS s 0):=rfl;have h0:=skipS_bd s 0 (Nat.zero_le _);have HQ:=iH hq;clear hq;go_enter Tryz.func75,Tryz.ntmps75;go_wp2_with fail;refine(rskip_any s 0 _ (Nat.zero_le _) (by omega)).mono ?_;rintro e w' ⟨rfl,rfl⟩;generalize skipS s 0=k0 at *;generalize toks s=T at *;go_wp2_with fail;go_loopw [5,6] (fun v i wr=>∃(k:Nat) (pre:List Tok),k<=s.size∧i=.int .i64 k∧pre ++ toksFrom s k=T∧(∀t∈pre,t.err=0)∧pre.length<=k∧wr.ownsRow w.heap.size 153 4 v pre.length (kcells pre)∧Below w.heap.size w wr) (fun _ i _=>s.size-(intOf i).toNat)
 case atStart=>exact⟨k0,[],h0.2,rfl,HQ.out.symm,(fun t ht=>by cases ht),Nat.zero_le _,World.ownsRow_nil _ _ _ _,Below.refl _ _⟩
 case round =>
  obtain⟨k,pre,hk,rfl,hT,hpe,hpl,hown,hb⟩:=hrel;have HT:=iH hT;have HP:=iH hpe;have HO:=iH hown;have HB:=iH hb;have hsz:=hb.size;clear hT hpe hown hb;by_cases hlt:k<s.size
  ·have HC:=iH (fun W=>HK.out k hlt W);have HE:=iH (fun W=>rend_any s k W hlt (by omega));have hle:=endS_le hlt;obtain⟨kb0,kb7⟩:=kindAt_bd s k;obtain⟨_,z1,z2,_⟩:=clsK_cases kb0 kb7;have Herr:Hid ((nextT s k).err≠0->∀e,e=(nextT s k).err->∀W,Below w.heap.size w W->(nextT s k).at_=(k:Int)->RTokPost w T (.returned (.tuple #[.slice none 0 0,.int .i64 k,.int .i64 e])) W):=fun he e ee W hW ha=>by
    subst ee;right;refine⟨pre,nextT s k,?_,HP.out,he,?_,hW⟩
    ·rw[<- HT.out,toksFrom_err hlt he];exact List.prefix_refl _
    ·rw[ha]
   have Hgo:Hid ((nextT s k).err=0->(pre ++ [nextT s k]) ++ toksFrom s (skipS s (k+(nextT s k).text.size))=T):=fun he=>by
    rw[<- HT.out,toksFrom_go hlt he];simp
   rcases endS_next hlt with ⟨e1,e2,e3,n3,n4⟩|⟨e1,e2,e3,n3,n4⟩|⟨n3,e2,e3⟩|⟨n4,e2,e3⟩
   ·have HF:=iH (Herr.out (by omega) 2 e2.symm);rw[e1]at HE;clear e1 e2 z1 z2 n3 n4;have q:((k:Int) == (k:Int))=true:=by simp
    go_wp2_with fail;refine(HE.out _).mono ?_;rintro e w' ⟨rfl,rfl⟩;go_wp2_with fail
    go_ret3
    exact HF.out _ HB.out e3
   ·have q1:(clsK (kindAt s k) == 1)=false:=by simp only[beq_eq_false_iff_ne,ne_eq];exact fun e=>n3 (z1.1 e)
    have q2:(clsK (kindAt s k) == 2)=false:=by simp only[beq_eq_false_iff_ne,ne_eq];exact fun e=>n4 (z2.1 e)
    have HN:=iH (Hgo.out (by rw[e3]));rw[<- e1]at HN;have HE3:=iH e3;clear e1 e3 z1 z2 n3 n4 Herr Hgo;generalize endS s k=E at *;generalize clsK (kindAt s k)=cl at *;have q:((E:Int) == (k:Int))=false:=by simp;omega
    have HPn:Hid (∀t∈pre ++ [nextT s k],t.err=0):=fun t ht=>by
     simp only[List.mem_append,List.mem_singleton]at ht;rcases ht with ht|rfl
     ·exact HP.out t ht
     ·rw[HE3.out]
    have hsk:=skipS_bd s E hle;go_wp2_with fail;refine(HE.out _).mono ?_;rintro e w' ⟨rfl,rfl⟩;go_wp2_with fail;refine(HC.out _).mono ?_;rintro e w' ⟨rfl,rfl⟩;go_wp2_with fail;refine(HC.out _).mono ?_;rintro e w' ⟨rfl,rfl⟩;go_wp2_with(at_builtin;refine wpList_append_own_at _ rfl _ _ 145 rfl w.heap.size 153 i0 (.agg #[.int .i64 0,.string ⟨#[]⟩,.int .i64 0,.int .i64 0]) 4 40 Tryz.underlying145 hi hz0 hz1 hz2 rfl (by decide) _ pre.length (kcells pre) rfl ((HO.out.alloc _).alloc _) ⟨wr.heap.size+1,0,none⟩ 1 1 [.int .i64 2,.string (s.extract k E),.int .i64 0,.int .i64 k] rfl rfl ?a1 (oneTok _ _ _ _) ?a3 ?a4 ?a5 ?_)
    case a1=>simpa using new4 (wr.alloc (.cells #[.int .i64 2,.string (s.extract k E),.int .i64 0,.int .i64 k] 153)) 153 (.int .i64 2) (.string (s.extract k E)) (.int .i64 0) (.int .i64 k)
    case a3=>unfold maxLen;omega
    case a4=>omega
    case a5=>simp;omega
    intro v' w1 hown' hgrow _ _;have hb1:Below w.heap.size w w1:=((HB.out.alloc hsz _).alloc (by simp;omega) _).grown hgrow (by simp;omega) (row_base HO.out);have HO1:=iH hown';clear hown' hgrow;go_wp2_with fail;refine(rskip_any s E _ hle (by omega)).mono ?_;rintro e w' ⟨rfl,rfl⟩;go_wp2_with fail;go_roundw
    case rel=>exact⟨skipS s E,pre ++ [nextT s k],hsk.2,rfl,HN.out,HPn.out,by simp;omega,by rw[HE3.out,kcells_snoc];simpa[Tok.cells]using HO1.out,hb1⟩
    case measure=>simp[intOf];omega
   ·have q1:(clsK (kindAt s k) == 1)=true:=by simpa using z1.2 n3
    have q2:(clsK (kindAt s k) == 2)=false:=by simp only[beq_eq_false_iff_ne,ne_eq];exact fun e=>by have:=z2.1 e;omega
    have hxs:(s.extract k (endS s k)).size=endS s k-k:=by rw[ByteArray.size_extract];omega
    by_cases hbig:16<endS s k-k
    ·rw[if_pos hbig]at e3;have HF:=iH (Herr.out (by omega) 4 e3.1.symm);have e32:=e3.2;clear e3 z1 z2 n3 Herr Hgo;generalize endS s k=E at *;generalize clsK (kindAt s k)=cl at *;have q:((E:Int) == (k:Int))=false:=by simp;omega
     have ql:16<(s.extract k E).size:=by omega
     have ql2:(16:Int)<((s.extract k E).size:Int):=by omega
     have HBa:Hid (Below w.heap.size w (wr.alloc (.cells #[.int .i64 0,.string (s.extract k E),.int .i64 0,.int .i64 k] 153))):=HB.out.alloc hsz _;clear hxs;go_wp2_with fail;refine(HE.out _).mono ?_;rintro e w' ⟨rfl,rfl⟩;go_wp2_with fail;refine(HC.out _).mono ?_;rintro e w' ⟨rfl,rfl⟩;go_wp2_with fail;refine(HC.out _).mono ?_;rintro e w' ⟨rfl,rfl⟩;go_wp2_with fail
     go_ret3
     exact HF.out _ HBa.out e32
    ·rw[if_neg hbig]at e3;have HN:=iH (Hgo.out (by rw[e3.1]));rw[<- e3.2]at HN;have HE3:=iH e3.1;clear e3 z1 z2 n3 Herr Hgo;generalize endS s k=E at *;generalize clsK (kindAt s k)=cl at *;have q:((E:Int) == (k:Int))=false:=by simp;omega
     have ql:¬ 16<(s.extract k E).size:=by omega
     have ql2:¬ (16:Int)<((s.extract k E).size:Int):=by omega
     have ql3:decide (16<(s.extract k E).size)=false:=decide_eq_false ql;have ql4:decide ((16:Int)<((s.extract k E).size:Int))=false:=decide_eq_false ql2;clear hxs;have HPn:Hid (∀t∈pre ++ [nextT s k],t.err=0):=fun t ht=>by
      simp only[List.mem_append,List.mem_singleton]at ht;rcases ht with ht|rfl
      ·exact HP.out t ht
      ·rw[HE3.out]
     have hsk:=skipS_bd s E hle;go_wp2_with fail;refine(HE.out _).mono ?_;rintro e w' ⟨rfl,rfl⟩;go_wp2_with fail;refine(HC.out _).mono ?_;rintro e w' ⟨rfl,rfl⟩;go_wp2_with fail;refine(HC.out _).mono ?_;rintro e w' ⟨rfl,rfl⟩;go_wp2_with(at_builtin;refine wpList_append_own_at _ rfl _ _ 145 rfl w.heap.size 153 i0 (.agg #[.int .i64 0,.string ⟨#[]⟩,.int .i64 0,.int .i64 0]) 4 40 Tryz.underlying145 hi hz0 hz1 hz2 rfl (by decide) _ pre.length (kcells pre) rfl ((HO.out.alloc _).alloc _) ⟨wr.heap.size+1,0,none⟩ 1 1 [.int .i64 0,.string (s.extract k E),.int .i64 0,.int .i64 k] rfl rfl ?b1 (oneTok _ _ _ _) ?b3 ?b4 ?b5 ?_)
     case b1=>simpa using new4 (wr.alloc (.cells #[.int .i64 0,.string (s.extract k E),.int .i64 0,.int .i64 k] 153)) 153 (.int .i64 0) (.string (s.extract k E)) (.int .i64 0) (.int .i64 k)
     case b3=>unfold maxLen;omega
     case b4=>omega
     case b5=>simp;omega
     intro v' w1 hown' hgrow _ _;have hb1:Below w.heap.size w w1:=((HB.out.alloc hsz _).alloc (by simp;omega) _).grown hgrow (by simp;omega) (row_base HO.out);have HO1:=iH hown';clear hown' hgrow;go_wp2_with fail;refine(rskip_any s E _ hle (by omega)).mono ?_;rintro e w' ⟨rfl,rfl⟩;go_wp2_with fail;go_roundw
     case rel=>exact⟨skipS s E,pre ++ [nextT s k],hsk.2,rfl,HN.out,HPn.out,by simp;omega,by rw[HE3.out,kcells_snoc];simpa[Tok.cells]using HO1.out,hb1⟩
     case measure=>simp[intOf];omega
   ·have q1:(clsK (kindAt s k) == 1)=false:=by simp only[beq_eq_false_iff_ne,ne_eq];exact fun e=>by have:=z1.1 e;omega
    have q2:(clsK (kindAt s k) == 2)=true:=by simpa using z2.2 n4
    have hxs:(s.extract k (endS s k)).size=endS s k-k:=by rw[ByteArray.size_extract];omega
    have hdd:=endS_dig n4;have hD:Digits (s.extract k (endS s k)):=fun i hi=>by
     rw[hxs]at hi;obtain⟨hj,d0,d1⟩:=kind_dig (hdd i hi);have h1:i<(s.extract k (endS s k)).size:=by omega
     have:byteAt (s.extract k (endS s k)) i=(s[k+i].toNat:Int):=by
      simp only[byteAt,h1,dif_pos];rw[ByteArray.getElem_extract]
     rw[this];omega
    have HV:=iH (fun W=>value_any (s.extract k (endS s k)) W (by omega) hD);rw[hxs]at HV;have hvn:=valT_numE hle (by omega) hdd (endS s k-k) (Nat.le_refl _);by_cases hbig:1099511627776<numE s k (endS s k-k)
    ·rw[if_pos hbig]at e3;have hv:valT (s.extract k (endS s k)) (endS s k-k)=1099511627777:=by
      rcases hvn with ⟨h1,_⟩|⟨_,h2⟩
      ·omega
      ·exact h2
     rw[hv]at HV;have HF:=iH (Herr.out (by omega) 4 e3.1.symm);have e32:=e3.2;clear e3 z1 z2 n4 Herr Hgo hvn hv hbig hD hdd;generalize endS s k=E at *;generalize clsK (kindAt s k)=cl at *;have q:((E:Int) == (k:Int))=false:=by simp;omega
     have HBa:Hid (Below w.heap.size w (wr.alloc (.cells #[.int .i64 1,.string (s.extract k E),.int .i64 1099511627777,.int .i64 k] 153))):=HB.out.alloc hsz _;clear hxs;go_wp2_with fail;refine(HE.out _).mono ?_;rintro e w' ⟨rfl,rfl⟩;go_wp2_with fail;refine(HC.out _).mono ?_;rintro e w' ⟨rfl,rfl⟩;go_wp2_with fail;refine(HC.out _).mono ?_;rintro e w' ⟨rfl,rfl⟩;go_wp2_with fail;refine(HV.out _).mono ?_;rintro e w' ⟨rfl,rfl⟩;go_wp2_with fail
     go_ret3
     exact HF.out _ HBa.out e32
    ·rw[if_neg hbig]at e3;have hv:valT (s.extract k (endS s k)) (endS s k-k)=numE s k (endS s k-k):=by
      rcases hvn with ⟨_,h1⟩|⟨h2,_⟩
      ·exact h1
      ·omega
     have hn0:=numE_nonneg hdd (endS s k-k) (Nat.le_refl _);rw[hv]at HV;have HN:=iH (Hgo.out (by rw[e3.1]));rw[<- e3.2]at HN;have HE3:=iH e3.1;clear e3 z1 z2 n4 Herr Hgo hvn hv hD hdd;generalize endS s k=E at *;generalize clsK (kindAt s k)=cl at *;generalize numE s k (E-k)=NN at *;have q:((E:Int) == (k:Int))=false:=by simp;omega
     have ql4:decide ((1099511627776:Int)<NN)=false:=decide_eq_false hbig;clear hxs;have HPn:Hid (∀t∈pre ++ [nextT s k],t.err=0):=fun t ht=>by
      simp only[List.mem_append,List.mem_singleton]at ht;rcases ht with ht|rfl
      ·exact HP.out t ht
      ·rw[HE3.out]
     have hsk:=skipS_bd s E hle;go_wp2_with fail;refine(HE.out _).mono ?_;rintro e w' ⟨rfl,rfl⟩;go_wp2_with fail;refine(HC.out _).mono ?_;rintro e w' ⟨rfl,rfl⟩;go_wp2_with fail;refine(HC.out _).mono ?_;rintro e w' ⟨rfl,rfl⟩;go_wp2_with fail;refine(HV.out _).mono ?_;rintro e w' ⟨rfl,rfl⟩;go_wp2_with(at_builtin;refine wpList_append_own_at _ rfl _ _ 145 rfl w.heap.size 153 i0 (.agg #[.int .i64 0,.string ⟨#[]⟩,.int .i64 0,.int .i64 0]) 4 40 Tryz.underlying145 hi hz0 hz1 hz2 rfl (by decide) _ pre.length (kcells pre) rfl ((HO.out.alloc _).alloc _) ⟨wr.heap.size+1,0,none⟩ 1 1 [.int .i64 1,.string (s.extract k E),.int .i64 NN,.int .i64 k] rfl rfl ?c1 (oneTok _ _ _ _) ?c3 ?c4 ?c5 ?_)
     case c1=>simpa using new4 (wr.alloc (.cells #[.int .i64 1,.string (s.extract k E),.int .i64 NN,.int .i64 k] 153)) 153 (.int .i64 1) (.string (s.extract k E)) (.int .i64 NN) (.int .i64 k)
     case c3=>unfold maxLen;omega
     case c4=>omega
     case c5=>simp;omega
     intro v' w1 hown' hgrow _ _;have hb1:Below w.heap.size w w1:=((HB.out.alloc hsz _).alloc (by simp;omega) _).grown hgrow (by simp;omega) (row_base HO.out);have HO1:=iH hown';clear hown' hgrow;go_wp2_with fail;refine(rskip_any s E _ hle (by omega)).mono ?_;rintro e w' ⟨rfl,rfl⟩;go_wp2_with fail;go_roundw
     case rel=>exact⟨skipS s E,pre ++ [nextT s k],hsk.2,rfl,HN.out,HPn.out,by simp;omega,by rw[HE3.out,kcells_snoc];simpa[Tok.cells]using HO1.out,hb1⟩
     case measure=>simp[intOf];omega
  ·have hte:toksFrom s k=[]:=toksFrom_end (by omega);have hpT:pre=T:=by have:=HT.out;rw[hte]at this;simpa using this
   subst hpT;have HF:Hid (∀W,W=wr->RTokPost w pre (.returned (.tuple #[u5,.int .i64 0,.int .i64 0])) W):=fun W e=>by
    subst e;exact .inl ⟨HP.out,_,rfl,HO.out,HB.out⟩
   go_wp2_with fail
   go_ret3
   exact HF.out _ rfl
theorem bytes_eq {s t:ByteArray} (h:s.data.toList=t.data.toList):s=t:=by
 cases s;cases t;simp only[ByteArray.mk.injEq];exact Array.toList_inj.1 h
def fitG (s:ByteArray):Bool:=match toks s with
 | [t]=>decide (t.err=0) && decide (t.kind=0) && decide (t.text=s)
 | _=>false
theorem toks_last {s:ByteArray} {p:Nat}:∀ {init:List Tok} {last:Tok},init ++ [last] <+: toksFrom s p->last.err≠0->(∀t∈init,t.err=0)->init ++ [last]=toksFrom s p:=by
 induction hm:s.size-p using Nat.strongRecOn generalizing p with
 | _ m ih =>
   intro init last hp hl hi;by_cases h:p<s.size
   ·by_cases he:(nextT s p).err=0
    ·rw[toksFrom_go h he]at hp⊢;obtain⟨h1,h2⟩:=nextT_size h;have h3:=skipS_bd s (p+(nextT s p).text.size) h1;have h4:=h2 he;cases init with
     | nil =>
       have:=hp;simp only[List.nil_append]at this;obtain⟨t,ht⟩:=this;simp only[List.singleton_append,List.cons.injEq]at ht;rw[ht.1]at hl;exact absurd he hl
     | cons a init =>
       obtain⟨t,ht⟩:=hp;simp only[List.cons_append,List.cons.injEq]at ht;obtain⟨rfl,ht⟩:=ht;have:=ih (s.size-skipS s (p+(nextT s p).text.size)) (by omega) (p:=skipS s (p+(nextT s p).text.size)) rfl (init:=init) (last:=last) ⟨t,ht⟩ hl (fun t ht=>hi t (by simp[ht]));rw[List.cons_append,this]
    ·rw[toksFrom_err h he]at hp⊢;have:=hp.length_le;simp at this;subst this;obtain⟨t,ht⟩:=hp;simp at ht;rw[ht.1];rfl
   ·rw[toksFrom_end (by omega)]at hp;have:=hp.length_le;simp at this
theorem fitG_err {s:ByteArray} {init:List Tok} {last:Tok} (hp:init ++ [last] <+: toks s) (hl:last.err≠0) (hi:∀t∈init,t.err=0):fitG s=false:=by
 have h:=toks_last hp hl hi;unfold fitG;unfold toks;rw[<- h];cases init with
 | nil=>simp[hl]
 | cons a init=>cases init <;> rfl
theorem Word_any (s:ByteArray) (hs:s.size<=8192) (w:World) :
 Calls Tryz.prog 68 #[.string s] w fun e w'=>e=.returned (.bool (fitG s))∧Below w.heap.size w w':=by
 have Ht:=iH (rtokens_any s hs w);have hG:fitG s=match toks s with | [t]=>decide (t.err=0) && decide (t.kind=0) && decide (t.text=s) | _=>false:=rfl
 have HE:=iH (fun init last=>fitG_err (s:=s) (init:=init) (last:=last));generalize fitG s=G at *;generalize toks s=T at *;have HG:=iH hG;clear hG;go_enter Tryz.func68,Tryz.ntmps68;go_wp2_with fail;refine Ht.out.mono ?_;rintro e w' (⟨he,v,rfl,hown,hB⟩|⟨init,last,hp,hi,hl,rfl,hB⟩)
 ·clear Ht HE
  match T,HG,he,hown with
  | [], HG, he, hown =>
    obtain⟨A,c,rfl,hr,-,-⟩:=row_form hown;have Hf:Hid (G=false):=HG;clear HG he hown hr;go_wp2;go_ret;exact⟨by rw[Hf.out];rfl,hB⟩
  | [t], HG, he, hown =>
    have het:=he t (List.mem_singleton.2 rfl);obtain⟨g,c,rfl⟩:∃g c,v=.slice (some ⟨g,0,none⟩) 1 c:=by
     rcases hown.2 with ⟨_,h0⟩|⟨g,cap,cur,rfl,_⟩
     ·simp at h0
     ·exact⟨_,_,rfl⟩
    have c0:=hown.cellAt 0 (by decide);have c1:=hown.cellAt 1 (by decide);obtain⟨tk,tt,tn,ta,te⟩:=t;simp[kcells,Tok.cells]at c0 c1;have hg:=HG.out;simp only at hg het;subst het;by_cases hk:tk=0
    ·subst hk;by_cases htt:tt=s
     ·have Hf:Hid (G=true):=by show G=true;rw[hg];simp[htt]
      subst htt;clear HG he hown hg;go_wp2;go_ret;exact⟨by rw[Hf.out];rfl,hB⟩
     ·have Hf:Hid (G=false):=by show G=false;rw[hg];simp[htt]
      have q2:(tt.toList == s.toList)=false:=by
       simp only[beq_eq_false_iff_ne,ne_eq,ByteArray.toList_eq];exact fun e=>htt (bytes_eq e)
      have q1:(tt == s)=false:=by rw[beq_toListBytes];exact q2
      clear HG he hown hg htt;go_wp2;go_ret;exact⟨by rw[Hf.out];rfl,hB⟩
    ·have Hf:Hid (G=false):=by show G=false;rw[hg];simp[hk]
     have q1:(tk == 0)=false:=by simpa using hk
     clear HG he hown hg;go_wp2;go_ret;exact⟨by rw[Hf.out];rfl,hB⟩
  | a :: b :: l, HG, he, hown =>
    obtain⟨A,c,rfl,hr,-,-⟩:=row_form hown;have Hf:Hid (G=false):=HG;have q:(((a :: b :: l).length:Int) == 1)=false:=by simp;omega
    have q2:((a :: b :: l).length == 1)=false:=by simp
    clear HG he hown hr;generalize(a :: b :: l).length=n at *;go_wp2;go_ret;exact⟨by rw[Hf.out];rfl,hB⟩
 ·have Hf:=iH (HE.out init last hp hl hi);have hl2:(last.err == 0)=false:=by simpa using hl
  clear hl hp hi Ht HE HG;go_wp2;go_ret;exact⟨by rw[Hf.out];rfl,hB⟩
section
set_option linter.unusedVariables false
set_option linter.unusedSimpArgs false
section
def Keep (t:TypeId) (w w':World):Prop:=∀(b:Nat) (cur:Array Value) (fl:Nat×Nat),w.heap[b]? = some (Obj.cells cur t fl)->w'.heap[b]? = some (Obj.cells cur t fl)
theorem Keep.refl (t:TypeId) (w:World):Keep t w w:=fun _ _ _ h=>h
theorem Keep.trans {t:TypeId} {a b c:World} (h:Keep t a b) (k:Keep t b c):Keep t a c:=fun b cur fl hb=>k b cur fl (h b cur fl hb)
theorem Keep.below {t:TypeId} {w w':World} (hb:Below w.heap.size w w'):Keep t w w':=fun b _ _ h=>(hb.block b (Array.getElem?_eq_some_iff.1 h).1).trans h
theorem Keep.grown {t:TypeId} {w w':World} {g:Nat} (hg:w.grownBy w' (some g)) (hn:∀cur fl,w.heap[g]? ≠ some (.cells cur t fl)):Keep t w w':=fun b cur fl h=>by
 have hne:some b≠some g:=fun e=>hn cur fl (by cases e;exact h)
 exact(hg.block b (Array.getElem?_eq_some_iff.1 h).1 hne).trans h
theorem Keep.alloc (t:TypeId) (w:World) (o:Obj):Keep t w (w.alloc o):=.below ((Below.refl _ _).alloc (Nat.le_refl _) o)
theorem Keep.setCell {t t':TypeId} {w:World} {g k:Nat} {xs:List Value} (hB:Bk w g t' xs) (hne:t'≠t) (u:Value):Keep t w (w.setCell ⟨g,k,none⟩ u) :=
 .grown (grown_setCell w g k u) fun cur fl h=>by
  unfold Bk at hB;rw[hB]at h;cases h;exact hne rfl
theorem Keep.own {t e:TypeId} {w w':World} {base size n:Nat} {v:Value} {xs:List Value} (h:w.ownsRow base e size v n xs) (hg:w.grownBy w' v.ownBlock) (hne:e≠t):Keep t w w':=by
 rcases h.2 with ⟨rfl,_⟩|⟨g,cap,cur,rfl,_,hc,_⟩
 ·exact fun b cur fl h=>(hg.block b (Array.getElem?_eq_some_iff.1 h).1 (by simp[Value.ownBlock])).trans h
 ·refine .grown (g:=g) hg fun cur' fl' h'=>?_
  rw[hc]at h';cases h';exact hne rfl
def TRow (w:World) (t:TypeId) (A:Option Addr) (xs:List Value):Prop :=
 xs=[]∨∃b off cur fl,A=some ⟨b,off,none⟩∧w.heap[b]? = some (.cells cur t fl)∧∀j u,xs[j]? = some u->cur[off+j]? = some u
theorem TRow.keep {w w':World} {t:TypeId} {A:Option Addr} {xs:List Value} (h:TRow w t A xs) (hk:Keep t w w'):TRow w' t A xs:=by
 rcases h with h|⟨b,off,cur,fl,hA,hb,hc⟩
 ·exact .inl h
 ·exact .inr ⟨b,off,cur,fl,hA,hk b cur fl hb,hc⟩
theorem TRow.row {w:World} {t:TypeId} {A:Option Addr} {xs:List Value} (h:TRow w t A xs):Row w w.heap.size A xs:=by
 rcases h with h|⟨b,off,cur,fl,hA,hb,hc⟩
 ·exact .inl h
 ·refine .inr ⟨b,off,hA,(Array.getElem?_eq_some_iff.1 hb).1,fun j u hu=>?_⟩;simp[World.cell?,hb,hc j u hu]
theorem TRow.of_own {w:World} {e:TypeId} {base size n:Nat} {A:Option Addr} {c:Nat} {xs:List Value} (h:w.ownsRow base e size (.slice A n c) n xs):TRow w e A xs:=by
 rcases h.2 with ⟨hv,hn⟩|⟨g,cap,cur,hv,_,hc,_,_,_,ht⟩
 ·left;have:=h.1;rw[hn]at this;exact List.eq_nil_of_length_eq_zero (by simpa using this)
 ·cases hv;refine .inr ⟨g,0,cur,(0,0),rfl,hc,fun j u hu=>?_⟩;rw[Nat.zero_add];rw[<- ht,List.getElem?_take]at hu;split at hu
  ·simpa using hu
  ·cases hu
section
variable {α : Type} {f : α -> List Value} {n : Nat}
theorem flat_len (hf:∀x,(f x).length=n) (l:List α):(l.flatMap f).length=l.length*n:=by
 induction l with
 | nil=>simp
 | cons x l ih=>rw[List.flatMap_cons,List.length_append,ih,hf,List.length_cons,Nat.add_mul];omega
theorem flat_get (hf:∀x,(f x).length=n) (l:List α) (k r:Nat) (hk:k<l.length) (hr:r<n):(l.flatMap f)[k*n+r]? = (f l[k])[r]?:=by
 induction l generalizing k with
 | nil=>simp at hk
 | cons x l ih =>
   rw[List.flatMap_cons];cases k with
   | zero =>
     rw[List.getElem?_append_left (by rw[hf];omega)];simp
   | succ k =>
     rw[List.getElem?_append_right (by rw[hf,Nat.add_mul];omega)];have e:(k+1)*n+r-(f x).length=k*n+r:=by rw[hf,Nat.add_mul];omega
     rw[e,ih k (by simpa using hk)];simp
theorem TRow.at_ {w:World} {t:TypeId} {A:Option Addr} {l:List α} (hf:∀x,(f x).length=n) (h:TRow w t A (l.flatMap f)) (k:Nat) (hk:k<l.length) (hn:0<n) :
 ∃b off,A=some ⟨b,off,none⟩∧b<w.heap.size∧∀r u,(f l[k])[r]? = some u->w.cell? ⟨b,off+k*n+r,none⟩=some u:=by
 have hlen:=flat_len hf l;have hkn:k*n+n<=l.length*n:=by
  have:(k+1)*n<=l.length*n:=Nat.mul_le_mul_right n hk;rw[Nat.add_mul]at this;omega
 obtain⟨b,off,hA,hb,hc⟩:=h.row.at_ 0 (by rw[hlen];omega);refine⟨b,off,hA,hb,fun r u hu=>?_⟩;have hr:r<n:=by have:=(List.getElem?_eq_some_iff.1 hu).1;rw[hf]at this;exact this
 rw[Nat.add_assoc];exact hc _ u ((flat_get hf l k r hk hr).trans hu)
end
abbrev P2:=Int×Int
abbrev pc (p:P2):List Value:=[.int .i64 p.1,.int .i64 p.2]
def pcells (l:List P2):List Value:=l.flatMap pc
theorem pc_len (p:P2):(pc p).length=2:=rfl
theorem pcells_snoc (l:List P2) (p:P2):pcells (l ++ [p])=pcells l ++ pc p:=by simp[pcells]
structure PrV (w : World) (t : TypeId) (s : Sl) (l : List P2) : Prop where
 row:TRow w t s.A (pcells l)
 len:s.n=l.length
 small:s.n<=100000
 wf:∀p∈l,(-9223372036854775808<=p.1∧p.1<=9223372036854775807)∧-9223372036854775808<=p.2∧p.2<=9223372036854775807
theorem PrV.keep {w w':World} {t:TypeId} {s:Sl} {l:List P2} (h:PrV w t s l) (hk:Keep t w w'):PrV w' t s l:=⟨h.row.keep hk,h.len,h.small,h.wf⟩
theorem PrV.below {w w':World} {t:TypeId} {s:Sl} {l:List P2} (h:PrV w t s l) (hb:Below w.heap.size w w'):PrV w' t s l:=h.keep (.below hb)
theorem PrV.at_ {w:World} {t:TypeId} {s:Sl} {l:List P2} (h:PrV w t s l) (k:Nat) (hk:k<l.length):∃b off,s.A=some ⟨b,off,none⟩∧b<w.heap.size∧w.cell? ⟨b,off+k*2,none⟩=some (.int .i64 l[k].1)∧w.cell? ⟨b,off+k*2+1,none⟩=some (.int .i64 l[k].2):=by
 obtain⟨b,off,hA,hb,hc⟩:=TRow.at_ (f:=pc) pc_len h.row k hk (by omega);exact⟨b,off,hA,hb,hc 0 _ rfl,hc 1 _ rfl⟩
structure RuM where
 name:ByteArray
 spawn:Bool
 level:Int
 time:Int
 chance:Int
 of_:Int
 take:List P2
 give:List P2
 back:List P2
 st:Sl
 sg:Sl
 sb:Sl
abbrev RuM.cells (r:RuM):List Value:=[.string r.name,.bool r.spawn,.int .i64 r.level,.int .i64 r.time,.int .i64 r.chance,.int .i64 r.of_,.slice r.st.A r.st.n r.st.c,.slice r.sg.A r.sg.n r.sg.c,.slice r.sb.A r.sb.n r.sb.c]
abbrev RuM.val (r:RuM):Value:=.agg #[.string r.name,.bool r.spawn,.int .i64 r.level,.int .i64 r.time,.int .i64 r.chance,.int .i64 r.of_,.slice r.st.A r.st.n r.st.c,.slice r.sg.A r.sg.n r.sg.c,.slice r.sb.A r.sb.n r.sb.c]
theorem RuM.len (r:RuM):r.cells.length=9:=rfl
structure RuM.Ok (w : World) (r : RuM) : Prop where
 take:PrV w 132 r.st r.take
 give:PrV w 132 r.sg r.give
 back:PrV w 132 r.sb r.back
 name:r.name.size<=8192
theorem RuM.Ok.keep {w w':World} {r:RuM} (h:r.Ok w) (hk:Keep 132 w w'):r.Ok w':=⟨h.take.keep hk,h.give.keep hk,h.back.keep hk,h.name⟩
structure RulesV (w : World) (s : Sl) (l : List RuM) : Prop where
 row:TRow w 80 s.A (l.flatMap RuM.cells)
 len:s.n=l.length
 small:s.n<=100000
 each:∀r∈l,r.Ok w
theorem RulesV.keep {w w':World} {s:Sl} {l:List RuM} (h:RulesV w s l) (h1:Keep 80 w w') (h2:Keep 132 w w'):RulesV w' s l:=⟨h.row.keep h1,h.len,h.small,fun r hr=>(h.each r hr).keep h2⟩
theorem RulesV.below {w w':World} {s:Sl} {l:List RuM} (h:RulesV w s l) (hb:Below w.heap.size w w'):RulesV w' s l:=h.keep (.below hb) (.below hb)
structure RwM where
 weight:Int
 give:List P2
 sg:Sl
abbrev RwM.cells (r:RwM):List Value:=[.int .i64 r.weight,.slice r.sg.A r.sg.n r.sg.c]
abbrev RwM.val (r:RwM):Value:=.agg #[.int .i64 r.weight,.slice r.sg.A r.sg.n r.sg.c]
theorem RwM.len (r:RwM):r.cells.length=2:=rfl
def RwM.Ok (w:World) (r:RwM):Prop:=PrV w 132 r.sg r.give
structure RowsV (w : World) (s : Sl) (l : List RwM) : Prop where
 row:TRow w 88 s.A (l.flatMap RwM.cells)
 len:s.n=l.length
 small:s.n<=100000
 each:∀r∈l,r.Ok w
theorem RowsV.keep {w w':World} {s:Sl} {l:List RwM} (h:RowsV w s l) (h1:Keep 88 w w') (h2:Keep 132 w w'):RowsV w' s l:=⟨h.row.keep h1,h.len,h.small,fun r hr=>PrV.keep (h.each r hr) h2⟩
theorem RowsV.below {w w':World} {s:Sl} {l:List RwM} (h:RowsV w s l) (hb:Below w.heap.size w w'):RowsV w' s l:=h.keep (.below hb) (.below hb)
structure TbM where
 name:ByteArray
 rows:List RwM
 sr:Sl
abbrev TbM.cells (t:TbM):List Value:=[.string t.name,.slice t.sr.A t.sr.n t.sr.c]
abbrev TbM.val (t:TbM):Value:=.agg #[.string t.name,.slice t.sr.A t.sr.n t.sr.c]
theorem TbM.len (t:TbM):t.cells.length=2:=rfl
structure TbM.Ok (w : World) (t : TbM) : Prop where
 rows:RowsV w t.sr t.rows
 name:t.name.size<=8192
structure TablesV (w : World) (s : Sl) (l : List TbM) : Prop where
 row:TRow w 86 s.A (l.flatMap TbM.cells)
 len:s.n=l.length
 small:s.n<=100000
 each:∀t∈l,t.Ok w
theorem TablesV.keep {w w':World} {s:Sl} {l:List TbM} (h:TablesV w s l) (h0:Keep 86 w w') (h1:Keep 88 w w') (h2:Keep 132 w w'):TablesV w' s l:=⟨h.row.keep h0,h.len,h.small,fun r hr=>⟨(h.each r hr).rows.keep h1 h2,(h.each r hr).name⟩⟩
theorem TablesV.below {w w':World} {s:Sl} {l:List TbM} (h:TablesV w s l) (hb:Below w.heap.size w w'):TablesV w' s l:=h.keep (.below hb) (.below hb) (.below hb)
structure TxM where
 name:ByteArray
 brs:List P2
 sb:Sl
abbrev TxM.cells (t:TxM):List Value:=[.string t.name,.slice t.sb.A t.sb.n t.sb.c]
abbrev TxM.val (t:TxM):Value:=.agg #[.string t.name,.slice t.sb.A t.sb.n t.sb.c]
theorem TxM.len (t:TxM):t.cells.length=2:=rfl
structure TxM.Ok (w : World) (t : TxM) : Prop where
 brs:PrV w 90 t.sb t.brs
 name:t.name.size<=8192
structure TaxesV (w : World) (s : Sl) (l : List TxM) : Prop where
 row:TRow w 93 s.A (l.flatMap TxM.cells)
 len:s.n=l.length
 small:s.n<=100000
 each:∀t∈l,t.Ok w
theorem TaxesV.keep {w w':World} {s:Sl} {l:List TxM} (h:TaxesV w s l) (h0:Keep 93 w w') (h1:Keep 90 w w'):TaxesV w' s l:=⟨h.row.keep h0,h.len,h.small,fun r hr=>⟨(h.each r hr).brs.keep h1,(h.each r hr).name⟩⟩
theorem TaxesV.below {w w':World} {s:Sl} {l:List TxM} (h:TaxesV w s l) (hb:Below w.heap.size w w'):TaxesV w' s l:=h.keep (.below hb) (.below hb)
structure ItsV (w : World) (s : Sl) (l : List It) : Prop where
 row:TRow w 76 s.A (l.flatMap It.cells)
 len:s.n=l.length
 small:s.n<=100000
 each:∀t∈l,t.name.size<=8192
theorem It.len (t:It):t.cells.length=7:=rfl
theorem ItsV.keep {w w':World} {s:Sl} {l:List It} (h:ItsV w s l) (h0:Keep 76 w w'):ItsV w' s l:=⟨h.row.keep h0,h.len,h.small,h.each⟩
theorem ItsV.below {w w':World} {s:Sl} {l:List It} (h:ItsV w s l) (hb:Below w.heap.size w w'):ItsV w' s l:=h.keep (.below hb)
structure CatM where
 items:List It
 rules:List RuM
 tables:List TbM
 taxes:List TxM
 si:Sl
 sr:Sl
 st:Sl
 sx:Sl
abbrev CatM.val (m:CatM):Value:=catS m.si m.sr m.st m.sx
structure CatM.Ok (w : World) (m : CatM) : Prop where
 items:ItsV w m.si m.items
 rules:RulesV w m.sr m.rules
 tables:TablesV w m.st m.tables
 taxes:TaxesV w m.sx m.taxes
theorem CatM.Ok.below {w w':World} {m:CatM} (h:m.Ok w) (hb:Below w.heap.size w w'):m.Ok w':=⟨h.items.below hb,h.rules.below hb,h.tables.below hb,h.taxes.below hb⟩
end
theorem RulesV.at_ {w:World} {s:Sl} {l:List RuM} (h:RulesV w s l) (k:Nat) (hk:k<l.length):∃b off,s.A=some ⟨b,off,none⟩∧b<w.heap.size∧w.cell? ⟨b,off+k*9,none⟩=some (.string l[k].name)∧w.cell? ⟨b,off+k*9+1,none⟩=some (.bool l[k].spawn)∧w.cell? ⟨b,off+k*9+2,none⟩=some (.int .i64 l[k].level)∧w.cell? ⟨b,off+k*9+3,none⟩=some (.int .i64 l[k].time)∧w.cell? ⟨b,off+k*9+4,none⟩=some (.int .i64 l[k].chance)∧w.cell? ⟨b,off+k*9+5,none⟩=some (.int .i64 l[k].of_)∧w.cell? ⟨b,off+k*9+6,none⟩=some (.slice l[k].st.A l[k].st.n l[k].st.c)∧w.cell? ⟨b,off+k*9+7,none⟩=some (.slice l[k].sg.A l[k].sg.n l[k].sg.c)∧w.cell? ⟨b,off+k*9+8,none⟩=some (.slice l[k].sb.A l[k].sb.n l[k].sb.c):=by
 obtain⟨b,off,hA,hb,hc⟩:=TRow.at_ RuM.len h.row k hk (by omega);exact⟨b,off,hA,hb,hc 0 _ rfl,hc 1 _ rfl,hc 2 _ rfl,hc 3 _ rfl,hc 4 _ rfl,hc 5 _ rfl,hc 6 _ rfl,hc 7 _ rfl,hc 8 _ rfl⟩
theorem RowsV.at_ {w:World} {s:Sl} {l:List RwM} (h:RowsV w s l) (k:Nat) (hk:k<l.length):∃b off,s.A=some ⟨b,off,none⟩∧b<w.heap.size∧w.cell? ⟨b,off+k*2,none⟩=some (.int .i64 l[k].weight)∧w.cell? ⟨b,off+k*2+1,none⟩=some (.slice l[k].sg.A l[k].sg.n l[k].sg.c):=by
 obtain⟨b,off,hA,hb,hc⟩:=TRow.at_ RwM.len h.row k hk (by omega);exact⟨b,off,hA,hb,hc 0 _ rfl,hc 1 _ rfl⟩
theorem TablesV.at_ {w:World} {s:Sl} {l:List TbM} (h:TablesV w s l) (k:Nat) (hk:k<l.length):∃b off,s.A=some ⟨b,off,none⟩∧b<w.heap.size∧w.cell? ⟨b,off+k*2,none⟩=some (.string l[k].name)∧w.cell? ⟨b,off+k*2+1,none⟩=some (.slice l[k].sr.A l[k].sr.n l[k].sr.c):=by
 obtain⟨b,off,hA,hb,hc⟩:=TRow.at_ TbM.len h.row k hk (by omega);exact⟨b,off,hA,hb,hc 0 _ rfl,hc 1 _ rfl⟩
theorem TaxesV.at_ {w:World} {s:Sl} {l:List TxM} (h:TaxesV w s l) (k:Nat) (hk:k<l.length):∃b off,s.A=some ⟨b,off,none⟩∧b<w.heap.size∧w.cell? ⟨b,off+k*2,none⟩=some (.string l[k].name)∧w.cell? ⟨b,off+k*2+1,none⟩=some (.slice l[k].sb.A l[k].sb.n l[k].sb.c):=by
 obtain⟨b,off,hA,hb,hc⟩:=TRow.at_ TxM.len h.row k hk (by omega);exact⟨b,off,hA,hb,hc 0 _ rfl,hc 1 _ rfl⟩
theorem ItsV.at_ {w:World} {s:Sl} {l:List It} (h:ItsV w s l) (k:Nat) (hk:k<l.length):∃b off,s.A=some ⟨b,off,none⟩∧b<w.heap.size∧w.cell? ⟨b,off+k*7,none⟩=some (.string l[k].name)∧w.cell? ⟨b,off+k*7+1,none⟩=some (.bool l[k].object)∧w.cell? ⟨b,off+k*7+2,none⟩=some (.bool l[k].mixed)∧w.cell? ⟨b,off+k*7+3,none⟩=some (.bool l[k].coin)∧w.cell? ⟨b,off+k*7+4,none⟩=some (.int .i64 l[k].wear)∧w.cell? ⟨b,off+k*7+5,none⟩=some (.int .i64 l[k].bnd)∧w.cell? ⟨b,off+k*7+6,none⟩=some (.int .i64 l[k].level):=by
 obtain⟨b,off,hA,hb,hc⟩:=TRow.at_ It.len h.row k hk (by omega);exact⟨b,off,hA,hb,hc 0 _ rfl,hc 1 _ rfl,hc 2 _ rfl,hc 3 _ rfl,hc 4 _ rfl,hc 5 _ rfl,hc 6 _ rfl⟩
def hasS (l:List ByteArray) (s:ByteArray):Bool:=l.any fun t=>decide (s=t)
def diffTo (l:List ByteArray):Nat->Bool
 | 0=>true
 | k+1=>diffTo l k && !hasS (l.take k) (l[k]?.getD ⟨#[]⟩)
def diffB (l:List ByteArray):Bool:=diffTo l l.length
def fitB (m:CatM):Bool:=(m.items.all fun t=>fitG t.name) && (m.rules.all fun t=>fitG t.name) && (m.tables.all fun t=>fitG t.name) && (m.taxes.all fun t=>fitG t.name)
def diffC (m:CatM):Bool:=diffB (m.items.map It.name) && diffB (m.rules.map RuM.name) && diffB (m.tables.map TbM.name) && diffB (m.taxes.map TxM.name)
def ruLim (r:RuM):Bool:=decide (r.take.length+r.give.length<=64) && decide (r.take.length+r.back.length<=64)
def tbLim (t:TbM):Bool:=decide (t.rows.length<=64)
def txLim (t:TxM):Bool:=decide (t.brs.length<=16)
def limC (m:CatM):Bool:=decide (m.items.length<=64) && decide (m.rules.length<=64) && decide (m.tables.length<=32) && decide (m.taxes.length<=32) && m.rules.all ruLim && m.tables.all tbLim && m.taxes.all txLim
def lastAt (l:List P2) (k:Nat):Int:=if k=0 then -1 else(l[k-1]?.getD (0,0)).1
def itemK (l:List P2) (k:Nat):Int:=(l[k]?.getD (0,0)).1
def sortTo (n:Nat) (l:List P2):Nat->Bool
 | 0=>true
 | k+1=>sortTo n l k && (decide (lastAt l k<itemK l k) && decide (itemK l k<n))
def sortB (n:Nat) (l:List P2):Bool:=sortTo n l l.length
def unitP (p:P2):Bool:=decide (1<=p.2) && decide (p.2<=1099511627776)
def In64 (a:Int):Prop:=-9223372036854775808<=a∧a<=9223372036854775807
def MapN (w:World) (b n:Nat) (M:Int->Int):Prop :=
 ∃D:DataW Unit,w.ownsMap Tryz.prog 3 (plainElem Tryz.prog 3) b n D∧∀a:Int,D.atKey (.int .i64 a) (.lit (.int .i64 0))=.lit (.int .i64 (M a))
theorem MapN.made (w:World):MapN (w.alloc (.map #[] 0)) w.heap.size 0 fun _=>0:=⟨_,World.ownsMap_made w Tryz.prog 3 (plainElem Tryz.prog 3),fun _=>rfl⟩
theorem MapN.kept {w w':World} {b n:Nat} {M:Int->Int} {row:Option Nat} (h:MapN w b n M) (hg:w.grownBy w' row) (hne:some b≠row):MapN w' b n M:=by
 obtain⟨D,ho,hD⟩:=h;exact⟨D,ho.kept hg hne,hD⟩
theorem MapN.below {w w':World} {b n:Nat} {M:Int->Int} (h:MapN w b n M) (hb:Below w.heap.size w w'):MapN w' b n M:=h.kept (grown_of_below hb none) (by simp)
theorem MapN.lt {w:World} {b n:Nat} {M:Int->Int} (h:MapN w b n M):b<w.heap.size:=by
 obtain⟨D,ho,hD⟩:=h;exact ho.lt
theorem MapN.row {w w':World} {b n B:Nat} {M:Int->Int} {A:Option Addr} {xs:List Value} (hm:MapN w b n M) (h:Row w B A xs) (hg:w.grownBy w' (some b)) (hB:B<=w.heap.size):Row w' B A xs:=by
 rcases h with h|⟨b',off,hA,hb',hc⟩
 ·exact .inl h
 ·refine .inr ⟨b',off,hA,hb',fun j u hu=>?_⟩;have hne:b'≠b:=by
   rintro rfl;have:=hc j u hu;obtain⟨D,⟨es,clock,hh,_⟩,_⟩:=hm;simp[World.cell?,hh]at this
  exact(World.cell?_of_block (w:=w) (hg.block b' (by omega) (fun e=>hne (Option.some.inj e)))).trans (hc j u hu)
def nK (l:List P2) (k:Nat):Int:=(l[k]?.getD (0,0)).2
def unitsW (l:List P2) (x:Int):Nat->Int
 | 0=>0
 | k+1=>if itemK l k=x then IntKind.i64.wrap (unitsW l x k+nK l k) else unitsW l x k
def contTo (t b:List P2):Nat->Bool
 | 0=>true
 | k+1=>contTo t b k && decide (unitsW b (itemK b k) b.length<=unitsW t (itemK b k) t.length)
def contB (t b:List P2):Bool:=contTo t b b.length
def formR (nt nb:Nat) (sp:Bool) (le ti ch of_:Int):Bool :=
 if decide (0<nb) && (ch == of_) then false else if sp then(nt == 0) && (nb == 0) && (le == 0) && (ti == 0) && (ch == of_) else decide (0<nt) || (ti != 0)
def ruFormed (r:RuM):Bool:=formR r.take.length r.back.length r.spawn r.level r.time r.chance r.of_
def ruRange (r:RuM):Bool:=decide (0<=r.level) && decide (r.level<=100) && decide (0<=r.time) && decide (r.time<=1000000) && decide (1<=r.of_) && decide (r.of_<=1000000) && decide (1<=r.chance) && decide (r.chance<=r.of_)
def txP (p:P2):Bool:=decide (0<=p.1) && decide (p.1<=1099511627776) && decide (0<=p.2) && decide (p.2<=10000)
def wtP (r:RwM):Bool:=decide (1<=r.weight) && decide (r.weight<=1099511627776)
def fromAt (brs:List (Int×Int)) (i:Nat):Int:=(brs[i]?.getD (0,0)).1
def incB (brs:List (Int×Int)) (k:Nat):Bool:=(List.range k).all fun i=>i == 0 || decide (fromAt brs (i-1)<fromAt brs i)
def formedB (brs:List (Int×Int)):Bool:=!brs.isEmpty && (fromAt brs 0 == 0) && incB brs brs.length
def strs (l:List ByteArray):List Value:=l.map Value.string
theorem strs_snoc (l:List ByteArray) (s:ByteArray):strs (l ++ [s])=strs l ++ [.string s]:=by simp[strs]
theorem one1s (s:ByteArray):∀u∈([.string s]:List Value),u.oneCell'=true:=by
 intro u hu;simp only[List.mem_cons,List.not_mem_nil,or_false]at hu;rcases hu with rfl;rfl
theorem info9:(Tryz.prog.info? 9).map (fun i=>(i.zero,i.size,i.bytes))=some (some (.string ⟨#[]⟩),1,16):=by kernel_rfl
def wfR (n:Nat) (r:RuM):Bool:=sortB n r.take && sortB n r.give && sortB n r.back && ruFormed r && contB r.take r.back
def wfT (n:Nat) (t:TbM):Bool:=decide (0<t.rows.length) && (t.rows.all fun r=>sortB n r.give)
def wfX (t:TxM):Bool:=formedB t.brs
def wfC (m:CatM):Bool:=m.items.all itFormedB && m.rules.all (wfR m.items.length) && m.tables.all (wfT m.items.length) && m.taxes.all wfX
def rgR (r:RuM):Bool:=r.take.all unitP && r.give.all unitP && r.back.all unitP && ruRange r
def rgT (t:TbM):Bool:=t.rows.all wtP && (t.rows.all fun r=>r.give.all unitP)
def rgX (t:TxM):Bool:=t.brs.all txP
def rgC (m:CatM):Bool:=m.items.all itRangeB && m.rules.all rgR && m.tables.all rgT && m.taxes.all rgX
def codeOf (a b c d e:Bool):Int:=if a=false then 4 else if b=false then 6 else if c=false then 8 else if d=false then 1 else if e=false then 5 else 0
def codeC (m:CatM):Int:=codeOf (limC m) (fitB m) (diffC m) (wfC m) (rgC m)
end
section
def PRow (w:World) (t:TypeId) (P:Nat->Prop) (A:Option Addr) (xs:List Value):Prop :=
 xs=[]∨∃b off cur fl,A=some ⟨b,off,none⟩∧P b∧w.heap[b]? = some (Obj.cells cur t fl)∧∀j u,xs[j]? = some u->cur[off+j]? = some u
theorem PRow.trow {w:World} {t:TypeId} {P:Nat->Prop} {A:Option Addr} {xs:List Value} (h:PRow w t P A xs):TRow w t A xs:=by
 rcases h with h|⟨b,off,cur,fl,hA,_,hb,hc⟩
 ·exact .inl h
 ·exact .inr ⟨b,off,cur,fl,hA,hb,hc⟩
theorem PRow.grown {w w':World} {row:Option Nat} {t:TypeId} {P:Nat->Prop} {A:Option Addr} {xs:List Value} (h:PRow w t P A xs) (hg:w.grownBy w' row) (hp:∀b,P b->some b≠row):PRow w' t P A xs:=by
 rcases h with h|⟨b,off,cur,fl,hA,hP,hb,hc⟩
 ·exact .inl h
 ·exact .inr ⟨b,off,cur,fl,hA,hP,(hg.block b (Array.getElem?_eq_some_iff.1 hb).1 (hp b hP)).trans hb,hc⟩
theorem PRow.mono {w:World} {t:TypeId} {P Q:Nat->Prop} {A:Option Addr} {xs:List Value} (h:PRow w t P A xs) (hp:∀b,b<w.heap.size->P b->Q b):PRow w t Q A xs:=by
 rcases h with h|⟨b,off,cur,fl,hA,hP,hb,hc⟩
 ·exact .inl h
 ·exact .inr ⟨b,off,cur,fl,hA,hp b (Array.getElem?_eq_some_iff.1 hb).1 hP,hb,hc⟩
theorem PRow.of_own {w:World} {e:TypeId} {base size n:Nat} {A:Option Addr} {c:Nat} {xs:List Value} (h:w.ownsRow base e size (.slice A n c) n xs):PRow w e (fun b=>some b=(Value.slice A n c).ownBlock∧base<=b) A xs:=by
 rcases h.2 with ⟨hv,hn⟩|⟨g,cap,cur,hv,hge,hc,_,_,_,ht⟩
 ·left;have:=h.1;rw[hn]at this;exact List.eq_nil_of_length_eq_zero (by simpa using this)
 ·cases hv;refine .inr ⟨g,0,cur,(0,0),rfl,⟨rfl,hge⟩,hc,fun j u hu=>?_⟩;rw[Nat.zero_add];rw[<- ht,List.getElem?_take]at hu;split at hu
  ·simpa using hu
  ·cases hu
structure MkM where
 op:ByteArray
 a:Int
 b:Int
 ks:List MkM
 s:Sl
mutual
def MkM.core:MkM->Mk | ⟨op,a,b,ks,_⟩=>.node op a b (MkM.coreL ks)
def MkM.coreL:List MkM->List Mk | []=>[] | k :: ks=>k.core :: MkM.coreL ks
end
theorem coreL_map (ks:List MkM):MkM.coreL ks=ks.map MkM.core:=by
 induction ks with
 | nil=>rfl
 | cons x xs ih=>simp[MkM.coreL,ih]
theorem coreL_len (ks:List MkM):(MkM.coreL ks).length=ks.length:=by simp[coreL_map]
def MkM.cells (m:MkM):List Value:=[.string m.op,.int .i64 m.a,.int .i64 m.b,.slice m.s.A m.s.n m.s.c]
abbrev MkM.val (m:MkM):Value:=.agg #[.string m.op,.int .i64 m.a,.int .i64 m.b,.slice m.s.A m.s.n m.s.c]
theorem MkM.cells_len (m:MkM):m.cells.length=4:=rfl
def mcells (l:List MkM):List Value:=l.flatMap MkM.cells
theorem mcells_snoc (l:List MkM) (m:MkM):mcells (l ++ [m])=mcells l ++ m.cells:=by simp[mcells]
theorem mcells_len (l:List MkM):(mcells l).length=l.length*4:=flat_len MkM.cells_len l
inductive MkM.Ok (W : World) (t : TypeId) (P : Nat -> Prop) : MkM -> Prop
 | mk (op : ByteArray) (a b : Int) (ks : List MkM) (s : Sl) (row : PRow W t P s.A (mcells ks)) (len : s.n = ks.length) (small : s.n <= 100000) (hop : op.size <= 8192)
   (ha : -9223372036854775808<=a∧a<=9223372036854775807) (hb : -9223372036854775808<=b∧b<=9223372036854775807) (each:∀k∈ks,MkM.Ok W t P k):MkM.Ok W t P ⟨op,a,b,ks,s⟩
section
variable {W W' : World} {t : TypeId} {P Q : Nat -> Prop} {m : MkM}
theorem MkM.Ok.row (h:m.Ok W t P):PRow W t P m.s.A (mcells m.ks):=by cases h;assumption
theorem MkM.Ok.len (h:m.Ok W t P):m.s.n=m.ks.length:=by cases h;assumption
theorem MkM.Ok.small (h:m.Ok W t P):m.s.n<=100000:=by cases h;assumption
theorem MkM.Ok.hop (h:m.Ok W t P):m.op.size<=8192:=by cases h;assumption
theorem MkM.Ok.ha (h:m.Ok W t P) : -9223372036854775808<=m.a∧m.a<=9223372036854775807:=by cases h;assumption
theorem MkM.Ok.hb (h:m.Ok W t P) : -9223372036854775808<=m.b∧m.b<=9223372036854775807:=by cases h;assumption
theorem MkM.Ok.each (h:m.Ok W t P):∀k∈m.ks,k.Ok W t P:=by cases h;assumption
theorem MkM.Ok.grown {row:Option Nat} (h:m.Ok W t P) (hg:W.grownBy W' row) (hp:∀b,P b->some b≠row):m.Ok W' t P:=by
 induction h with
 | mk op a b ks s row len small hop ha hb _ ih=>exact .mk op a b ks s (row.grown hg hp) len small hop ha hb ih
theorem MkM.Ok.bel (h:m.Ok W t P) (hb:Below W.heap.size W W'):m.Ok W' t P:=h.grown (grown_of_below hb none) (by simp)
theorem MkM.Ok.mono (h:m.Ok W t P) (hp:∀b,b<W.heap.size->P b->Q b):m.Ok W t Q:=by
 induction h with
 | mk op a b ks s row len small hop ha hb _ ih=>exact .mk op a b ks s (row.mono hp) len small hop ha hb ih
theorem MkM.Ok.any (h:m.Ok W t P):m.Ok W t (fun _=>True):=h.mono fun _ _ _=>trivial
theorem MkM.Ok.lt (h:m.Ok W t P):m.Ok W t (fun b=>P b∧b<W.heap.size):=h.mono fun _ h1 h2=>⟨h2,h1⟩
theorem MkM.Ok.at_ (h:m.Ok W t P) (k:Nat) (hk:k<m.ks.length):∃b off,m.s.A=some ⟨b,off,none⟩∧b<W.heap.size∧W.cell? ⟨b,off+k*4,none⟩=some (.string m.ks[k].op)∧W.cell? ⟨b,off+k*4+1,none⟩=some (.int .i64 m.ks[k].a)∧W.cell? ⟨b,off+k*4+2,none⟩=some (.int .i64 m.ks[k].b)∧W.cell? ⟨b,off+k*4+3,none⟩=some (.slice m.ks[k].s.A m.ks[k].s.n m.ks[k].s.c):=by
 obtain⟨b,off,hA,hb,hc⟩:=TRow.at_ (f:=MkM.cells) MkM.cells_len h.row.trow k hk (by omega);exact⟨b,off,hA,hb,hc 0 _ rfl,hc 1 _ rfl,hc 2 _ rfl,hc 3 _ rfl⟩
end
theorem MkM.ind {p:MkM->Prop} (h:∀m,(∀k∈m.ks,p k)->p m):∀m,p m :=
 fun m=>MkM.rec (motive_1:=p) (motive_2:=fun ks=>∀k∈ks,p k) (fun op a b ks s ih=>h ⟨op,a,b,ks,s⟩ ih) (fun _ hk=>absurd hk List.not_mem_nil)
  (fun x xs hx hxs k hk=>by
   rcases List.mem_cons.1 hk with e|hk
   ·exact e ▸ hx
   ·exact hxs k hk) m
end
section
def nameIx:List ByteArray->ByteArray->Option Nat
 | [],_=>none
 | x :: xs,s=>if x=s then some 0 else(nameIx xs s).map (· + 1)
theorem nameIx_lt {l:List ByteArray} {s:ByteArray} {k:Nat} (h:nameIx l s=some k):k<l.length:=by
 induction l generalizing k with
 | nil=>simp[nameIx]at h
 | cons x xs ih =>
   simp only[nameIx]at h;split at h
   ·simp at h;subst h;simp
   ·cases hq:nameIx xs s with
    | none=>rw[hq]at h;simp at h
    | some j=>rw[hq]at h;simp at h;subst h;have:=ih hq;simp;omega
abbrev PSt:=Int×Int
inductive PR (α : Type) where
 | bad (rest:List Tok)
 | ok (v:α) (rest:List Tok) (st:PSt)
def PSt.note (st:PSt) (e a:Int):PSt:=if st.1=0 then(e,a) else st
def sNot:ByteArray:=⟨#[110,111,116]⟩
def sAnd:ByteArray:=⟨#[97,110,100]⟩
def sOr:ByteArray:=⟨#[111,114]⟩
def sOpen:ByteArray:=⟨#[40]⟩
def sClose:ByteArray:=⟨#[41]⟩
def sDot:ByteArray:=⟨#[46]⟩
def sKind:ByteArray:=⟨#[107,105,110,100]⟩
def sActor:ByteArray:=⟨#[97,99,116,111,114]⟩
def sRule:ByteArray:=⟨#[114,117,108,101]⟩
def sTick:ByteArray:=⟨#[116,105,99,107]⟩
def sItem:ByteArray:=⟨#[105,116,101,109]⟩
def sMore:ByteArray:=⟨#[109,111,114,101]⟩
def sStep:ByteArray:=⟨#[115,116,101,112]⟩
def sAccount:ByteArray:=⟨#[97,99,99,111,117,110,116]⟩
def headB (ts:List Tok) (k:Int) (s:ByteArray):Bool:=match ts with | t :: _=>t.kind == k && decide (t.text=s) | []=>false
def kindB (ts:List Tok) (k:Int):Bool:=match ts with | t :: _=>t.kind == k | []=>false
def nameP (l:List ByteArray) (f:Int->Mk) (ts:List Tok) (st:PSt):PR Mk :=
 match ts with
 | []=>.bad []
 | t :: r => if t.kind ≠ 0 then .bad (t :: r) else
   match nameIx l t.text with
   | some i=>.ok (f i) r st
   | none=>.ok (f 0) r (st.note 6 t.at_)
def isTwo (op:ByteArray):Bool:=decide (op=sTick) || decide (op=sStep)
def rangeOk (op:ByteArray) (a b:Int):Bool:=if isTwo op then decide (0<=a) && decide (a<=b) && decide (b<=1099511627776) else decide (0<=a) && decide (a<=1073741824)
def numsP (op : ByteArray) (ts : List Tok) (st : PSt) : PR Mk :=
 match ts with
 | []=>.bad []
 | t :: r => if t.kind ≠ 1 then .bad (t :: r) else
   if isTwo op then
    if headB r 2 sDot=false then .bad r else
    if headB r.tail 2 sDot=false then .bad r.tail else
    match r.tail.tail with
    | []=>.bad []
    | u :: r2=>if u.kind≠1 then .bad (u :: r2) else .ok (.node op t.num u.num []) r2 (if rangeOk op t.num u.num then st else st.note 5 u.at_)
   else .ok (.node op t.num 0 []) r (if rangeOk op t.num 0 then st else st.note 5 t.at_)
def isOp (s:ByteArray):Bool:=decide (s=sKind) || decide (s=sActor) || decide (s=sRule) || decide (s=sTick) || decide (s=sItem) || decide (s=sMore) || decide (s=sStep) || decide (s=sAccount)
def condP (kn rn it : List ByteArray) (ts : List Tok) (st : PSt) : PR Mk :=
 match ts with
 | []=>.bad []
 | t :: r => if t.kind ≠ 0 ∨ isOp t.text = false then .bad (t :: r) else
   if t.text=sKind then nameP kn (fun i=>.node sKind i 0 []) r st
   else if t.text=sRule then nameP rn (fun i=>.node sRule i 0 []) r st
   else if t.text=sItem then nameP it (fun i=>.node sItem i 0 []) r st
   else if t.text=sMore then
    match r with
    | []=>.bad []
    | u :: r2=>if u.kind≠1 then .bad (u :: r2) else nameP it (fun i=>.node sMore u.num i []) r2 st
   else numsP t.text r st
def PR.not:PR Mk->PR Mk | .bad x=>.bad x | .ok m r st=>.ok (.node sNot 0 0 [m]) r st
def PR.close:PR Mk->PR Mk | .bad x=>.bad x | .ok m r st=>if headB r 2 sClose then .ok m r.tail st else .bad r
def PR.joined (op:ByteArray):PR (List Mk)->PR Mk | .bad x=>.bad x | .ok ms r st=>.ok (match ms with | [m]=>m | l=>.node op 0 0 l) r st
def jOp (o:Bool):ByteArray:=if o then sOr else sAnd
section
variable (kn rn it : List ByteArray)
mutual
def factP:Nat->List Tok->PSt->PR Mk
 | 0,ts,_=>.bad ts
 | n+1,ts,st=>if headB ts 0 sNot then(factP n ts.tail st).not else if headB ts 2 sOpen then(joinP n true ts.tail st).close else condP kn rn it ts st
def joinP:Nat->Bool->List Tok->PSt->PR Mk
 | 0,_,ts,_=>.bad ts
 | n+1,o,ts,st=>(listP n o ts st).joined (jOp o)
def listP:Nat->Bool->List Tok->PSt->PR (List Mk)
 | 0,_,ts,_=>.bad ts
 | n + 1, o, ts, st =>
   match (if o then joinP n false ts st else factP n ts st)with
   | .bad x=>.bad x
   | .ok m r st'=>if headB r 0 (jOp o) then(match listP n o r.tail st' with | .bad x=>.bad x | .ok ms r' st''=>.ok (m :: ms) r' st'') else .ok [m] r st'
end
end
def PR.good {α:Type} (ts:List Tok) (st:PSt):PR α->Prop | .bad _=>True | .ok _ r st'=>r.length<ts.length∧(st'.1=0->st.1=0)
theorem note_zero {st:PSt} {e a:Int} (he:e≠0) (h:(st.note e a).1=0):st.1=0:=by
 unfold PSt.note at h;split at h
 ·assumption
 ·exact h
theorem tail_lt {ts:List Tok} {k:Int} {s:ByteArray} (h:headB ts k s=true):ts.tail.length<ts.length:=by
 cases ts with
 | nil=>simp[headB]at h
 | cons t r=>simp
theorem nameP_good (l:List ByteArray) (f:Int->Mk) (ts:List Tok) (st:PSt):(nameP l f ts st).good ts st:=by
 cases ts with
 | nil=>trivial
 | cons t r =>
   simp only[nameP];split
   ·trivial
   ·split
    ·exact⟨by simp,id⟩
    ·exact⟨by simp,note_zero (by decide)⟩
theorem numsP_good (op : ByteArray) (ts : List Tok) (st : PSt) : (numsP op ts st).good ts st := by
 cases ts with
 | nil=>trivial
 | cons t r =>
   simp only[numsP];split
   ·trivial
   ·split
    ·split
     ·trivial
     ·split
      ·trivial
      ·split
       ·trivial
       ·rename_i he
        split
        ·trivial
        ·refine⟨?_,fun h=>?_⟩
         ·have:=congrArg List.length he;simp at this⊢;omega
         ·split at h
          ·exact h
          ·exact note_zero (by decide) h
    ·refine⟨by simp,fun h=>?_⟩;split at h
     ·exact h
     ·exact note_zero (by decide) h
theorem PR.good.mono {α:Type} {ts us:List Tok} {st:PSt} {p:PR α} (h:p.good ts st) (hl:ts.length<=us.length):p.good us st:=by
 cases p with
 | bad x=>trivial
 | ok v r st'=>exact⟨Nat.lt_of_lt_of_le h.1 hl,h.2⟩
theorem condP_good (kn rn it : List ByteArray) (ts : List Tok) (st : PSt) : (condP kn rn it ts st).good ts st := by
 cases ts with
 | nil=>trivial
 | cons t r =>
   simp only[condP];split
   ·trivial
   ·split
    ·exact(nameP_good ..).mono (by simp)
    ·split
     ·exact(nameP_good ..).mono (by simp)
     ·split
      ·exact(nameP_good ..).mono (by simp)
      ·split
       ·split
        ·trivial
        ·split
         ·trivial
         ·exact(nameP_good ..).mono (by simp;omega)
       ·exact(numsP_good ..).mono (by simp)
section
variable (kn rn it : List ByteArray)
theorem good_all (n : Nat) : (∀ ts st, (factP kn rn it n ts st).good ts st) ∧ (∀ o ts st, (joinP kn rn it n o ts st).good ts st) ∧ (∀ o ts st, (listP kn rn it n o ts st).good ts st) := by
 induction n with
 | zero=>exact⟨fun _ _=>by simp[factP,PR.good],fun _ _ _=>by simp[joinP,PR.good],fun _ _ _=>by simp[listP,PR.good]⟩
 | succ n ih =>
   obtain⟨h1,h2,h3⟩:=ih;refine⟨fun ts st=>?_,fun o ts st=>?_,fun o ts st=>?_⟩
   ·simp only [factP];split
    ·rename_i hh
     have:=(h1 ts.tail st).mono (Nat.le_of_lt (tail_lt hh));revert this;cases factP kn rn it n ts.tail st <;> exact id
    ·split
     ·rename_i hh
      have:=(h2 true ts.tail st).mono (Nat.le_of_lt (tail_lt hh));revert this;cases joinP kn rn it n true ts.tail st with
      | bad x=>exact id
      | ok m r st' =>
        intro h;simp only[PR.close];split
        ·rename_i hc
         exact⟨Nat.lt_trans (tail_lt hc) h.1,h.2⟩
        ·trivial
     ·exact condP_good ..
   ·simp only[joinP];have:=h3 o ts st;revert this;cases listP kn rn it n o ts st <;> exact id
   ·simp only[listP];have hg:(if o then joinP kn rn it n false ts st else factP kn rn it n ts st).good ts st:=by
     split
     ·exact h2 false ts st
     ·exact h1 ts st
    revert hg;cases(if o then joinP kn rn it n false ts st else factP kn rn it n ts st)with
    | bad x=>exact id
    | ok m r st' =>
      intro h;dsimp only;split
      ·rename_i hh
       have:=(h3 o r.tail st').mono (Nat.le_of_lt (tail_lt hh));revert this;cases listP kn rn it n o r.tail st' with
       | bad x=>exact id
       | ok ms r2 st2=>exact fun k=>⟨Nat.lt_trans k.1 h.1,fun z=>h.2 (k.2 z)⟩
      ·exact h
end
inductive PAns where
 | err (at_ code:Int)
 | mark (m:Mk)
def parseA (kn rn it:List ByteArray) (len:Int) (ts:List Tok):PAns :=
 let bad:=fun(r:List Tok)=>PAns.err (match r with | t :: _=>t.at_ | []=>len) 2
 match joinP kn rn it (5*ts.length+5) true ts (0,0)with
 | .bad r=>bad r
 | .ok m r st=>if r≠[] then bad r else if st.1≠0 then .err st.2 st.1 else if 64<m.size∨16<m.depth then .err 0 4 else .mark m
end
structure MvM where
 from_:Int
 to_:Int
 item:Int
 n:Int
 sp:Sl
abbrev MvM.cells (v:MvM):List Value:=[.int .i64 v.from_,.int .i64 v.to_,.int .i64 v.item,.int .i64 v.n,.slice v.sp.A v.sp.n v.sp.c]
abbrev MvM.val (v:MvM):Value:=.agg #[.int .i64 v.from_,.int .i64 v.to_,.int .i64 v.item,.int .i64 v.n,.slice v.sp.A v.sp.n v.sp.c]
theorem MvM.cells_len (v:MvM):v.cells.length=5:=rfl
structure StepM where
 id:Int
 kind:Int
 actor:Int
 tick:Int
 rule:Int
 times:Int
 moves:List MvM
 sm:Sl
abbrev StepM.cells (s:StepM):List Value:=[.int .i64 s.id,.int .i64 s.kind,.int .i64 s.actor,.int .i64 s.tick,.int .i64 s.rule,.int .i64 s.times,.slice s.sm.A s.sm.n s.sm.c]
abbrev StepM.val (s:StepM):Value:=.agg #[.int .i64 s.id,.int .i64 s.kind,.int .i64 s.actor,.int .i64 s.tick,.int .i64 s.rule,.int .i64 s.times,.slice s.sm.A s.sm.n s.sm.c]
theorem StepM.cells_len (s:StepM):s.cells.length=7:=rfl
structure MovesV (w : World) (s : Sl) (l : List MvM) : Prop where
 row:TRow w 125 s.A (l.flatMap MvM.cells)
 len:s.n=l.length
 small:s.n<=1000
theorem MovesV.keep {w w':World} {s:Sl} {l:List MvM} (h:MovesV w s l) (h1:Keep 125 w w'):MovesV w' s l:=⟨h.row.keep h1,h.len,h.small⟩
theorem MovesV.below {w w':World} {s:Sl} {l:List MvM} (h:MovesV w s l) (hb:Below w.heap.size w w'):MovesV w' s l:=h.keep (.below hb)
theorem MovesV.at_ {w:World} {s:Sl} {l:List MvM} (h:MovesV w s l) (k:Nat) (hk:k<l.length):∃b off,s.A=some ⟨b,off,none⟩∧b<w.heap.size∧w.cell? ⟨b,off+k*5,none⟩=some (.int .i64 l[k].from_)∧w.cell? ⟨b,off+k*5+1,none⟩=some (.int .i64 l[k].to_)∧w.cell? ⟨b,off+k*5+2,none⟩=some (.int .i64 l[k].item)∧w.cell? ⟨b,off+k*5+3,none⟩=some (.int .i64 l[k].n)∧w.cell? ⟨b,off+k*5+4,none⟩=some (.slice l[k].sp.A l[k].sp.n l[k].sp.c):=by
 obtain⟨b,off,hA,hb,hc⟩:=TRow.at_ (f:=MvM.cells) MvM.cells_len h.row k hk (by omega);exact⟨b,off,hA,hb,hc 0 _ rfl,hc 1 _ rfl,hc 2 _ rfl,hc 3 _ rfl,hc 4 _ rfl⟩
structure StepM.Ok (w : World) (s : StepM) : Prop where
 moves:MovesV w s.sm s.moves
 id:In64 s.id
 kind:In64 s.kind
 actor:In64 s.actor
 tick:In64 s.tick
 rule:In64 s.rule
theorem StepM.Ok.below {w w':World} {s:StepM} (h:s.Ok w) (hb:Below w.heap.size w w'):s.Ok w':=⟨h.moves.below hb,h.id,h.kind,h.actor,h.tick,h.rule⟩
theorem StepM.Ok.keep {w w':World} {s:StepM} (h:s.Ok w) (hk:Keep 125 w w'):s.Ok w':=⟨h.moves.keep hk,h.id,h.kind,h.actor,h.tick,h.rule⟩
theorem t_kind (op:ByteArray) (a b:Int) (A:Option Addr) (n c:Nat) (s:StepM) (w:World):Calls Tryz.prog 90 #[.agg #[.string op,.int .i64 a,.int .i64 b,.slice A n c],s.val] w fun e w'=>e=.returned (.bool (s.kind == a))∧Below w.heap.size w w':=by
 go_enter Tryz.func90,Tryz.ntmps90;go_wp2;go_ret;exact⟨rfl,((Below.refl _ _).alloc (Nat.le_refl _) _).alloc (by simp) _⟩
theorem t_actor (op:ByteArray) (a b:Int) (A:Option Addr) (n c:Nat) (s:StepM) (w:World):Calls Tryz.prog 92 #[.agg #[.string op,.int .i64 a,.int .i64 b,.slice A n c],s.val] w fun e w'=>e=.returned (.bool (s.actor == a))∧Below w.heap.size w w':=by
 go_enter Tryz.func92,Tryz.ntmps92;go_wp2;go_ret;exact⟨rfl,((Below.refl _ _).alloc (Nat.le_refl _) _).alloc (by simp) _⟩
theorem t_rule (op:ByteArray) (a b:Int) (A:Option Addr) (n c:Nat) (s:StepM) (w:World):Calls Tryz.prog 94 #[.agg #[.string op,.int .i64 a,.int .i64 b,.slice A n c],s.val] w fun e w'=>e=.returned (.bool (s.rule == a || s.rule == wrap64 (-2-a)))∧Below w.heap.size w w':=by
 cases q:(s.rule == a)
 ·have q':(s.rule == a)=false:=q;go_enter Tryz.func94,Tryz.ntmps94;go_wp2;go_ret;exact⟨by simp,((Below.refl _ _).alloc (Nat.le_refl _) _).alloc (by simp) _⟩
 ·have q':(s.rule == a)=true:=q;go_enter Tryz.func94,Tryz.ntmps94;go_wp2;go_ret;exact⟨by simp,((Below.refl _ _).alloc (Nat.le_refl _) _).alloc (by simp) _⟩
theorem t_tick (op:ByteArray) (a b:Int) (A:Option Addr) (n c:Nat) (s:StepM) (w:World):Calls Tryz.prog 97 #[.agg #[.string op,.int .i64 a,.int .i64 b,.slice A n c],s.val] w fun e w'=>e=.returned (.bool (decide (a<=s.tick) && decide (s.tick<=b)))∧Below w.heap.size w w':=by
 cases q:decide (a<=s.tick)
 ·have q':decide (a<=s.tick)=false:=q;go_enter Tryz.func97,Tryz.ntmps97;go_wp2;go_ret;exact⟨by simp,((Below.refl _ _).alloc (Nat.le_refl _) _).alloc (by simp) _⟩
 ·have q':decide (a<=s.tick)=true:=q;go_enter Tryz.func97,Tryz.ntmps97;go_wp2;go_ret;exact⟨by simp,((Below.refl _ _).alloc (Nat.le_refl _) _).alloc (by simp) _⟩
theorem t_step (op:ByteArray) (a b:Int) (A:Option Addr) (n c:Nat) (s:StepM) (w:World):Calls Tryz.prog 104 #[.agg #[.string op,.int .i64 a,.int .i64 b,.slice A n c],s.val] w fun e w'=>e=.returned (.bool (decide (a<=s.id) && decide (s.id<=b)))∧Below w.heap.size w w':=by
 cases q:decide (a<=s.id)
 ·have q':decide (a<=s.id)=false:=q;go_enter Tryz.func104,Tryz.ntmps104;go_wp2;go_ret;exact⟨by simp,((Below.refl _ _).alloc (Nat.le_refl _) _).alloc (by simp) _⟩
 ·have q':decide (a<=s.id)=true:=q;go_enter Tryz.func104,Tryz.ntmps104;go_wp2;go_ret;exact⟨by simp,((Below.refl _ _).alloc (Nat.le_refl _) _).alloc (by simp) _⟩
theorem t_item (op:ByteArray) (a b:Int) (A:Option Addr) (n c:Nat) (v:MvM) (w:World):Calls Tryz.prog 99 #[.agg #[.string op,.int .i64 a,.int .i64 b,.slice A n c],v.val] w fun e w'=>e=.returned (.bool (v.item == a))∧Below w.heap.size w w':=by
 go_enter Tryz.func99,Tryz.ntmps99;go_wp2;go_ret;exact⟨rfl,((Below.refl _ _).alloc (Nat.le_refl _) _).alloc (by simp) _⟩
theorem t_more (op:ByteArray) (a b:Int) (A:Option Addr) (n c:Nat) (v:MvM) (w:World):Calls Tryz.prog 101 #[.agg #[.string op,.int .i64 a,.int .i64 b,.slice A n c],v.val] w fun e w'=>e=.returned (.bool (v.item == b && decide (a<v.n)))∧Below w.heap.size w w':=by
 cases q:(v.item == b)
 ·have q':(v.item == b)=false:=q;go_enter Tryz.func101,Tryz.ntmps101;go_wp2;go_ret;exact⟨by simp,((Below.refl _ _).alloc (Nat.le_refl _) _).alloc (by simp) _⟩
 ·have q':(v.item == b)=true:=q;go_enter Tryz.func101,Tryz.ntmps101;go_wp2;go_ret;exact⟨by simp,((Below.refl _ _).alloc (Nat.le_refl _) _).alloc (by simp) _⟩
theorem t_account (op:ByteArray) (a b:Int) (A:Option Addr) (n c:Nat) (v:MvM) (w:World):Calls Tryz.prog 105 #[.agg #[.string op,.int .i64 a,.int .i64 b,.slice A n c],v.val] w fun e w'=>e=.returned (.bool (v.from_ == a || v.to_ == a))∧Below w.heap.size w w':=by
 cases q:(v.from_ == a)
 ·have q':(v.from_ == a)=false:=q;go_enter Tryz.func105,Tryz.ntmps105;go_wp2;go_ret;exact⟨by simp,((Below.refl _ _).alloc (Nat.le_refl _) _).alloc (by simp) _⟩
 ·have q':(v.from_ == a)=true:=q;go_enter Tryz.func105,Tryz.ntmps105;go_wp2;go_ret;exact⟨by simp,((Below.refl _ _).alloc (Nat.le_refl _) _).alloc (by simp) _⟩
def RdAt (W:World) (rb:Nat) (ts:List Tok) (len:Int):Prop :=
 ∃A c,Bk W rb 176 [.slice A ts.length c,.int .i64 len]∧TRow W 186 A (kcells ts)∧ts.length<=c∧ts.length<=8192∧∀b off,A=some ⟨b,off,none⟩->b<rb
theorem RdAt.lt {W:World} {rb:Nat} {ts:List Tok} {len:Int} (h:RdAt W rb ts len):rb<W.heap.size:=by
 obtain⟨A,c,h1,_⟩:=h;exact h1.lt
theorem RdAt.keep {W W':World} {rb:Nat} {ts:List Tok} {len:Int} (h:RdAt W rb ts len) (hk:∀i,i<=rb->W'.heap[i]? = W.heap[i]?):RdAt W' rb ts len:=by
 obtain⟨A,c,h1,h2,h3,h4,h5⟩:=h;refine⟨A,c,(hk rb (Nat.le_refl _)).trans h1,?_,h3,h4,h5⟩;rcases h2 with h2|⟨b,off,cur,fl,hA,hb,hc⟩
 ·exact .inl h2
 ·exact .inr ⟨b,off,cur,fl,hA,(hk b (Nat.le_of_lt (h5 b off hA))).trans hb,hc⟩
theorem RdAt.upTo {W W':World} {rb B:Nat} {ts:List Tok} {len:Int} (h:RdAt W rb ts len) (hb:Below B W W') (hB:rb<B):RdAt W' rb ts len:=h.keep fun i hi=>hb.block i (by omega)
theorem RdAt.below {W W':World} {rb:Nat} {ts:List Tok} {len:Int} (h:RdAt W rb ts len) (hb:Below W.heap.size W W'):RdAt W' rb ts len:=h.upTo hb h.lt
theorem grown_new {w w':World} {row:Option Nat} (h:w.grownBy w' row) {p:Addr} (hp:w.heap.size<=p.block) (u:Value):w.grownBy (w'.setCell p u) row :=
 ⟨h.os,h.tape,h.output,by simpa[World.setCell]using h.size,fun i hi hne=>(Below.heap_setCell w' p u i (by omega)).trans (h.block i hi hne)⟩
theorem four_laid {w:World} {g:Nat} {t:TypeId} {x0 x1 x2 x3:Value} (h:Bk w g t [x0,x1,x2,x3]) (a b c d:Value):Bk ((((w.setCell ⟨g,0,none⟩ a).setCell ⟨g,1,none⟩ b).setCell ⟨g,2,none⟩ c).setCell ⟨g,3,none⟩ d) g t [a,b,c,d] :=
 (((h.set 0 a).set 1 b).set 2 c).set 3 d
theorem four_below {w:World} {B g:Nat} (hg:B<=g) (a b c d:Value):Below B w ((((w.setCell ⟨g,0,none⟩ a).setCell ⟨g,1,none⟩ b).setCell ⟨g,2,none⟩ c).setCell ⟨g,3,none⟩ d) :=
 ((((Below.refl B w).setCell (p:=⟨g,0,none⟩) hg a).setCell (p:=⟨g,1,none⟩) hg b).setCell (p:=⟨g,2,none⟩) hg c).setCell (p:=⟨g,3,none⟩) hg d
theorem four_grown {w w':World} {row:Option Nat} {g:Nat} (h:w.grownBy w' row) (hg:w.heap.size<=g) (a b c d:Value):w.grownBy ((((w'.setCell ⟨g,0,none⟩ a).setCell ⟨g,1,none⟩ b).setCell ⟨g,2,none⟩ c).setCell ⟨g,3,none⟩ d) row :=
 grown_new (grown_new (grown_new (grown_new h (p:=⟨g,0,none⟩) hg a) (p:=⟨g,1,none⟩) hg b) (p:=⟨g,2,none⟩) hg c) (p:=⟨g,3,none⟩) hg d
def atOf (ts:List Tok) (len:Int):Int:=match ts with | []=>len | t :: _=>t.at_
def isB (ts:List Tok) (k:Int) (s:ByteArray):Bool:=match ts with | []=>false | t :: _=>t.kind == k && (s.toList.isEmpty || t.text.toList == s.toList)
theorem TRow.tok {W:World} {A:Option Addr} {t:Tok} {r:List Tok} (h:TRow W 186 A (kcells (t :: r))):∃b off,A=some ⟨b,off,none⟩∧b<W.heap.size∧W.cell? ⟨b,off,none⟩=some (.int .i64 t.kind)∧W.cell? ⟨b,off+1,none⟩=some (.string t.text)∧W.cell? ⟨b,off+2,none⟩=some (.int .i64 t.num)∧W.cell? ⟨b,off+3,none⟩=some (.int .i64 t.at_):=by
 obtain⟨b,off,hA,hb,hc⟩:=TRow.at_ (f:=Tok.cells) (n:=4) (fun _=>rfl) h 0 (by simp) (by omega);exact⟨b,off,hA,hb,by simpa using hc 0 _ rfl,by simpa using hc 1 _ rfl,by simpa using hc 2 _ rfl,by simpa using hc 3 _ rfl⟩
theorem TRow.toks {W:World} {b off:Nat} {t:Tok} {r:List Tok} (h:TRow W 186 (some ⟨b,off,none⟩) (kcells (t :: r))):TRow W 186 (some ⟨b,off+4,none⟩) (kcells r):=by
 rcases h with h|⟨b',off',cur,fl,hA,hb,hc⟩
 ·simp[kcells,Tok.cells]at h
 ·cases hA;refine .inr ⟨b,off+4,cur,fl,rfl,hb,fun j u hu=>?_⟩;have:=hc (j+4) u (by simpa[kcells,Tok.cells]using hu);rw[show off+4+j=off+(j+4) by omega];exact this
theorem is_any {W:World} {rb:Nat} {ts:List Tok} {len:Int} (k:Int) (s:ByteArray) (h:RdAt W rb ts len):Calls Tryz.prog 133 #[.pointer (some ⟨rb,0,none⟩),.int .i64 k,.string s] W fun e w'=>e=.returned (.bool (isB ts k s))∧w'=W:=by
 obtain⟨A,c,h1,h2,h3,h4,h5⟩:=h;have hl:=h1.lt;have c0:=h1.k0;cases ts with
 | nil =>
   clear h1 h2;go_enter Tryz.func133,Tryz.ntmps133;go_wp2;go_ret;exact⟨rfl,rfl⟩
 | cons t r =>
   obtain⟨b,off,rfl,hb,d0,d1,d2,d3⟩:=h2.tok;have e1:isB (t :: r) k s=(t.kind == k && (s.toList.isEmpty || t.text.toList == s.toList)):=rfl;rw[e1];have hlen:(t :: r).length=r.length+1:=rfl;rw[hlen]at c0;generalize r.length=n at c0;clear h1 h2 e1 h3 h4 hlen;cases q1:(t.kind == k)
   ·have q1':(t.kind == k)=false:=q1;go_enter Tryz.func133,Tryz.ntmps133;go_wp2;go_ret;exact⟨by simp,rfl⟩
   ·have q1':(t.kind == k)=true:=q1;cases q2:s.toList.isEmpty
    ·cases q3:(t.text.toList == s.toList)
     ·go_enter Tryz.func133,Tryz.ntmps133;go_wp2;go_ret;exact⟨by simp,rfl⟩
     ·go_enter Tryz.func133,Tryz.ntmps133;go_wp2;go_ret;exact⟨by simp,rfl⟩
    ·go_enter Tryz.func133,Tryz.ntmps133;go_wp2;go_ret;exact⟨by simp,rfl⟩
theorem at_any {W:World} {rb:Nat} {ts:List Tok} {len:Int} (h:RdAt W rb ts len):Calls Tryz.prog 130 #[.pointer (some ⟨rb,0,none⟩)] W fun e w'=>e=.returned (.int .i64 (atOf ts len))∧w'=W:=by
 obtain⟨A,c,h1,h2,h3,h4,h5⟩:=h;have hl:=h1.lt;have⟨c0,c1,_⟩:=h1.p2;cases ts with
 | nil =>
   clear h1 h2;go_enter Tryz.func130,Tryz.ntmps130;go_wp2;go_ret;exact⟨rfl,rfl⟩
 | cons t r =>
   obtain⟨b,off,rfl,hb,d0,d1,d2,d3⟩:=h2.tok;have e1:atOf (t :: r) len=t.at_:=rfl;rw[e1];have hlen:(t :: r).length=r.length+1:=rfl;rw[hlen]at c0;generalize r.length=n at c0;clear h1 h2 e1 h3 h4 hlen;go_enter Tryz.func130,Tryz.ntmps130;go_wp2;go_ret;exact⟨rfl,rfl⟩
def failV (ts:List Tok) (len:Int):Ending:=.panicked [{ v:=.iface 178 (.agg #[.int .i64 (atOf ts len)]),recovered:=false }]
theorem fail_any {W:World} {rb:Nat} {ts:List Tok} {len:Int} (h:RdAt W rb ts len):Calls Tryz.prog 112 #[.pointer (some ⟨rb,0,none⟩)] W fun e w'=>e=failV ts len∧w'=W:=by
 have K:=iH (at_any h);clear h;go_enter Tryz.func112,Tryz.ntmps112;go_wp2_with fail;refine K.out.mono ?_;rintro e w1 ⟨rfl,rfl⟩;clear K;go_wp2;exact⟨rfl,rfl,rfl⟩
def tailA (A:Addr) (c:Nat):Addr:=if c=1 then A else⟨A.block,A.off+4,none⟩
theorem run_tail (w:World) (b off n c:Nat):(Instr.slice 172 (.slice (some ⟨b,off,none⟩) (n+1) c) (some (.int .i64 1)) none none).run Tryz.prog w=.ok (.slice (some (tailA ⟨b,off,none⟩ c)) n (c-1)) w:=by
 have h1:(1:Int)<=((n+1:Nat):Int):=by omega
 simp[Instr.slice,Instr.sliceBounds,Instr.sliceBound,asIntOf,run_underlying Tryz.underlying172,go_sem];rw[if_pos (by omega)];unfold tailA;split <;> rfl
theorem RdAt.tail {W:World} {rb:Nat} {t:Tok} {r:List Tok} {len:Int} {b off n c:Nat} (hB:Bk W rb 176 [.slice (some ⟨b,off,none⟩) (n+1) c,.int .i64 len]) (hR:TRow W 186 (some ⟨b,off,none⟩) (kcells (t :: r))) (hn:n=r.length) (hc:n+1<=c) (hs:n+1<=8192) (h5:b<rb) :
 RdAt (W.setCell ⟨rb,0,none⟩ (.slice (some (tailA ⟨b,off,none⟩ c)) n (c-1))) rb r len:=by
 subst hn;refine⟨some (tailA ⟨b,off,none⟩ c),c-1,hB.set 0 _,?_,by omega,by omega,fun b' off' e=>?_⟩;rotate_left
 ·unfold tailA at e;split at e <;> (cases e;exact h5)
 refine TRow.keep ?_ (.setCell hB (by decide) _);by_cases h1:c=1
 ·left;have:r=[]:=List.eq_nil_of_length_eq_zero (by omega);subst this;rfl
 ·unfold tailA;rw[if_neg h1];exact hR.toks
theorem accept_yes {W:World} {rb:Nat} {ts:List Tok} {len:Int} (k:Int) (s:ByteArray) (h:RdAt W rb ts len) (hi:isB ts k s=true):Calls Tryz.prog 131 #[.pointer (some ⟨rb,0,none⟩),.int .i64 k,.string s] W fun e w'=>e=.returned (.bool true)∧RdAt w' rb ts.tail len∧W.grownBy w' (some rb):=by
 have K:=iH (is_any k s h);cases ts with
 | nil=>cases hi
 | cons t r =>
   rw[hi]at K;obtain⟨A,c,h1,h2,h3,h4,h5⟩:=h;obtain⟨b,off,rfl,hb,_⟩:=h2.tok;have hl:=h1.lt;have hrun:=fun w=>run_tail w b off r.length c
   have hlen:(t :: r).length=r.length+1:=rfl;rw[hlen]at h1 h3 h4;have HN:=iH (rfl:r.length=r.length);have HT:=iH (fun(n:Nat) (hn:n=r.length) (hB:Bk W rb 176 [.slice (some ⟨b,off,none⟩) (n+1) c,.int .i64 len]) (hc:n+1<=c) (hs:n+1<=8192)=>RdAt.tail hB h2 hn hc hs (h5 b off rfl));clear h2 hi hlen;show Calls Tryz.prog 131 _ W fun e w'=>_∧RdAt w' rb r len∧_
   generalize hq:r.length=n at *;have HT2:=iH (HT.out n rfl h1 h3 h4);have c0:=h1.k0;have f0:=h1.frozen 0;have HG:=iH (grown_setCell W rb 0 (.slice (some (tailA ⟨b,off,none⟩ c)) n (c-1)));clear h1 HT hq HN;go_enter Tryz.func131,Tryz.ntmps131;go_wp2_with fail;refine K.out.mono ?_;rintro e w1 ⟨rfl,rfl⟩;clear K;go_wp2;go_ret;exact⟨rfl,HT2.out,HG.out⟩
theorem accept_no {W:World} {rb:Nat} {ts:List Tok} {len:Int} (k:Int) (s:ByteArray) (h:RdAt W rb ts len) (hi:isB ts k s=false):Calls Tryz.prog 131 #[.pointer (some ⟨rb,0,none⟩),.int .i64 k,.string s] W fun e w'=>e=.returned (.bool false)∧w'=W:=by
 have K:=iH (is_any k s h);rw[hi]at K;clear h hi;go_enter Tryz.func131,Tryz.ntmps131;go_wp2_with fail;refine K.out.mono ?_;rintro e w1 ⟨rfl,rfl⟩;clear K;go_wp2;go_ret;exact⟨rfl,rfl⟩
theorem grown_trans2 {a b c:World} {row:Option Nat} (h:a.grownBy b row) (k:b.grownBy c row):a.grownBy c row :=
 ⟨k.os.trans h.os,k.tape.trans h.tape,k.output.trans h.output,Nat.le_trans h.size k.size,fun i hi hne=>(k.block i (Nat.lt_of_lt_of_le hi h.size) hne).trans (h.block i hi hne)⟩
theorem need_no {W:World} {rb:Nat} {ts:List Tok} {len:Int} (k:Int) (s:ByteArray) (h:RdAt W rb ts len) (hi:isB ts k s=false):Calls Tryz.prog 141 #[.pointer (some ⟨rb,0,none⟩),.int .i64 k,.string s] W fun e w'=>e=failV ts len∧W.grownBy w' (some rb):=by
 have y:Below W.heap.size W (W.alloc (.cells #[.int .i64 0,.string ⟨#[]⟩,.int .i64 0,.int .i64 0] 186)):=(Below.refl _ _).alloc (Nat.le_refl _) _;have h':=h.below y;have K:=iH (is_any k s h');have F:=iH (fail_any h');rw[hi]at K;clear h h' hi;go_enter Tryz.func141,Tryz.ntmps141;go_wp2_with fail;refine K.out.mono ?_;rintro e w1 ⟨rfl,rfl⟩;clear K;go_wp2_with fail;refine F.out.mono ?_;rintro e w1 ⟨rfl,rfl⟩;exact⟨rfl,rfl,grown_of_below y _⟩
theorem need_yes {W:World} {rb:Nat} {t:Tok} {r:List Tok} {len:Int} (k:Int) (s:ByteArray) (h:RdAt W rb (t :: r) len) (hi:isB (t :: r) k s=true):Calls Tryz.prog 141 #[.pointer (some ⟨rb,0,none⟩),.int .i64 k,.string s] W fun e w'=>e=.returned (.agg #[.int .i64 t.kind,.string t.text,.int .i64 t.num,.int .i64 t.at_])∧RdAt w' rb r len∧W.grownBy w' (some rb):=by
 have y:Below W.heap.size W (W.alloc (.cells #[.int .i64 0,.string ⟨#[]⟩,.int .i64 0,.int .i64 0] 186)):=(Below.refl _ _).alloc (Nat.le_refl _) _;have y2:=y.alloc (by simp) (.cells #[.int .i64 t.kind,.string t.text,.int .i64 t.num,.int .i64 t.at_] 186);have K:=iH (is_any k s (h.below y));rw[hi]at K;obtain⟨A,c,h1,h2,h3,h4,h5⟩:=h;obtain⟨b,off,rfl,hb,d0,d1,d2,d3⟩:=h2.tok;have hl:=h1.lt;have hrun:=fun w=>run_tail w b off r.length c
 have hlen:(t :: r).length=r.length+1:=rfl;rw[hlen]at h1 h3 h4;have HR:=iH h2;clear h2 hi hlen;have hq:r.length=r.length:=rfl;generalize hq:r.length=n at *;have c0:=h1.k0;have HB:=iH h1;have f0:=h1.frozen 0;have Hq:=iH hq;clear h1 hq;go_enter Tryz.func141,Tryz.ntmps141;go_wp2_with fail;refine K.out.mono ?_;rintro e w1 ⟨rfl,rfl⟩;clear K;go_wp2;refine bodyPost_ret (v:=.agg #[.int .i64 t.kind,.string t.text,.int .i64 t.num,.int .i64 t.at_]) (by simp[results,Tryz.results141,go_sem]) rfl ?_;have hT:=RdAt.tail HB.out HR.out hq.symm h3 h4 (h5 b off rfl);have b2:Below (W.setCell ⟨rb,0,none⟩ (.slice (some (tailA ⟨b,off,none⟩ c)) n (c-1))).heap.size (W.setCell ⟨rb,0,none⟩ (.slice (some (tailA ⟨b,off,none⟩ c)) n (c-1))) (((W.setCell ⟨rb,0,none⟩ (.slice (some (tailA ⟨b,off,none⟩ c)) n (c-1))).alloc (.cells #[.int .i64 t.kind,.string t.text,.int .i64 t.num,.int .i64 t.at_] 186)).alloc (.cells #[.int .i64 t.kind,.string t.text,.int .i64 t.num,.int .i64 t.at_] 186)):=((Below.refl _ _).alloc (Nat.le_refl _) _).alloc (by simp) _;exact⟨rfl,hT.below b2,grown_trans2 (grown_setCell W rb 0 _) (grown_of_below b2 _)⟩
theorem word_no {W:World} {rb:Nat} {ts:List Tok} {len:Int} (s:ByteArray) (h:RdAt W rb ts len) (hi:isB ts 0 s=false):Calls Tryz.prog 142 #[.pointer (some ⟨rb,0,none⟩),.string s] W fun e w'=>e=failV ts len∧W.grownBy w' (some rb):=by
 have y:Below W.heap.size W (W.alloc (.cells #[.int .i64 0,.string ⟨#[]⟩,.int .i64 0,.int .i64 0] 186)):=(Below.refl _ _).alloc (Nat.le_refl _) _;have K:=iH (need_no 0 s (h.below y) hi);clear h hi;go_enter Tryz.func142,Tryz.ntmps142;go_wp2_with fail;refine K.out.mono ?_;rintro e w1 ⟨rfl,hg⟩;exact⟨rfl,rfl,grown_trans2 (grown_of_below y _) hg⟩
theorem word_yes {W:World} {rb:Nat} {t:Tok} {r:List Tok} {len:Int} (s:ByteArray) (h:RdAt W rb (t :: r) len) (hi:isB (t :: r) 0 s=true):Calls Tryz.prog 142 #[.pointer (some ⟨rb,0,none⟩),.string s] W fun e w'=>e=.returned (.agg #[.int .i64 t.kind,.string t.text,.int .i64 t.num,.int .i64 t.at_])∧RdAt w' rb r len∧W.grownBy w' (some rb):=by
 have y:Below W.heap.size W (W.alloc (.cells #[.int .i64 0,.string ⟨#[]⟩,.int .i64 0,.int .i64 0] 186)):=(Below.refl _ _).alloc (Nat.le_refl _) _;have K:=iH (need_yes 0 s (h.below y) hi);have hl:=h.lt;have Bz:=Bk.new W 186 [.int .i64 0,.string ⟨#[]⟩,.int .i64 0,.int .i64 0];clear h hi;go_enter Tryz.func142,Tryz.ntmps142;go_wp2_with fail;refine K.out.mono ?_;rintro e w1 ⟨rfl,hr,hg⟩;have B1:=Bz.grown hg (by simp;omega);have hg2:=grown_trans2 (grown_of_below y (some rb)) hg;have hz:=B1.lt;have⟨c0,c1,c2,c3,_⟩:=B1.p4;have f0:=B1.frozen 0;have f1:=B1.frozen 1;have f2:=B1.frozen 2;have f3:=B1.frozen 3;have HR:=iH hr;have HB:=iH B1;clear hr B1 Bz K hg y;go_wp2;have HF:=iH (four_laid HB.out (.int .i64 t.kind) (.string t.text) (.int .i64 t.num) (.int .i64 t.at_));have hR2:=HR.out.upTo (four_below (B:=W.heap.size) (Nat.le_refl _) (.int .i64 t.kind) (.string t.text) (.int .i64 t.num) (.int .i64 t.at_)) hl;have hG2:=four_grown hg2 (Nat.le_refl _) (.int .i64 t.kind) (.string t.text) (.int .i64 t.num) (.int .i64 t.at_);generalize(((w1.setCell ⟨W.heap.size,0,none⟩ (.int .i64 t.kind)).setCell ⟨W.heap.size,1,none⟩ (.string t.text)).setCell ⟨W.heap.size,2,none⟩ (.int .i64 t.num)).setCell ⟨W.heap.size,3,none⟩ (.int .i64 t.at_)=X at *;have⟨e0,e1,e2,e3,_⟩:=HF.out.p4;refine bodyPost_ret (v:=.agg #[.int .i64 t.kind,.string t.text,.int .i64 t.num,.int .i64 t.at_]) (by simp[results,Tryz.results142,go_sem,e0,e1,e2,e3]) rfl ?_;exact⟨rfl,hR2,hG2⟩
theorem number_no {W:World} {rb:Nat} {ts:List Tok} {len:Int} (h:RdAt W rb ts len) (hi:isB ts 1 ⟨#[]⟩=false):Calls Tryz.prog 144 #[.pointer (some ⟨rb,0,none⟩)] W fun e w'=>e=failV ts len∧W.grownBy w' (some rb):=by
 have y:Below W.heap.size W (W.alloc (.cells #[.int .i64 0,.string ⟨#[]⟩,.int .i64 0,.int .i64 0] 186)):=(Below.refl _ _).alloc (Nat.le_refl _) _;have K:=iH (need_no 1 ⟨#[]⟩ (h.below y) hi);clear h hi;go_enter Tryz.func144,Tryz.ntmps144;go_wp2_with fail;refine K.out.mono ?_;rintro e w1 ⟨rfl,hg⟩;exact⟨rfl,rfl,grown_trans2 (grown_of_below y _) hg⟩
theorem number_yes {W:World} {rb:Nat} {t:Tok} {r:List Tok} {len:Int} (h:RdAt W rb (t :: r) len) (hi:isB (t :: r) 1 ⟨#[]⟩=true):Calls Tryz.prog 144 #[.pointer (some ⟨rb,0,none⟩)] W fun e w'=>e=.returned (.agg #[.int .i64 t.kind,.string t.text,.int .i64 t.num,.int .i64 t.at_])∧RdAt w' rb r len∧W.grownBy w' (some rb):=by
 have y:Below W.heap.size W (W.alloc (.cells #[.int .i64 0,.string ⟨#[]⟩,.int .i64 0,.int .i64 0] 186)):=(Below.refl _ _).alloc (Nat.le_refl _) _;have K:=iH (need_yes 1 ⟨#[]⟩ (h.below y) hi);have hl:=h.lt;have Bz:=Bk.new W 186 [.int .i64 0,.string ⟨#[]⟩,.int .i64 0,.int .i64 0];clear h hi;go_enter Tryz.func144,Tryz.ntmps144;go_wp2_with fail;refine K.out.mono ?_;rintro e w1 ⟨rfl,hr,hg⟩;have B1:=Bz.grown hg (by simp;omega);have hg2:=grown_trans2 (grown_of_below y (some rb)) hg;have hz:=B1.lt;have⟨c0,c1,c2,c3,_⟩:=B1.p4;have f0:=B1.frozen 0;have f1:=B1.frozen 1;have f2:=B1.frozen 2;have f3:=B1.frozen 3;have HR:=iH hr;have HB:=iH B1;clear hr B1 Bz K hg y;go_wp2;have HF:=iH (four_laid HB.out (.int .i64 t.kind) (.string t.text) (.int .i64 t.num) (.int .i64 t.at_));have hR2:=HR.out.upTo (four_below (B:=W.heap.size) (Nat.le_refl _) (.int .i64 t.kind) (.string t.text) (.int .i64 t.num) (.int .i64 t.at_)) hl;have hG2:=four_grown hg2 (Nat.le_refl _) (.int .i64 t.kind) (.string t.text) (.int .i64 t.num) (.int .i64 t.at_);generalize(((w1.setCell ⟨W.heap.size,0,none⟩ (.int .i64 t.kind)).setCell ⟨W.heap.size,1,none⟩ (.string t.text)).setCell ⟨W.heap.size,2,none⟩ (.int .i64 t.num)).setCell ⟨W.heap.size,3,none⟩ (.int .i64 t.at_)=X at *;have⟨e0,e1,e2,e3,_⟩:=HF.out.p4;refine bodyPost_ret (v:=.agg #[.int .i64 t.kind,.string t.text,.int .i64 t.num,.int .i64 t.at_]) (by simp[results,Tryz.results144,go_sem,e0,e1,e2,e3]) rfl ?_;exact⟨rfl,hR2,hG2⟩
theorem symbol_no {W:World} {rb:Nat} {ts:List Tok} {len:Int} (s:ByteArray) (h:RdAt W rb ts len) (hi:isB ts 2 s=false):Calls Tryz.prog 132 #[.pointer (some ⟨rb,0,none⟩),.string s] W fun e w'=>e=failV ts len∧W.grownBy w' (some rb):=by
 have K:=iH (need_no 2 s h hi);clear h hi;go_enter Tryz.func132,Tryz.ntmps132;go_wp2_with fail;refine K.out.mono ?_;rintro e w1 ⟨rfl,hg⟩;exact⟨rfl,rfl,hg⟩
theorem symbol_yes {W:World} {rb:Nat} {t:Tok} {r:List Tok} {len:Int} (s:ByteArray) (h:RdAt W rb (t :: r) len) (hi:isB (t :: r) 2 s=true):Calls Tryz.prog 132 #[.pointer (some ⟨rb,0,none⟩),.string s] W fun e w'=>e=.returned (.tuple #[])∧RdAt w' rb r len∧W.grownBy w' (some rb):=by
 have K:=iH (need_yes 2 s h hi);clear h hi;go_enter Tryz.func132,Tryz.ntmps132;go_wp2_with fail;refine K.out.mono ?_;rintro e w1 ⟨rfl,hr,hg⟩;clear K;go_wp2
 go_end0
 exact⟨rfl,hr,hg⟩
structure CondM where
 u:Bool
 f:Nat
 cap:Option Nat
 nm:Nat
 rg:Nat
def capsV:Option Nat->Array Value | none=>#[] | some b=>#[.pointer (some ⟨b,0,none⟩)]
theorem capsV_inj {a b:Option Nat} (h:capsV a=capsV b):a=b:=by
 cases a <;> cases b <;> simp[capsV]at h⊢;exact h
def condVal:Option CondM->Value
 | none=>.agg #[.bool false,.nilFunc,.nilFunc,.nilFunc]
 | some c=>.agg #[.bool c.u,.func (.func c.f) #[] (capsV c.cap),.func (.func c.nm) #[] #[],.func (.func c.rg) #[] #[]]
def condD:Option CondM->DataW Unit
 | none=>.agg []
 | some c=>.agg [.lit (.bool c.u),.lit (.int .i64 c.f),.lit (.int .i64 (match c.cap with | none=>-1 | some b=>b)),.lit (.int .i64 c.nm),.lit (.int .i64 c.rg)]
theorem condVal_inj {a b:Option CondM} (h:condVal a=condVal b):a=b:=by
 cases a with
 | none =>
   cases b with
   | none=>rfl
   | some d=>simp[condVal]at h
 | some c =>
   cases b with
   | none=>simp[condVal]at h
   | some d =>
     obtain⟨u,f,cap,nm,rg⟩:=c;obtain⟨u',f',cap',nm',rg'⟩:=d;simp only[condVal,Value.agg.injEq,Array.mk.injEq,List.cons.injEq,Value.bool.injEq,Value.func.injEq,Fn.func.injEq,true_and,and_true]at h;obtain⟨h1,⟨h2,h3⟩,h4,h5⟩:=h;have h3:=capsV_inj h3;subst h1;subst h2;subst h3;subst h4;subst h5;rfl
theorem condD_inj {a b:Option CondM} (h:condD a=condD b):a=b:=by
 cases a with
 | none=>cases b <;> simp[condD]at h⊢
 | some c =>
   cases b with
   | none=>simp[condD]at h
   | some d =>
     obtain⟨u,f,cap,nm,rg⟩:=c;obtain⟨u',f',cap',nm',rg'⟩:=d;simp only[condD,DataW.agg.injEq,List.cons.injEq,DataW.lit.injEq,Lit.bool.injEq,Lit.int.injEq,true_and,and_true]at h;obtain⟨h1,h2,h3,h4,h5⟩:=h;obtain rfl:=h1;obtain rfl:f=f':=by omega
     obtain rfl:nm=nm':=by omega
     obtain rfl:rg=rg':=by omega
     have:cap=cap':=by
      cases cap <;> cases cap' <;> simp at h3⊢ <;> omega
     rw[this]
open Classical in
noncomputable def condElem (v:Value):Option (DataW Unit×List MemPlace):=if h:∃o,v=condVal o then some (condD h.choose,[]) else none
theorem condElem_mk (o:Option CondM):condElem (condVal o)=some (condD o,[]):=by
 unfold condElem;have h:∃o',condVal o=condVal o':=⟨o,rfl⟩;rw[dif_pos h,<- condVal_inj h.choose_spec]
theorem condElem_inv {v:Value} {o:Option CondM} {ps:List MemPlace} (h:condElem v=some (condD o,ps)):v=condVal o:=by
 unfold condElem at h;split at h
 ·rename_i hx
  simp only[Option.some.injEq,Prod.mk.injEq]at h;rw[<- condD_inj h.1];exact hx.choose_spec
 ·cases h
theorem zero169 (w:World):(zeroValue 169).run Tryz.prog w=.ok (condVal none) w:=by kernel_rfl
def MapC (w:World) (b n:Nat) (M:ByteArray->Option CondM):Prop :=
 ∃D:DataW Unit,w.ownsMap Tryz.prog 9 condElem b n D∧∀s:ByteArray,Maps.has D (.string s.data.toList)=(M s).isSome∧D.atKey (.string s.data.toList) (condD none)=condD (M s)
theorem MapC.made (w:World):MapC (w.alloc (.map #[] 0)) w.heap.size 0 fun _=>none :=
 ⟨_,World.ownsMap_made w Tryz.prog 9 condElem,fun _=>⟨rfl,rfl⟩⟩
theorem MapC.kept {w w':World} {b n:Nat} {M:ByteArray->Option CondM} {row:Option Nat} (h:MapC w b n M) (hg:w.grownBy w' row) (hne:some b≠row):MapC w' b n M:=by
 obtain⟨D,ho,hD⟩:=h;exact⟨D,ho.kept hg hne,hD⟩
theorem MapC.below {w w':World} {b n:Nat} {M:ByteArray->Option CondM} (h:MapC w b n M) (hb:Below w.heap.size w w'):MapC w' b n M:=h.kept (grown_of_below hb none) (by simp)
theorem MapC.lt {w:World} {b n:Nat} {M:ByteArray->Option CondM} (h:MapC w b n M):b<w.heap.size:=by
 obtain⟨D,ho,hD⟩:=h;exact ho.lt
theorem MapC.look {w:World} {b n:Nat} {M:ByteArray->Option CondM} (h:MapC w b n M) {s:ByteArray} (hs:s.size<=maxLen) :
 (Instr.lookup 121 (.map (some b)) (.string s) false).run Tryz.prog w=.ok (condVal (M s)) w:=by
 obtain⟨D,ho,hD⟩:=h;obtain⟨v,ps,hrun,hv⟩:=ho.lookup (Maps.string_keyed Tryz.underlying9) Tryz.underlying121 (zero169 w) (condElem_mk none) (key_str hs);rw[(hD s).2]at hv;rw[<- condElem_inv hv];exact hrun
theorem MapC.look_ok {w:World} {b n:Nat} {M:ByteArray->Option CondM} (h:MapC w b n M) {s:ByteArray} (hs:s.size<=maxLen) :
 (Instr.lookup 121 (.map (some b)) (.string s) true).run Tryz.prog w=.ok (.tuple #[condVal (M s),.bool (M s).isSome]) w:=by
 obtain⟨D,ho,hD⟩:=h;obtain⟨v,ps,hrun,hv⟩:=ho.look_ok (Maps.string_keyed Tryz.underlying9) Tryz.underlying121 (zero169 w) (condElem_mk none) (key_str hs);rw[(hD s).2]at hv;rw[<- condElem_inv hv,<- (hD s).1];exact hrun
def updC (M:ByteArray->Option CondM) (s:ByteArray) (c:CondM):ByteArray->Option CondM:=fun t=>if t=s then some c else M t
def FnAt (W:World) (b f:Nat):Prop:=b<W.heap.size∧W.cell? ⟨b,0,none⟩=some (.func (.func f) #[] #[])
theorem FnAt.below {W W':World} {b f:Nat} (h:FnAt W b f) (hb:Below W.heap.size W W'):FnAt W' b f:=⟨Nat.lt_of_lt_of_le h.1 hb.size,(hb.cell (p:=⟨b,0,none⟩) h.1).trans h.2⟩
theorem FnAt.grown {W W':World} {b f r n:Nat} {M:ByteArray->Option CondM} (h:FnAt W b f) (hm:MapC W r n M) (hg:W.grownBy W' (some r)):FnAt W' b f:=by
 have hne:b≠r:=by
  rintro rfl;obtain⟨D,⟨es,clock,hb,_⟩,_⟩:=hm;have:=h.2;simp[World.cell?,hb]at this
 exact⟨Nat.lt_of_lt_of_le h.1 hg.size,(World.cell?_of_block (w:=W) (hg.block b h.1 (fun e=>hne (Option.some.inj e)))).trans h.2⟩
theorem some_any (f:Nat) (w:World):Calls Tryz.prog 86 #[.func (.func f) #[] #[]] w fun e w'=>e=.returned (.func (.func 87) #[] #[.pointer (some ⟨w.heap.size,0,none⟩)])∧FnAt w' w.heap.size f∧Below w.heap.size w w':=by
 have hmf:∀(fn:Fn) (first cap:Array Value) (w:World),(Instr.makeFunc fn first cap).run Tryz.prog w=.ok (.func fn first cap) w:=fun _ _ _ _=>rfl
 go_enter Tryz.func86,Tryz.ntmps86;go_wp2;go_ret;refine⟨rfl,⟨by simp,?_⟩,(Below.refl _ _).alloc (Nat.le_refl _) _⟩;simp
def condsM (b1 b2 b3:Nat):ByteArray->Option CondM :=
 updC (updC (updC (updC (updC (updC (updC (updC (fun _=>none) sKind ⟨false,90,none,85,91⟩) sActor ⟨false,92,none,85,93⟩) sRule ⟨false,94,none,95,96⟩) sTick ⟨true,97,none,85,98⟩)
  sItem ⟨false,87,some b1,100,96⟩) sMore ⟨true,87,some b2,102,103⟩) sStep ⟨true,104,none,85,98⟩) sAccount ⟨false,87,some b3,85,93⟩
structure CondsAt (W : World) (bm n b1 b2 b3 : Nat) : Prop where
 map:MapC W bm n (condsM b1 b2 b3)
 f1:FnAt W b1 99
 f2:FnAt W b2 101
 f3:FnAt W b3 105
theorem CondsAt.below {W W':World} {bm n b1 b2 b3:Nat} (h:CondsAt W bm n b1 b2 b3) (hb:Below W.heap.size W W'):CondsAt W' bm n b1 b2 b3:=⟨h.map.below hb,h.f1.below hb,h.f2.below hb,h.f3.below hb⟩
def CondsQ (w:World) (e:Ending) (w':World):Prop:=∃bm n b1 b2 b3,e=.returned (.map (some bm))∧CondsAt w' bm n b1 b2 b3∧Below w.heap.size w w'
theorem MapC.put {w:World} {b n:Nat} {M:ByteArray->Option CondM} (h:MapC w b n M) (s:ByteArray) (hs:s.size<=100) (c:CondM) (hn:n<1000) :
 ∃w',(Instr.mapUpdate 121 (.map (some b)) (.string s) (.agg #[.bool c.u,.func (.func c.f) #[] (capsV c.cap),.func (.func c.nm) #[] #[],.func (.func c.rg) #[] #[]])).run Tryz.prog w=.ok () w'∧MapC w' b (n+1) (updC M s c)∧w.grownBy w' (some b):=by
 obtain⟨D,ho,hD⟩:=h;obtain⟨w',hrun,ho',hg⟩:=ho.update (Maps.string_keyed Tryz.underlying9) Tryz.underlying121 (by unfold maxLen;omega) (key_str (s:=s) (by unfold maxLen;omega)) (condElem_mk (some c));refine⟨w',hrun,⟨_,ho',fun t=>?_⟩,hg⟩;by_cases e:t=s
 ·subst e;rw[Maps.has_put_same ho.isMap (keyLit _),Maps.atKey_put_same ho.isMap (keyLit _)];simp[updC]
 ·have hne:(Lit.string t.data.toList)≠.string s.data.toList:=fun h=>e (bytes_inj (by simpa using h))
  rw[Maps.has_put_other hne,Maps.atKey_put_other hne];simpa[updC,e]using hD t
theorem conds_any (w:World):Calls Tryz.prog 56 #[] w (CondsQ w):=by
 have hmm:=@run_makeMap Tryz.prog;have m0:=MapC.made w;obtain⟨w1,r1,m1,g1⟩:=m0.put sKind (by decide) ⟨false,90,none,85,91⟩ (by omega);obtain⟨w2,r2,m2,g2⟩:=m1.put sActor (by decide) ⟨false,92,none,85,93⟩ (by omega);obtain⟨w3,r3,m3,g3⟩:=m2.put sRule (by decide) ⟨false,94,none,95,96⟩ (by omega);obtain⟨w4,r4,m4,g4⟩:=m3.put sTick (by decide) ⟨true,97,none,85,98⟩ (by omega);have G0:Below w.heap.size w (w.alloc (.map #[] 0)):=(Below.refl _ _).alloc (Nat.le_refl _) _;have z1:=g1.size;have z2:=g2.size;have z3:=g3.size;rw[World.size_alloc]at z1;have q4:Below w.heap.size w w4:=(((G0.grown g1 G0.size (by simp)).grown g2 (by omega) (by simp)).grown g3 (by omega) (by simp)).grown g4 (by omega) (by simp);clear z1 z2 z3;have Q4:=iH q4;have M4:=iH m4;clear m0 m1 m2 m3 m4 g1 g2 g3 g4 q4 G0;dsimp only[capsV,sKind,sActor,sRule,sTick]at r1 r2 r3 r4;go_enter Tryz.func56,Tryz.ntmps56;go_wp2_with fail;(with_reducible refine(some_any 99 w4).mono ?_);rintro e w5 ⟨rfl,f5,b5⟩;obtain⟨w6,r6,m6,g6⟩:=(M4.out.below b5).put sItem (by decide) ⟨false,87,some w4.heap.size,100,96⟩ (by omega);have q5:=Q4.out.trans (b5.mono Q4.out.size);have Q6:=iH (q5.grown g6 q5.size (by simp));have F6:=iH (f5.grown (M4.out.below b5) g6);have M6:=iH m6;clear f5 b5 g6 m6 q5 r1 r2 r3 r4 M4 Q4;dsimp only[capsV,sItem]at r6;generalize w4.heap.size=b1 at *;go_wp2_with fail;(with_reducible refine(some_any 101 w6).mono ?_);rintro e w7 ⟨rfl,f7,b7⟩;obtain⟨w8,r8,m8,g8⟩:=(M6.out.below b7).put sMore (by decide) ⟨true,87,some w6.heap.size,102,103⟩ (by omega);obtain⟨w9,r9,m9,g9⟩:=m8.put sStep (by decide) ⟨true,104,none,85,98⟩ (by omega);have q7:=Q6.out.trans (b7.mono Q6.out.size);have q8:=q7.grown g8 q7.size (by simp);have Q9:=iH (q8.grown g9 q8.size (by simp));have F9:=iH (((F6.out.below b7).grown (M6.out.below b7) g8).grown m8 g9);have E9:=iH ((f7.grown (M6.out.below b7) g8).grown m8 g9);have M9:=iH m9;clear f7 b7 g8 g9 m8 m9 q7 q8 r6 M6 Q6 F6;dsimp only[capsV,sMore,sStep]at r8 r9;generalize w6.heap.size=b2 at *;go_wp2_with fail;(with_reducible refine(some_any 105 w9).mono ?_);rintro e w10 ⟨rfl,f10,b10⟩;obtain⟨w11,r11,m11,g11⟩:=(M9.out.below b10).put sAccount (by decide) ⟨false,87,some w9.heap.size,85,93⟩ (by omega);have q10:=Q9.out.trans (b10.mono Q9.out.size);have Q11:=iH (q10.grown g11 q10.size (by simp));have C11:Hid (CondsAt w11 w.heap.size _ b1 b2 w9.heap.size):=iH ⟨m11,(F9.out.below b10).grown (M9.out.below b10) g11,(E9.out.below b10).grown (M9.out.below b10) g11,f10.grown (M9.out.below b10) g11⟩;clear f10 b10 g11 m11 q10 r8 r9 M9 Q9 F9 E9;dsimp only[capsV,sAccount]at r11;generalize w9.heap.size=b3 at *;go_wp2_with fail;go_ret;exact⟨_,_,b1,b2,b3,rfl,C11.out,Q11.out⟩
section
section
variable {α : Type}
def noK (f:α->Bool) (l:List α) (k:Nat):Bool:=(l.take k).any f
theorem noK_succ (f:α->Bool) (l:List α) (k:Nat) (h:k<l.length):noK f l (k+1)=(noK f l k || f l[k]):=by
 unfold noK;rw[List.take_succ_eq_append_getElem h,List.any_append];simp
theorem noK_yes (f:α->Bool) (l:List α) (k:Nat) (h:k<l.length) (hf:f l[k]=true):l.any f=true:=List.any_eq_true.2 ⟨l[k],List.getElem_mem h,hf⟩
theorem noK_all (f:α->Bool) (l:List α) (n:Nat) (h:n=l.length):noK f l n=l.any f:=by
 unfold noK;rw[h,List.take_length]
end
def IxQ (w:World) (b:Bool) (e:Ending) (w':World):Prop:=∃i:Int,e=.returned (.int .i64 i)∧decide (0<=i)=b∧Below w.heap.size w w'
theorem ix_mk (q:FuncId) (caps:Array Value) (hq:∀(args:Array Value) (W:World),(callFunc q args).run Tryz.prog W=.ok (.enter q args) W) {w:World} {P:Nat->Prop} {m:MkM} (f:MkM->Bool) (h:m.Ok w 49 P)
 (hF:Hid (∀(t:MkM) (W:World),t∈m.ks->Below w.heap.size w W->Calls Tryz.prog q (#[t.val] ++ caps) W fun e w'=>e=.returned (.bool (f t))∧Below W.heap.size W w')) :
 Calls Tryz.prog 128 #[.slice m.s.A m.s.n m.s.c,.func (.func q) #[] caps] w (IxQ w (m.ks.any f)):=by
 have Hn:=iH h.len;have H:=iH h;have hs:=h.small;clear h;obtain⟨op,ma,mb,l,s⟩:=m;dsimp only[MkM.ks,MkM.s]at *;obtain⟨A,n,c⟩:=s;dsimp only at Hn hs⊢;go_enter Tryz.func128,Tryz.ntmps128;go_wp2_with fail;go_loopw [8] (fun i wr=>∃k:Nat,k<=n∧i=.int .i64 k∧noK f l k=false∧Below w.heap.size w wr) (fun i _=>n-(intOf i).toNat)
 case atStart=>exact⟨0,Nat.zero_le _,rfl,rfl,Below.refl _ _⟩
 case round =>
  obtain⟨k,hk,rfl,hR,hb⟩:=hrel;have HR:=iH hR;have hsz:=hb.size;clear hR;by_cases hlt:k<n
  ·have hkl:k<l.length:=by have:=Hn.out;omega
   obtain⟨b,off,rfl,hbb,c0,c1,c2,c3⟩:=(H.out.bel hb).at_ k hkl;dsimp only[MkM.ks,MkM.s]at c0 c1 c2 c3;have Hs:=iH (noK_succ f l k hkl);have Hno:=iH (noK_yes f l k hkl);have hmem:=List.getElem_mem hkl;have HF:=iH (fun W hW=>hF.out l[k] W hmem hW);clear hmem hF;generalize l[k]=t at *;have HC:=iH (HF.out _ hb);clear HF hkl;go_wp2_with fail;refine HC.out.mono ?_;rintro e w1 ⟨rfl,hb1⟩;have hb3:Below w.heap.size w w1:=hb.trans (hb1.mono hsz);clear HC;cases hq:f t
   ·rw[hq,HR.out]at Hs;clear hq Hno;go_wp2;go_roundw
    case rel=>exact⟨k+1,by omega,by go_num,Hs.out,hb3⟩
    case measure=>simp[intOf];omega
   ·have Hq:=iH (Hno.out hq);clear hq Hs Hno;go_wp2;go_ret;exact⟨k,rfl,by rw[Hq.out];simp,hb3⟩
  ·have hkn:k=n:=by omega
   have HT:Hid (l.any f=false):=by
    show l.any f=false;rw[<- noK_all f l n Hn.out,<- hkn];exact HR.out
   clear hkn;go_wp2;go_ret;exact⟨-1,rfl,by rw[HT.out];rfl,hb⟩
theorem has_mk (q:FuncId) (caps:Array Value) (hq:∀(args:Array Value) (W:World),(callFunc q args).run Tryz.prog W=.ok (.enter q args) W) {w:World} {P:Nat->Prop} {m:MkM} (f:MkM->Bool) (h:m.Ok w 49 P)
 (hF:Hid (∀(t:MkM) (W:World),t∈m.ks->Below w.heap.size w W->Calls Tryz.prog q (#[t.val] ++ caps) W fun e w'=>e=.returned (.bool (f t))∧Below W.heap.size W w')) :
 Calls Tryz.prog 108 #[.slice m.s.A m.s.n m.s.c,.func (.func q) #[] caps] w fun e w'=>e=.returned (.bool (m.ks.any f))∧Below w.heap.size w w':=by
 have K:=iH (ix_mk q caps hq f h hF);clear hF h hq;go_enter Tryz.func108,Tryz.ntmps108;go_wp2_with fail;refine K.out.mono ?_;rintro e w1 ⟨i,rfl,hi,hb⟩;clear K;go_wp2;go_ret;exact⟨by rw[<- hi];rfl,hb⟩
theorem ix_mv (q:FuncId) (caps:Array Value) (hq:∀(args:Array Value) (W:World),(callFunc q args).run Tryz.prog W=.ok (.enter q args) W) {w:World} {s:Sl} {l:List MvM} (f:MvM->Bool) (h:MovesV w s l)
 (hF:Hid (∀(t:MvM) (W:World),t∈l->Below w.heap.size w W->Calls Tryz.prog q (#[t.val] ++ caps) W fun e w'=>e=.returned (.bool (f t))∧Below W.heap.size W w')) :
 Calls Tryz.prog 126 #[.slice s.A s.n s.c,.func (.func q) #[] caps] w (IxQ w (l.any f)):=by
 have Hn:=iH h.len;have H:=iH h;have hs:=h.small;clear h
 skip
 obtain⟨A,n,c⟩:=s;dsimp only at Hn hs⊢;go_enter Tryz.func126,Tryz.ntmps126;go_wp2_with fail;go_loopw [8] (fun i wr=>∃k:Nat,k<=n∧i=.int .i64 k∧noK f l k=false∧Below w.heap.size w wr) (fun i _=>n-(intOf i).toNat)
 case atStart=>exact⟨0,Nat.zero_le _,rfl,rfl,Below.refl _ _⟩
 case round =>
  obtain⟨k,hk,rfl,hR,hb⟩:=hrel;have HR:=iH hR;have hsz:=hb.size;clear hR;by_cases hlt:k<n
  ·have hkl:k<l.length:=by have:=Hn.out;omega
   obtain⟨b,off,rfl,hbb,c0,c1,c2,c3,c4⟩:=(H.out.below hb).at_ k hkl
   skip
   have Hs:=iH (noK_succ f l k hkl);have Hno:=iH (noK_yes f l k hkl);have hmem:=List.getElem_mem hkl;have HF:=iH (fun W hW=>hF.out l[k] W hmem hW);clear hmem hF;generalize l[k]=t at *;have HC:=iH (HF.out _ hb);clear HF hkl;go_wp2_with fail;refine HC.out.mono ?_;rintro e w1 ⟨rfl,hb1⟩;have hb3:Below w.heap.size w w1:=hb.trans (hb1.mono hsz);clear HC;cases hq:f t
   ·rw[hq,HR.out]at Hs;clear hq Hno;go_wp2;go_roundw
    case rel=>exact⟨k+1,by omega,by go_num,Hs.out,hb3⟩
    case measure=>simp[intOf];omega
   ·have Hq:=iH (Hno.out hq);clear hq Hs Hno;go_wp2;go_ret;exact⟨k,rfl,by rw[Hq.out];simp,hb3⟩
  ·have hkn:k=n:=by omega
   have HT:Hid (l.any f=false):=by
    show l.any f=false;rw[<- noK_all f l n Hn.out,<- hkn];exact HR.out
   clear hkn;go_wp2;go_ret;exact⟨-1,rfl,by rw[HT.out];rfl,hb⟩
theorem has_mv (q:FuncId) (caps:Array Value) (hq:∀(args:Array Value) (W:World),(callFunc q args).run Tryz.prog W=.ok (.enter q args) W) {w:World} {s:Sl} {l:List MvM} (f:MvM->Bool) (h:MovesV w s l)
 (hF:Hid (∀(t:MvM) (W:World),t∈l->Below w.heap.size w W->Calls Tryz.prog q (#[t.val] ++ caps) W fun e w'=>e=.returned (.bool (f t))∧Below W.heap.size W w')) :
 Calls Tryz.prog 88 #[.slice s.A s.n s.c,.func (.func q) #[] caps] w fun e w'=>e=.returned (.bool (l.any f))∧Below w.heap.size w w':=by
 have K:=iH (ix_mv q caps hq f h hF);clear hF h hq;go_enter Tryz.func88,Tryz.ntmps88;go_wp2_with fail;refine K.out.mono ?_;rintro e w1 ⟨i,rfl,hi,hb⟩;clear K;go_wp2;go_ret;exact⟨by rw[<- hi];rfl,hb⟩
end
theorem hmfN:∀(fn:Fn) (first cap:Array Value) (w:World),(Instr.makeFunc fn first cap).run Tryz.prog w=.ok (.func fn first cap) w:=fun _ _ _ _=>rfl
theorem enter_of {f : FuncId} {fn : Func} {c : Code} (hf : Tryz.prog.funcs[f]? = some fn) (hname : (fn.name == "runtime.NumGoroutine") = false) (hb : fn.body = some c) : ∀ (args : Array Value) (W : World), (callFunc f args).run Tryz.prog W = .ok (.enter f args) W := fun args W => by
 have h1 : fn.name ≠ "runtime.NumGoroutine" := by simpa using hname
 simp[callFunc,hf,h1,hb,mark]
def TestOk (f:Nat) (g:Int->Int->MvM->Bool):Prop :=
 (∀(args:Array Value) (W:World),(callFunc f args).run Tryz.prog W=.ok (.enter f args) W) ∧
 ∀(op:ByteArray) (a b:Int) (A:Option Addr) (n c:Nat) (v:MvM) (W:World),Calls Tryz.prog f #[.agg #[.string op,.int .i64 a,.int .i64 b,.slice A n c],v.val] W fun e w'=>e=.returned (.bool (g a b v))∧Below W.heap.size W w'
theorem enters89:∀(args:Array Value) (W:World),(callFunc 89 args).run Tryz.prog W=.ok (.enter 89 args) W:=enter_of Tryz.func89 (by kernel_rfl) rfl
theorem enters107:∀(args:Array Value) (W:World),(callFunc 107 args).run Tryz.prog W=.ok (.enter 107 args) W:=enter_of Tryz.func107 (by kernel_rfl) rfl
theorem enters109:∀(args:Array Value) (W:World),(callFunc 109 args).run Tryz.prog W=.ok (.enter 109 args) W:=enter_of Tryz.func109 (by kernel_rfl) rfl
theorem test99:TestOk 99 (fun a _ v=>v.item == a):=⟨enter_of Tryz.func99 (by kernel_rfl) rfl,t_item⟩
theorem test101:TestOk 101 (fun a b v=>v.item == b && decide (a<v.n)):=⟨enter_of Tryz.func101 (by kernel_rfl) rfl,t_more⟩
theorem test105:TestOk 105 (fun a _ v=>v.from_ == a || v.to_ == a):=⟨enter_of Tryz.func105 (by kernel_rfl) rfl,t_account⟩
theorem some89 {f:Nat} {g:Int->Int->MvM->Bool} (hT:TestOk f g) {W:World} {tb mb:Nat} (op:ByteArray) (a b:Int) (A:Option Addr) (n c:Nat) (v:MvM) (hf:FnAt W tb f) (hm:Bk W mb 49 [.string op,.int .i64 a,.int .i64 b,.slice A n c]) :
 Calls Tryz.prog 89 (#[v.val] ++ #[.pointer (some ⟨tb,0,none⟩),.pointer (some ⟨mb,0,none⟩)]) W fun e w'=>e=.returned (.bool (g a b v))∧Below W.heap.size W w':=by
 have y:Below W.heap.size W (W.alloc (.cells #[.int .i64 v.from_,.int .i64 v.to_,.int .i64 v.item,.int .i64 v.n,.slice v.sp.A v.sp.n v.sp.c] 125)):=(Below.refl _ _).alloc (Nat.le_refl _) _;have hq:=hT.1;have K:=iH (hT.2 op a b A n c v (W.alloc (.cells #[.int .i64 v.from_,.int .i64 v.to_,.int .i64 v.item,.int .i64 v.n,.slice v.sp.A v.sp.n v.sp.c] 125)));have c1:=hf.2;have l1:=hf.1;have⟨m0,m1,m2,m3,ml⟩:=hm.p4;clear hT hf hm;show Calls Tryz.prog 89 #[v.val,.pointer (some ⟨tb,0,none⟩),.pointer (some ⟨mb,0,none⟩)] W _;go_enter Tryz.func89,Tryz.ntmps89;go_wp2_with fail;refine K.out.mono ?_;rintro e w1 ⟨rfl,hb⟩;have hb2:=y.trans (hb.mono (by simp));clear K;go_wp2;go_ret;exact⟨rfl,hb2⟩
theorem some87 {f:Nat} {g:Int->Int->MvM->Bool} (hT:TestOk f g) {W:World} {tb:Nat} (op:ByteArray) (a b:Int) (A:Option Addr) (n c:Nat) (s:StepM) (hf:FnAt W tb f) (hs:s.Ok W) :
 Calls Tryz.prog 87 #[.agg #[.string op,.int .i64 a,.int .i64 b,.slice A n c],s.val,.pointer (some ⟨tb,0,none⟩)] W fun e w'=>e=.returned (.bool (s.moves.any (g a b)))∧Below W.heap.size W w':=by
 have hmf:=hmfN;have y:Below W.heap.size W ((W.alloc (.cells #[.string op,.int .i64 a,.int .i64 b,.slice A n c] 49)).alloc (.cells #[.int .i64 s.id,.int .i64 s.kind,.int .i64 s.actor,.int .i64 s.tick,.int .i64 s.rule,.int .i64 s.times,.slice s.sm.A s.sm.n s.sm.c] 59)):=((Below.refl _ _).alloc (Nat.le_refl _) _).alloc (by simp) _;have k:=(Bk.new W 49 [.string op,.int .i64 a,.int .i64 b,.slice A n c]).alloc (.cells #[.int .i64 s.id,.int .i64 s.kind,.int .i64 s.actor,.int .i64 s.tick,.int .i64 s.rule,.int .i64 s.times,.slice s.sm.A s.sm.n s.sm.c] 59);have K:=iH (has_mv 89 #[.pointer (some ⟨tb,0,none⟩),.pointer (some ⟨W.heap.size,0,none⟩)] enters89 (g a b) (hs.below y).moves (iH fun v W' _ hW'=>some89 hT op a b A n c v ((hf.below y).below hW') (k.below hW' k.lt)));clear hT hf hs k;go_enter Tryz.func87,Tryz.ntmps87;go_wp2_with fail;refine K.out.mono ?_;rintro e w1 ⟨rfl,hb⟩;have hb2:=y.trans (hb.mono (by simp;omega));clear K;go_wp2;go_ret;exact⟨rfl,hb2⟩
def condV (s:StepM) (op:ByteArray) (a b:Int):Bool :=
 if op=sKind then s.kind == a else if op=sActor then s.actor == a else if op=sRule then s.rule == a || s.rule == wrap64 (-2-a)
 else if op=sTick then decide (a<=s.tick) && decide (s.tick<=b) else if op=sItem then s.moves.any (fun v=>v.item == a)
 else if op=sMore then s.moves.any (fun v=>v.item == b && decide (a<v.n)) else if op=sStep then decide (a<=s.id) && decide (s.id<=b)
 else if op=sAccount then s.moves.any (fun v=>v.from_ == a || v.to_ == a) else false
theorem kid_any {W:World} {bk bs bm:Nat} (t:MkM) (s:StepM) (b:Bool) (hk:Bk W bk 121 [.map (some bm)]) (hs:Bk W bs 59 s.cells) (hC:Hid (∀W',Below W.heap.size W W'->Calls Tryz.prog 60 #[.map (some bm),t.val,s.val] W' fun e w'=>e=.returned (.bool b)∧Below W'.heap.size W' w')) :
 Calls Tryz.prog 107 (#[t.val] ++ #[.pointer (some ⟨bk,0,none⟩),.pointer (some ⟨bs,0,none⟩)]) W fun e w'=>e=.returned (.bool b)∧Below W.heap.size W w':=by
 have y:Below W.heap.size W (W.alloc (.cells #[.string t.op,.int .i64 t.a,.int .i64 t.b,.slice t.s.A t.s.n t.s.c] 49)):=(Below.refl _ _).alloc (Nat.le_refl _) _;have K:=iH (hC.out _ y);have k0:=hk.k0;have kl:=hk.lt;have⟨c0,c1,c2,c3,c4,c5,c6,cl⟩:=hs.p7;clear hk hs hC;show Calls Tryz.prog 107 #[t.val,.pointer (some ⟨bk,0,none⟩),.pointer (some ⟨bs,0,none⟩)] W _;go_enter Tryz.func107,Tryz.ntmps107;go_wp2_with fail;refine K.out.mono ?_;rintro e w1 ⟨rfl,hb⟩;have hb2:=y.trans (hb.mono (by simp));clear K;go_wp2;go_ret;exact⟨rfl,hb2⟩
theorem nkid_any {W:World} {b7 bk bs:Nat} (t:MkM) (b:Bool) (h7:W.cell? ⟨b7,0,none⟩=some (.func (.func 107) #[] #[.pointer (some ⟨bk,0,none⟩),.pointer (some ⟨bs,0,none⟩)])) (hl:b7<W.heap.size)
 (hC:Hid (∀W',Below W.heap.size W W'->Calls Tryz.prog 107 (#[t.val] ++ #[.pointer (some ⟨bk,0,none⟩),.pointer (some ⟨bs,0,none⟩)]) W' fun e w'=>e=.returned (.bool b)∧Below W'.heap.size W' w')) :
 Calls Tryz.prog 109 (#[t.val] ++ #[.pointer (some ⟨b7,0,none⟩)]) W fun e w'=>e=.returned (.bool (!b))∧Below W.heap.size W w':=by
 have hq:=enters107;have y:Below W.heap.size W (W.alloc (.cells #[.string t.op,.int .i64 t.a,.int .i64 t.b,.slice t.s.A t.s.n t.s.c] 49)):=(Below.refl _ _).alloc (Nat.le_refl _) _;have K:=iH (hC.out _ y);clear hC;show Calls Tryz.prog 109 #[t.val,.pointer (some ⟨b7,0,none⟩)] W _;go_enter Tryz.func109,Tryz.ntmps109;go_wp2_with fail;refine K.out.mono ?_;rintro e w1 ⟨rfl,hb⟩;have hb2:=y.trans (hb.mono (by simp));clear K;go_wp2;go_ret;exact⟨rfl,hb2⟩
end Go.Proofs.YtocodlpgaamblaaGreatDoor
