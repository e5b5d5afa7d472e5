/- The reference lexer's Tokens on any text; what a name is to both lexers. What a name is to both lexers: catalog.fits and the reference's Word on any text. -/
import Derived.Test.YthjfdfdgbpbanaaGreatDoorX4
import Derived.Laws.StructEq
set_option linter.unusedVariables false
set_option linter.unusedSimpArgs false
set_option maxRecDepth 100000
set_option maxHeartbeats 2000000
open Go.RowKit
namespace Go.Proofs.YthjfdfdgbpbanaaGreatDoor
theorem rtokens_any (s:ByteArray) (hs:s.size<=8192) (w:World):Calls Tryz.prog 113 #[.string s] w (RTokPost w (toks s)):=by
 obtain⟨i0,hi,hz0,hz1,hz2⟩:=info_parts info176;have HK:Hid (∀j,(hj:j<s.size)->∀W,Calls Tryz.prog 163 #[.int .u8 (s[j].toNat:Int)] W fun e w'=>e=.returned (.int .i64 (clsK (kindAt s j)))∧W=w'):=fun j hj W=>by
  have:=class_any s[j].toNat W s[j].toNat_lt
  rwa [cls_kind hj]at this
 have hq:toks s=toksFrom s (skipS s 0):=rfl;have h0:=skipS_bd s 0 (Nat.zero_le _);have HQ:=iH hq;clear hq;go_enter Tryz.func113,Tryz.ntmps113;go_wp2_with fail;refine(rskip_any s 0 _ (Nat.zero_le _) (by omega)).mono ?_;rintro e w' ⟨rfl,rfl⟩;generalize skipS s 0=k0 at *;generalize toks s=T at *;go_wp2_with fail;go_loopw [5,6] (fun v i wr=>∃(k:Nat) (pre:List Tok),k<=s.size∧i=.int .i64 k∧pre ++ toksFrom s k=T∧(∀t∈pre,t.err=0)∧pre.length<=k∧wr.ownsRow w.heap.size 176 4 v pre.length (kcells pre)∧Below w.heap.size w wr) (fun _ i _=>s.size-(intOf i).toNat)
 case atStart=>exact⟨k0,[],h0.2,rfl,HQ.out.symm,(fun t ht=>by cases ht),Nat.zero_le _,World.ownsRow_nil _ _ _ _,Below.refl _ _⟩
 case round =>
  obtain⟨k,pre,hk,rfl,hT,hpe,hpl,hown,hb⟩:=hrel;have HT:=iH hT;have HP:=iH hpe;have HO:=iH hown;have HB:=iH hb;have hsz:=hb.size;clear hT hpe hown hb;by_cases hlt:k<s.size
  ·have HC:=iH (fun W=>HK.out k hlt W);have HE:=iH (fun W=>rend_any s k W hlt (by omega));have hle:=endS_le hlt;obtain⟨kb0,kb7⟩:=kindAt_bd s k;obtain⟨_,z1,z2,_⟩:=clsK_cases kb0 kb7;have Herr:Hid ((nextT s k).err≠0->∀e,e=(nextT s k).err->∀W,Below w.heap.size w W->(nextT s k).at_=(k:Int)->RTokPost w T (.returned (.tuple #[.slice none 0 0,.int .i64 k,.int .i64 e])) W):=fun he e ee W hW ha=>by
    subst ee;right;refine⟨pre,nextT s k,?_,HP.out,he,?_,hW⟩
    ·rw[<- HT.out,toksFrom_err hlt he];exact List.prefix_refl _
    ·rw[ha]
   have Hgo:Hid ((nextT s k).err=0->(pre ++ [nextT s k]) ++ toksFrom s (skipS s (k+(nextT s k).text.size))=T):=fun he=>by
    rw[<- HT.out,toksFrom_go hlt he];simp
   rcases endS_next hlt with ⟨e1,e2,e3,n3,n4⟩|⟨e1,e2,e3,n3,n4⟩|⟨n3,e2,e3⟩|⟨n4,e2,e3⟩
   ·have HF:=iH (Herr.out (by omega) 2 e2.symm);rw[e1]at HE;clear e1 e2 z1 z2 n3 n4;have q:((k:Int) == (k:Int))=true:=by simp
    go_wp2_with fail;refine(HE.out _).mono ?_;rintro e w' ⟨rfl,rfl⟩;go_wp2_with fail
    go_ret3
    exact HF.out _ HB.out e3
   ·have q1:(clsK (kindAt s k) == 1)=false:=by simp only[beq_eq_false_iff_ne,ne_eq];exact fun e=>n3 (z1.1 e)
    have q2:(clsK (kindAt s k) == 2)=false:=by simp only[beq_eq_false_iff_ne,ne_eq];exact fun e=>n4 (z2.1 e)
    have HN:=iH (Hgo.out (by rw[e3]));rw[<- e1]at HN;have HE3:=iH e3;clear e1 e3 z1 z2 n3 n4 Herr Hgo;generalize endS s k=E at *;generalize clsK (kindAt s k)=cl at *;have q:((E:Int) == (k:Int))=false:=by simp;omega
    have HPn:Hid (∀t∈pre ++ [nextT s k],t.err=0):=fun t ht=>by
     simp only[List.mem_append,List.mem_singleton]at ht;rcases ht with ht|rfl
     ·exact HP.out t ht
     ·rw[HE3.out]
    have hsk:=skipS_bd s E hle;go_wp2_with fail;refine(HE.out _).mono ?_;rintro e w' ⟨rfl,rfl⟩;go_wp2_with fail;refine(HC.out _).mono ?_;rintro e w' ⟨rfl,rfl⟩;go_wp2_with fail;refine(HC.out _).mono ?_;rintro e w' ⟨rfl,rfl⟩;go_wp2_with(at_builtin;refine wpList_append_own_at _ rfl _ _ 172 rfl w.heap.size 176 i0 (.agg #[.int .i64 0,.string ⟨#[]⟩,.int .i64 0,.int .i64 0]) 4 40 Tryz.underlying172 hi hz0 hz1 hz2 rfl (by decide) _ pre.length (kcells pre) rfl ((HO.out.alloc _).alloc _) ⟨wr.heap.size+1,0,none⟩ 1 1 [.int .i64 2,.string (s.extract k E),.int .i64 0,.int .i64 k] rfl rfl ?a1 (oneTok _ _ _ _) ?a3 ?a4 ?a5 ?_)
    case a1=>simpa using new4 (wr.alloc (.cells #[.int .i64 2,.string (s.extract k E),.int .i64 0,.int .i64 k] 176)) 176 (.int .i64 2) (.string (s.extract k E)) (.int .i64 0) (.int .i64 k)
    case a3=>unfold maxLen;omega
    case a4=>omega
    case a5=>simp;omega
    intro v' w1 hown' hgrow _ _;have hb1:Below w.heap.size w w1:=((HB.out.alloc hsz _).alloc (by simp;omega) _).grown hgrow (by simp;omega) (row_base HO.out);have HO1:=iH hown';clear hown' hgrow;go_wp2_with fail;refine(rskip_any s E _ hle (by omega)).mono ?_;rintro e w' ⟨rfl,rfl⟩;go_wp2_with fail;go_roundw
    case rel=>exact⟨skipS s E,pre ++ [nextT s k],hsk.2,rfl,HN.out,HPn.out,by simp;omega,by rw[HE3.out,kcells_snoc];simpa[Tok.cells]using HO1.out,hb1⟩
    case measure=>simp[intOf];omega
   ·have q1:(clsK (kindAt s k) == 1)=true:=by simpa using z1.2 n3
    have q2:(clsK (kindAt s k) == 2)=false:=by simp only[beq_eq_false_iff_ne,ne_eq];exact fun e=>by have:=z2.1 e;omega
    have hxs:(s.extract k (endS s k)).size=endS s k-k:=by rw[ByteArray.size_extract];omega
    by_cases hbig:16<endS s k-k
    ·rw[if_pos hbig]at e3;have HF:=iH (Herr.out (by omega) 4 e3.1.symm);have e32:=e3.2;clear e3 z1 z2 n3 Herr Hgo;generalize endS s k=E at *;generalize clsK (kindAt s k)=cl at *;have q:((E:Int) == (k:Int))=false:=by simp;omega
     have ql:16<(s.extract k E).size:=by omega
     have ql2:(16:Int)<((s.extract k E).size:Int):=by omega
     have HBa:Hid (Below w.heap.size w (wr.alloc (.cells #[.int .i64 0,.string (s.extract k E),.int .i64 0,.int .i64 k] 176))):=HB.out.alloc hsz _;clear hxs;go_wp2_with fail;refine(HE.out _).mono ?_;rintro e w' ⟨rfl,rfl⟩;go_wp2_with fail;refine(HC.out _).mono ?_;rintro e w' ⟨rfl,rfl⟩;go_wp2_with fail;refine(HC.out _).mono ?_;rintro e w' ⟨rfl,rfl⟩;go_wp2_with fail
     go_ret3
     exact HF.out _ HBa.out e32
    ·rw[if_neg hbig]at e3;have HN:=iH (Hgo.out (by rw[e3.1]));rw[<- e3.2]at HN;have HE3:=iH e3.1;clear e3 z1 z2 n3 Herr Hgo;generalize endS s k=E at *;generalize clsK (kindAt s k)=cl at *;have q:((E:Int) == (k:Int))=false:=by simp;omega
     have ql:¬ 16<(s.extract k E).size:=by omega
     have ql2:¬ (16:Int)<((s.extract k E).size:Int):=by omega
     have ql3:decide (16<(s.extract k E).size)=false:=decide_eq_false ql;have ql4:decide ((16:Int)<((s.extract k E).size:Int))=false:=decide_eq_false ql2;clear hxs;have HPn:Hid (∀t∈pre ++ [nextT s k],t.err=0):=fun t ht=>by
      simp only[List.mem_append,List.mem_singleton]at ht;rcases ht with ht|rfl
      ·exact HP.out t ht
      ·rw[HE3.out]
     have hsk:=skipS_bd s E hle;go_wp2_with fail;refine(HE.out _).mono ?_;rintro e w' ⟨rfl,rfl⟩;go_wp2_with fail;refine(HC.out _).mono ?_;rintro e w' ⟨rfl,rfl⟩;go_wp2_with fail;refine(HC.out _).mono ?_;rintro e w' ⟨rfl,rfl⟩;go_wp2_with(at_builtin;refine wpList_append_own_at _ rfl _ _ 172 rfl w.heap.size 176 i0 (.agg #[.int .i64 0,.string ⟨#[]⟩,.int .i64 0,.int .i64 0]) 4 40 Tryz.underlying172 hi hz0 hz1 hz2 rfl (by decide) _ pre.length (kcells pre) rfl ((HO.out.alloc _).alloc _) ⟨wr.heap.size+1,0,none⟩ 1 1 [.int .i64 0,.string (s.extract k E),.int .i64 0,.int .i64 k] rfl rfl ?b1 (oneTok _ _ _ _) ?b3 ?b4 ?b5 ?_)
     case b1=>simpa using new4 (wr.alloc (.cells #[.int .i64 0,.string (s.extract k E),.int .i64 0,.int .i64 k] 176)) 176 (.int .i64 0) (.string (s.extract k E)) (.int .i64 0) (.int .i64 k)
     case b3=>unfold maxLen;omega
     case b4=>omega
     case b5=>simp;omega
     intro v' w1 hown' hgrow _ _;have hb1:Below w.heap.size w w1:=((HB.out.alloc hsz _).alloc (by simp;omega) _).grown hgrow (by simp;omega) (row_base HO.out);have HO1:=iH hown';clear hown' hgrow;go_wp2_with fail;refine(rskip_any s E _ hle (by omega)).mono ?_;rintro e w' ⟨rfl,rfl⟩;go_wp2_with fail;go_roundw
     case rel=>exact⟨skipS s E,pre ++ [nextT s k],hsk.2,rfl,HN.out,HPn.out,by simp;omega,by rw[HE3.out,kcells_snoc];simpa[Tok.cells]using HO1.out,hb1⟩
     case measure=>simp[intOf];omega
   ·have q1:(clsK (kindAt s k) == 1)=false:=by simp only[beq_eq_false_iff_ne,ne_eq];exact fun e=>by have:=z1.1 e;omega
    have q2:(clsK (kindAt s k) == 2)=true:=by simpa using z2.2 n4
    have hxs:(s.extract k (endS s k)).size=endS s k-k:=by rw[ByteArray.size_extract];omega
    have hdd:=endS_dig n4;have hD:Digits (s.extract k (endS s k)):=fun i hi=>by
     rw[hxs]at hi;obtain⟨hj,d0,d1⟩:=kind_dig (hdd i hi);have h1:i<(s.extract k (endS s k)).size:=by omega
     have:byteAt (s.extract k (endS s k)) i=(s[k+i].toNat:Int):=by
      simp only[byteAt,h1,dif_pos];rw[ByteArray.getElem_extract]
     rw[this];omega
    have HV:=iH (fun W=>value_any (s.extract k (endS s k)) W (by omega) hD);rw[hxs]at HV;have hvn:=valT_numE hle (by omega) hdd (endS s k-k) (Nat.le_refl _);by_cases hbig:1099511627776<numE s k (endS s k-k)
    ·rw[if_pos hbig]at e3;have hv:valT (s.extract k (endS s k)) (endS s k-k)=1099511627777:=by
      rcases hvn with ⟨h1,_⟩|⟨_,h2⟩
      ·omega
      ·exact h2
     rw[hv]at HV;have HF:=iH (Herr.out (by omega) 4 e3.1.symm);have e32:=e3.2;clear e3 z1 z2 n4 Herr Hgo hvn hv hbig hD hdd;generalize endS s k=E at *;generalize clsK (kindAt s k)=cl at *;have q:((E:Int) == (k:Int))=false:=by simp;omega
     have HBa:Hid (Below w.heap.size w (wr.alloc (.cells #[.int .i64 1,.string (s.extract k E),.int .i64 1099511627777,.int .i64 k] 176))):=HB.out.alloc hsz _;clear hxs;go_wp2_with fail;refine(HE.out _).mono ?_;rintro e w' ⟨rfl,rfl⟩;go_wp2_with fail;refine(HC.out _).mono ?_;rintro e w' ⟨rfl,rfl⟩;go_wp2_with fail;refine(HC.out _).mono ?_;rintro e w' ⟨rfl,rfl⟩;go_wp2_with fail;refine(HV.out _).mono ?_;rintro e w' ⟨rfl,rfl⟩;go_wp2_with fail
     go_ret3
     exact HF.out _ HBa.out e32
    ·rw[if_neg hbig]at e3;have hv:valT (s.extract k (endS s k)) (endS s k-k)=numE s k (endS s k-k):=by
      rcases hvn with ⟨_,h1⟩|⟨h2,_⟩
      ·exact h1
      ·omega
     have hn0:=numE_nonneg hdd (endS s k-k) (Nat.le_refl _);rw[hv]at HV;have HN:=iH (Hgo.out (by rw[e3.1]));rw[<- e3.2]at HN;have HE3:=iH e3.1;clear e3 z1 z2 n4 Herr Hgo hvn hv hD hdd;generalize endS s k=E at *;generalize clsK (kindAt s k)=cl at *;generalize numE s k (E-k)=NN at *;have q:((E:Int) == (k:Int))=false:=by simp;omega
     have ql4:decide ((1099511627776:Int)<NN)=false:=decide_eq_false hbig;clear hxs;have HPn:Hid (∀t∈pre ++ [nextT s k],t.err=0):=fun t ht=>by
      simp only[List.mem_append,List.mem_singleton]at ht;rcases ht with ht|rfl
      ·exact HP.out t ht
      ·rw[HE3.out]
     have hsk:=skipS_bd s E hle;go_wp2_with fail;refine(HE.out _).mono ?_;rintro e w' ⟨rfl,rfl⟩;go_wp2_with fail;refine(HC.out _).mono ?_;rintro e w' ⟨rfl,rfl⟩;go_wp2_with fail;refine(HC.out _).mono ?_;rintro e w' ⟨rfl,rfl⟩;go_wp2_with fail;refine(HV.out _).mono ?_;rintro e w' ⟨rfl,rfl⟩;go_wp2_with(at_builtin;refine wpList_append_own_at _ rfl _ _ 172 rfl w.heap.size 176 i0 (.agg #[.int .i64 0,.string ⟨#[]⟩,.int .i64 0,.int .i64 0]) 4 40 Tryz.underlying172 hi hz0 hz1 hz2 rfl (by decide) _ pre.length (kcells pre) rfl ((HO.out.alloc _).alloc _) ⟨wr.heap.size+1,0,none⟩ 1 1 [.int .i64 1,.string (s.extract k E),.int .i64 NN,.int .i64 k] rfl rfl ?c1 (oneTok _ _ _ _) ?c3 ?c4 ?c5 ?_)
     case c1=>simpa using new4 (wr.alloc (.cells #[.int .i64 1,.string (s.extract k E),.int .i64 NN,.int .i64 k] 176)) 176 (.int .i64 1) (.string (s.extract k E)) (.int .i64 NN) (.int .i64 k)
     case c3=>unfold maxLen;omega
     case c4=>omega
     case c5=>simp;omega
     intro v' w1 hown' hgrow _ _;have hb1:Below w.heap.size w w1:=((HB.out.alloc hsz _).alloc (by simp;omega) _).grown hgrow (by simp;omega) (row_base HO.out);have HO1:=iH hown';clear hown' hgrow;go_wp2_with fail;refine(rskip_any s E _ hle (by omega)).mono ?_;rintro e w' ⟨rfl,rfl⟩;go_wp2_with fail;go_roundw
     case rel=>exact⟨skipS s E,pre ++ [nextT s k],hsk.2,rfl,HN.out,HPn.out,by simp;omega,by rw[HE3.out,kcells_snoc];simpa[Tok.cells]using HO1.out,hb1⟩
     case measure=>simp[intOf];omega
  ·have hte:toksFrom s k=[]:=toksFrom_end (by omega);have hpT:pre=T:=by have:=HT.out;rw[hte]at this;simpa using this
   subst hpT;have HF:Hid (∀W,W=wr->RTokPost w pre (.returned (.tuple #[u5,.int .i64 0,.int .i64 0])) W):=fun W e=>by
    subst e;exact .inl ⟨HP.out,_,rfl,HO.out,HB.out⟩
   go_wp2_with fail
   go_ret3
   exact HF.out _ rfl
theorem bytes_eq {s t:ByteArray} (h:s.data.toList=t.data.toList):s=t:=by
 cases s;cases t;simp only[ByteArray.mk.injEq];exact Array.toList_inj.1 h
def fitG (s:ByteArray):Bool:=match toks s with
 | [t]=>decide (t.err=0) && decide (t.kind=0) && decide (t.text=s)
 | _=>false
theorem toks_last {s:ByteArray} {p:Nat}:∀ {init:List Tok} {last:Tok},init ++ [last] <+: toksFrom s p->last.err≠0->(∀t∈init,t.err=0)->init ++ [last]=toksFrom s p:=by
 induction hm:s.size-p using Nat.strongRecOn generalizing p with
 | _ m ih =>
   intro init last hp hl hi;by_cases h:p<s.size
   ·by_cases he:(nextT s p).err=0
    ·rw[toksFrom_go h he]at hp⊢;obtain⟨h1,h2⟩:=nextT_size h;have h3:=skipS_bd s (p+(nextT s p).text.size) h1;have h4:=h2 he;cases init with
     | nil =>
       have:=hp;simp only[List.nil_append]at this;obtain⟨t,ht⟩:=this;simp only[List.singleton_append,List.cons.injEq]at ht;rw[ht.1]at hl;exact absurd he hl
     | cons a init =>
       obtain⟨t,ht⟩:=hp;simp only[List.cons_append,List.cons.injEq]at ht;obtain⟨rfl,ht⟩:=ht;have:=ih (s.size-skipS s (p+(nextT s p).text.size)) (by omega) (p:=skipS s (p+(nextT s p).text.size)) rfl (init:=init) (last:=last) ⟨t,ht⟩ hl (fun t ht=>hi t (by simp[ht]));rw[List.cons_append,this]
    ·rw[toksFrom_err h he]at hp⊢;have:=hp.length_le;simp at this;subst this;obtain⟨t,ht⟩:=hp;simp at ht;rw[ht.1];rfl
   ·rw[toksFrom_end (by omega)]at hp;have:=hp.length_le;simp at this
theorem fitG_err {s:ByteArray} {init:List Tok} {last:Tok} (hp:init ++ [last] <+: toks s) (hl:last.err≠0) (hi:∀t∈init,t.err=0):fitG s=false:=by
 have h:=toks_last hp hl hi;unfold fitG;unfold toks;rw[<- h];cases init with
 | nil=>simp[hl]
 | cons a init=>cases init <;> rfl
theorem fits_any (s:ByteArray) (hs:s.size<=8192) (w:World) (hT:Tab w) :
 Calls Tryz.prog 126 #[.string s] w fun e w'=>e=.returned (.bool (fitG s))∧Below w.heap.size w w':=by
 have Ht:=iH (tokens_all s hs w hT);have hG:fitG s=match toks s with | [t]=>decide (t.err=0) && decide (t.kind=0) && decide (t.text=s) | _=>false:=rfl
 have HE:=iH (fun init last=>fitG_err (s:=s) (init:=init) (last:=last));generalize fitG s=G at *;generalize toks s=T at *;have HG:=iH hG;clear hG hT;go_enter Tryz.func126,Tryz.ntmps126;go_wp2_with fail;refine Ht.out.mono ?_;rintro e w' (⟨he,v,rfl,hown,hB⟩|⟨init,last,hp,hi,hl,rfl,hB⟩)
 ·clear Ht HE
  match T,HG,he,hown with
  | [], HG, he, hown =>
    obtain⟨A,c,rfl,hr,-,-⟩:=row_form hown;have Hf:Hid (G=false):=HG;clear HG he hown hr;go_wp2;go_ret;exact⟨by rw[Hf.out];rfl,hB⟩
  | [t], HG, he, hown =>
    have het:=he t (List.mem_singleton.2 rfl);obtain⟨g,c,rfl⟩:∃g c,v=.slice (some ⟨g,0,none⟩) 1 c:=by
     rcases hown.2 with ⟨_,h0⟩|⟨g,cap,cur,rfl,_⟩
     ·simp at h0
     ·exact⟨_,_,rfl⟩
    have c0:=hown.cellAt 0 (by decide);have c1:=hown.cellAt 1 (by decide);obtain⟨tk,tt,tn,ta,te⟩:=t;simp[kcells,Tok.cells]at c0 c1;have hg:=HG.out;simp only at hg het;subst het;by_cases hk:tk=0
    ·subst hk;by_cases htt:tt=s
     ·have Hf:Hid (G=true):=by show G=true;rw[hg];simp[htt]
      subst htt;clear HG he hown hg;go_wp2;go_ret;exact⟨by rw[Hf.out];rfl,hB⟩
     ·have Hf:Hid (G=false):=by show G=false;rw[hg];simp[htt]
      have q2:(tt.toList == s.toList)=false:=by
       simp only[beq_eq_false_iff_ne,ne_eq,ByteArray.toList_eq];exact fun e=>htt (bytes_eq e)
      have q1:(tt == s)=false:=by rw[beq_toListBytes];exact q2
      clear HG he hown hg htt;go_wp2;go_ret;exact⟨by rw[Hf.out];rfl,hB⟩
    ·have Hf:Hid (G=false):=by show G=false;rw[hg];simp[hk]
     have q1:(tk == 0)=false:=by simpa using hk
     clear HG he hown hg;go_wp2;go_ret;exact⟨by rw[Hf.out];rfl,hB⟩
  | a :: b :: l, HG, he, hown =>
    obtain⟨A,c,rfl,hr,-,-⟩:=row_form hown;have Hf:Hid (G=false):=HG;have q:(((a :: b :: l).length:Int) == 1)=false:=by simp;omega
    have q2:((a :: b :: l).length == 1)=false:=by simp
    clear HG he hown hr;generalize(a :: b :: l).length=n at *;go_wp2;go_ret;exact⟨by rw[Hf.out];rfl,hB⟩
 ·have Hf:=iH (HE.out init last hp hl hi);have hl2:(last.err == 0)=false:=by simpa using hl
  clear hl hp hi Ht HE HG;go_wp2;go_ret;exact⟨by rw[Hf.out];rfl,hB⟩
theorem Word_any (s:ByteArray) (hs:s.size<=8192) (w:World) :
 Calls Tryz.prog 88 #[.string s] w fun e w'=>e=.returned (.bool (fitG s))∧Below w.heap.size w w':=by
 have Ht:=iH (rtokens_any s hs w);have hG:fitG s=match toks s with | [t]=>decide (t.err=0) && decide (t.kind=0) && decide (t.text=s) | _=>false:=rfl
 have HE:=iH (fun init last=>fitG_err (s:=s) (init:=init) (last:=last));generalize fitG s=G at *;generalize toks s=T at *;have HG:=iH hG;clear hG;go_enter Tryz.func88,Tryz.ntmps88;go_wp2_with fail;refine Ht.out.mono ?_;rintro e w' (⟨he,v,rfl,hown,hB⟩|⟨init,last,hp,hi,hl,rfl,hB⟩)
 ·clear Ht HE
  match T,HG,he,hown with
  | [], HG, he, hown =>
    obtain⟨A,c,rfl,hr,-,-⟩:=row_form hown;have Hf:Hid (G=false):=HG;clear HG he hown hr;go_wp2;go_ret;exact⟨by rw[Hf.out];rfl,hB⟩
  | [t], HG, he, hown =>
    have het:=he t (List.mem_singleton.2 rfl);obtain⟨g,c,rfl⟩:∃g c,v=.slice (some ⟨g,0,none⟩) 1 c:=by
     rcases hown.2 with ⟨_,h0⟩|⟨g,cap,cur,rfl,_⟩
     ·simp at h0
     ·exact⟨_,_,rfl⟩
    have c0:=hown.cellAt 0 (by decide);have c1:=hown.cellAt 1 (by decide);obtain⟨tk,tt,tn,ta,te⟩:=t;simp[kcells,Tok.cells]at c0 c1;have hg:=HG.out;simp only at hg het;subst het;by_cases hk:tk=0
    ·subst hk;by_cases htt:tt=s
     ·have Hf:Hid (G=true):=by show G=true;rw[hg];simp[htt]
      subst htt;clear HG he hown hg;go_wp2;go_ret;exact⟨by rw[Hf.out];rfl,hB⟩
     ·have Hf:Hid (G=false):=by show G=false;rw[hg];simp[htt]
      have q2:(tt.toList == s.toList)=false:=by
       simp only[beq_eq_false_iff_ne,ne_eq,ByteArray.toList_eq];exact fun e=>htt (bytes_eq e)
      have q1:(tt == s)=false:=by rw[beq_toListBytes];exact q2
      clear HG he hown hg htt;go_wp2;go_ret;exact⟨by rw[Hf.out];rfl,hB⟩
    ·have Hf:Hid (G=false):=by show G=false;rw[hg];simp[hk]
     have q1:(tk == 0)=false:=by simpa using hk
     clear HG he hown hg;go_wp2;go_ret;exact⟨by rw[Hf.out];rfl,hB⟩
  | a :: b :: l, HG, he, hown =>
    obtain⟨A,c,rfl,hr,-,-⟩:=row_form hown;have Hf:Hid (G=false):=HG;have q:(((a :: b :: l).length:Int) == 1)=false:=by simp;omega
    have q2:((a :: b :: l).length == 1)=false:=by simp
    clear HG he hown hr;generalize(a :: b :: l).length=n at *;go_wp2;go_ret;exact⟨by rw[Hf.out];rfl,hB⟩
 ·have Hf:=iH (HE.out init last hp hl hi);have hl2:(last.err == 0)=false:=by simpa using hl
  clear hl hp hi Ht HE HG;go_wp2;go_ret;exact⟨by rw[Hf.out];rfl,hB⟩
end Go.Proofs.YthjfdfdgbpbanaaGreatDoor
