/- The reference lexer: value and Tokens; both lexers give the same tokens. The reference lexer's Tokens on any text; what a name is to both lexers. What a name is to both lexers: catalog.fits and the reference's Word on any text. -/
import Derived.Test.YthjfdfdgbpbanaaGreatDoorM1x3
import Derived.Laws.StructEq
set_option linter.unusedVariables false
set_option linter.unusedSimpArgs false
open Go.RowKit
namespace Go.Proofs.YthjfdfdgbpbanaaGreatDoor
/-- The value of the first k digits of a text; at most one more than the limit. -/
def valT (t:ByteArray):Nat→Int
 | 0=>0
 | k+1=>min (10*valT t k+(byteAt t k-48)) 1099511627777
def Digits (t:ByteArray):Prop:=∀i,i<t.size→48≤byteAt t i∧byteAt t i≤57
theorem valT_bd {t:ByteArray} (h:Digits t):∀k,k≤t.size→0≤valT t k∧valT t k≤1099511627777:=by
 intro k hk
 induction k with
 | zero=>simp[valT]
 | succ k ih =>
   have h1:=ih (by omega);have h2:=h k (by omega);simp only[valT];omega
set_option maxRecDepth 100000 in
set_option maxHeartbeats 1000000 in
theorem value_any (t:ByteArray) (w:World) (hs:t.size≤1000000) (hd:Digits t) :
 Calls Tryz.prog 164 #[.string t] w fun e w'=>e=.returned (.int .i64 (valT t t.size))∧w=w':=by
 have HD:=Lib.hid hd;clear hd;go_enter Tryz.func164,Tryz.ntmps164;go_wp2_with fail
 go_loop [3,4] (fun n i=>∃k:Nat,k≤t.size∧i=.int .i64 k∧n=.int .i64 (valT t k)) (fun _ i=>t.size-(intOf i).toNat)
 case atStart=>exact⟨0,Nat.zero_le _,rfl,rfl⟩
 case round =>
  obtain⟨k,hk,rfl,rfl⟩:=hrel;by_cases hlt:k<t.size
  ·obtain⟨v0,v1⟩:=valT_bd HD.out k hk;obtain⟨d0,d1⟩:=HD.out k hlt;have hby:byteAt t k=(t[k].toNat:Int):=by simp[byteAt,hlt]
   have HS:Hid (valT t (k+1)=min (10*valT t k+((t[k].toNat:Int)-48)) 1099511627777):=by show valT t (k+1)=_;simp only[valT,hby]
   rw[hby]at d0 d1;clear hby;generalize valT t k=n at *;obtain⟨X,hX⟩:∃X,X=min (10*n+((t[k].toNat:Int)-48)) 1099511627777:=⟨_,rfl⟩;rw[← hX]at HS;have hX2:(if 1099511627777<10*n+((t[k].toNat:Int)-48) then 1099511627777 else 10*n+((t[k].toNat:Int)-48))=X:=by rw[hX];split <;> omega
   clear hX;go_wp2_with fail
   go_round
   case rel=>exact⟨k+1,by omega,by go_num,by rw[HS.out]⟩
   case measure=>simp[intOf];omega
  ·obtain rfl:k=t.size:=by omega
   go_wp2_with fail;go_ret;exact⟨rfl,rfl⟩
/-- The two values agree, up to the limit. -/
theorem valT_numE {s:ByteArray} {p E:Nat} (hE:E≤s.size) (hp:p≤E) (hd:∀i,i<E-p→kindAt s (p+i)=4) :
 ∀k,k≤E-p→(numE s p k≤1099511627776∧valT (s.extract p E) k=numE s p k)∨(1099511627776<numE s p k∧valT (s.extract p E) k=1099511627777):=by
 intro k hk
 induction k with
 | zero=>left;simp[numE,valT]
 | succ k ih =>
   have hb:byteAt (s.extract p E) k=byteAt s (p+k):=by
    have h1:k<(s.extract p E).size:=by rw[ByteArray.size_extract];omega
    have h2:p+k<s.size:=by omega
    simp only[byteAt,h1,h2,dif_pos];rw[ByteArray.getElem_extract]
   obtain⟨hi,d0,d1⟩:=kind_dig (hd k (by omega));have hby:byteAt s (p+k)=(s[p+k].toNat:Int):=by simp[byteAt,hi]
   have hn:=numE_nonneg hd k (by omega);simp only[numE,valT,hb];rcases ih (by omega)with ⟨h1,h2⟩|⟨h1,h2⟩
   ·rw[if_neg (by omega),h2];by_cases hx:1099511627776<numE s p k*10+(byteAt s (p+k)-48)
    ·right;exact⟨hx,by omega⟩
    ·left;exact⟨by omega,by omega⟩
   ·rw[if_pos h1,h2];right;exact⟨h1,by omega⟩
def RTokPost (w:World) (xs:List Tok) (e:Ending) (w':World):Prop :=
 ((∀t∈xs,t.err=0)∧∃v,e=.returned (.tuple #[v,.int .i64 0,.int .i64 0])∧w'.ownsRow w.heap.size 176 4 v xs.length (kcells xs)∧Below w.heap.size w w') ∨
 (∃init last,init ++ [last] <+: xs∧(∀t∈init,t.err=0)∧last.err≠0∧e=.returned (.tuple #[.slice none 0 0,.int .i64 last.at_,.int .i64 last.err])∧Below w.heap.size w w')
theorem info176:(Tryz.prog.info? 176).map (fun i=>(i.zero,i.size,i.bytes))=some (some (.agg #[.int .i64 0,.string ⟨#[]⟩,.int .i64 0,.int .i64 0]),4,40):=by kernel_rfl
theorem toksFrom_err {s:ByteArray} {p:Nat} (h:p<s.size) (he:(nextT s p).err≠0):toksFrom s p=[nextT s p]:=by
 unfold toksFrom;rw[dif_pos h,if_neg he]
theorem toksFrom_go {s:ByteArray} {p:Nat} (h:p<s.size) (he:(nextT s p).err=0):toksFrom s p=nextT s p :: toksFrom s (skipS s (p+(nextT s p).text.size)):=by
 conv=>lhs;unfold toksFrom
 rw[dif_pos h,if_pos he];obtain⟨h1,h2⟩:=nextT_size h;have h3:=skipS_bd s (p+(nextT s p).text.size) h1;have h4:=h2 he;rw[if_pos (by omega)]
theorem toksFrom_end {s:ByteArray} {p:Nat} (h:s.size≤p):toksFrom s p=[]:=by
 unfold toksFrom;rw[dif_neg (by omega)]
theorem new4 (w:World) (t:TypeId) (a b c d:Value):∀j u,([a,b,c,d]:List Value)[j]? = some u→(w.alloc (.cells #[a,b,c,d] t)).cell? ((⟨w.heap.size,0,none⟩:Addr).add j)=some u:=by
 intro j u hj
 match j,hj with
 | 0,hj=>simp at hj;subst hj;simp[Addr.add]
 | 1,hj=>simp at hj;subst hj;simp[Addr.add]
 | 2,hj=>simp at hj;subst hj;simp[Addr.add]
 | 3,hj=>simp at hj;subst hj;simp[Addr.add]
 | j+4,hj=>simp at hj
theorem oneTok (k:Int) (t:ByteArray) (n p:Int):∀u∈([.int .i64 k,.string t,.int .i64 n,.int .i64 p]:List Value),u.oneCell'=true:=by
 intro u hu;simp only[List.mem_cons,List.not_mem_nil,or_false]at hu;rcases hu with rfl|rfl|rfl|rfl <;> rfl
/-- How the reference's loop goes on at offset k. -/
theorem endS_next {s:ByteArray} {k:Nat} (h:k<s.size) :
 (endS s k=k∧(nextT s k).err=2∧(nextT s k).at_=k∧kindAt s k≠3∧kindAt s k≠4) ∨
 (endS s k=k+(nextT s k).text.size∧k<endS s k∧(nextT s k)=⟨2,s.extract k (endS s k),0,k,0⟩∧kindAt s k≠3∧kindAt s k≠4) ∨
 (kindAt s k=3∧k<endS s k∧(if 16<endS s k-k then(nextT s k).err=4∧(nextT s k).at_=k else nextT s k=⟨0,s.extract k (endS s k),0,k,0⟩∧endS s k=k+(nextT s k).text.size)) ∨
 (kindAt s k=4∧k<endS s k∧(if 1099511627776<numE s k (endS s k-k) then(nextT s k).err=4∧(nextT s k).at_=k else nextT s k=⟨1,s.extract k (endS s k),numE s k (endS s k-k),k,0⟩∧endS s k=k+(nextT s k).text.size)):=by
 have hE:=runEnd_bd wordB s (k+1) h;have hD:=runEnd_bd digB s (k+1) h;have ex:∀q,k≤q→q≤s.size→(s.extract k q).size=q-k:=fun q _ h2=>by rw[ByteArray.size_extract];omega
 by_cases h3:kindAt s k=3
 ·right;right;left;have e1:endS s k=runEnd wordB s (k+1):=by unfold endS;rw[if_pos h3]
  have e2:nextT s k=(if 16<runEnd wordB s (k+1)-k then⟨0,⟨#[]⟩,0,k,4⟩ else⟨0,s.extract k (runEnd wordB s (k+1)),0,k,0⟩):=by unfold nextT;rw[if_pos h3]
  refine⟨h3,by omega,?_⟩;rw[e1];split
  ·rename_i hb;rw[if_pos hb]at e2;rw[e2];exact⟨rfl,rfl⟩
  ·rename_i hb;rw[if_neg hb]at e2;rw[e2];exact⟨rfl,by simp only[];rw[ex _ (by omega) hE.2];omega⟩
 by_cases h4:kindAt s k=4
 ·right;right;right;have e1:endS s k=runEnd digB s (k+1):=by unfold endS;rw[if_neg h3,if_pos h4]
  have e2:nextT s k=(if 1099511627776<numE s k (runEnd digB s (k+1)-k) then⟨1,⟨#[]⟩,numE s k (runEnd digB s (k+1)-k),k,4⟩ else⟨1,s.extract k (runEnd digB s (k+1)),numE s k (runEnd digB s (k+1)-k),k,0⟩):=by unfold nextT;rw[if_neg h3,if_pos h4]
  refine⟨h4,by omega,?_⟩;rw[e1];split
  ·rename_i hb;rw[if_pos hb]at e2;rw[e2];exact⟨rfl,rfl⟩
  ·rename_i hb;rw[if_neg hb]at e2;rw[e2];exact⟨rfl,by simp only[];rw[ex _ (by omega) hD.2];omega⟩
 by_cases h7:kindAt s k=7
 ·right;left;have e1:endS s k=k+1:=by unfold endS;rw[if_neg h3,if_neg h4,if_pos h7]
  have e2:nextT s k=⟨2,s.extract k (k+1),0,k,0⟩:=by unfold nextT;rw[if_neg h3,if_neg h4,if_pos h7]
  rw[e1,e2];exact⟨by simp only[];rw[ex _ (by omega) (by omega)];omega,by omega,rfl,h3,h4⟩
 by_cases h6:kindAt s k=6
 ·have e1:endS s k=if k+2≤s.size∧byteAt s (k+1)=62 then k+2 else k:=by unfold endS;rw[if_neg h3,if_neg h4,if_neg h7,if_pos h6]
  have e2:nextT s k=(if k+2≤s.size∧byteAt s (k+1)=62 then⟨2,s.extract k (k+2),0,k,0⟩ else⟨2,⟨#[]⟩,0,k,2⟩):=by unfold nextT;rw[if_neg h3,if_neg h4,if_neg h7,if_pos h6]
  by_cases hc:k+2≤s.size∧byteAt s (k+1)=62
  ·right;left;rw[if_pos hc]at e1 e2;rw[e1,e2];exact⟨by simp only[];rw[ex _ (by omega) (by omega)];omega,by omega,rfl,h3,h4⟩
  ·left;rw[if_neg hc]at e1 e2;rw[e1,e2];exact⟨rfl,rfl,rfl,h3,h4⟩
 ·left;have e1:endS s k=k:=by unfold endS;rw[if_neg h3,if_neg h4,if_neg h7,if_neg h6]
  have e2:nextT s k=⟨0,⟨#[]⟩,0,k,2⟩:=by unfold nextT;rw[if_neg h3,if_neg h4,if_neg h7,if_neg h6]
  rw[e1,e2];exact⟨rfl,rfl,rfl,h3,h4⟩
theorem endS_le {s:ByteArray} {k:Nat} (h:k<s.size):endS s k≤s.size:=by
 have hE:=runEnd_bd wordB s (k+1) h;have hD:=runEnd_bd digB s (k+1) h;unfold endS
 repeat' split
 all_goals omega
theorem endS_dig {s:ByteArray} {k:Nat} (h4:kindAt s k=4):∀i,i<endS s k-k→kindAt s (k+i)=4:=by
 have e1:endS s k=runEnd digB s (k+1):=by unfold endS;rw[if_neg (by omega),if_pos h4]
 intro i hi;rw[e1]at hi;by_cases e:i=0
 ·subst e;exact h4
 ·have:=runEnd_in (f:=digB) (s:=s) (j:=k+1) (i:=k+i) (by omega) (by omega);simpa[digB]using this
set_option maxRecDepth 100000 in
set_option maxHeartbeats 2000000 in
theorem rtokens_any (s:ByteArray) (hs:s.size≤8192) (w:World):Calls Tryz.prog 113 #[.string s] w (RTokPost w (toks s)):=by
 obtain⟨i0,hi,hz0,hz1,hz2⟩:=info_parts info176;have HK:Hid (∀j,(hj:j<s.size)→∀W,Calls Tryz.prog 163 #[.int .u8 (s[j].toNat:Int)] W fun e w'=>e=.returned (.int .i64 (clsK (kindAt s j)))∧W=w'):=fun j hj W=>by
  have:=class_any s[j].toNat W s[j].toNat_lt
  rwa [cls_kind hj]at this
 have hq:toks s=toksFrom s (skipS s 0):=rfl;have h0:=skipS_bd s 0 (Nat.zero_le _);have HQ:=Lib.hid hq;clear hq;go_enter Tryz.func113,Tryz.ntmps113;go_wp2_with fail;refine(rskip_any s 0 _ (Nat.zero_le _) (by omega)).mono ?_;rintro e w' ⟨rfl,rfl⟩;generalize skipS s 0=k0 at *;generalize toks s=T at *;go_wp2_with fail;go_loopw [5,6] (fun v i wr=>∃(k:Nat) (pre:List Tok),k≤s.size∧i=.int .i64 k∧pre ++ toksFrom s k=T∧(∀t∈pre,t.err=0)∧pre.length≤k∧wr.ownsRow w.heap.size 176 4 v pre.length (kcells pre)∧Below w.heap.size w wr) (fun _ i _=>s.size-(intOf i).toNat)
 case atStart=>exact⟨k0,[],h0.2,rfl,HQ.out.symm,(fun t ht=>by cases ht),Nat.zero_le _,World.ownsRow_nil _ _ _ _,Below.refl _ _⟩
 case round =>
  obtain⟨k,pre,hk,rfl,hT,hpe,hpl,hown,hb⟩:=hrel;have HT:=Lib.hid hT;have HP:=Lib.hid hpe;have HO:=Lib.hid hown;have HB:=Lib.hid hb;have hsz:=hb.size;clear hT hpe hown hb;by_cases hlt:k<s.size
  ·have HC:=Lib.hid (fun W=>HK.out k hlt W);have HE:=Lib.hid (fun W=>rend_any s k W hlt (by omega));have hle:=endS_le hlt;obtain⟨kb0,kb7⟩:=kindAt_bd s k;obtain⟨_,z1,z2,_⟩:=clsK_cases kb0 kb7;have Herr:Hid ((nextT s k).err≠0→∀e,e=(nextT s k).err→∀W,Below w.heap.size w W→(nextT s k).at_=(k:Int)→RTokPost w T (.returned (.tuple #[.slice none 0 0,.int .i64 k,.int .i64 e])) W):=fun he e ee W hW ha=>by
    subst ee;right;refine⟨pre,nextT s k,?_,HP.out,he,?_,hW⟩
    ·rw[← HT.out,toksFrom_err hlt he];exact List.prefix_refl _
    ·rw[ha]
   have Hgo:Hid ((nextT s k).err=0→(pre ++ [nextT s k]) ++ toksFrom s (skipS s (k+(nextT s k).text.size))=T):=fun he=>by
    rw[← HT.out,toksFrom_go hlt he];simp
   rcases endS_next hlt with ⟨e1,e2,e3,n3,n4⟩|⟨e1,e2,e3,n3,n4⟩|⟨n3,e2,e3⟩|⟨n4,e2,e3⟩
   ·have HF:=Lib.hid (Herr.out (by omega) 2 e2.symm);rw[e1]at HE;clear e1 e2 z1 z2 n3 n4;have q:((k:Int) == (k:Int))=true:=by simp
    go_wp2_with fail;refine(HE.out _).mono ?_;rintro e w' ⟨rfl,rfl⟩;go_wp2_with fail
    go_ret3
    exact HF.out _ HB.out e3
   ·have q1:(clsK (kindAt s k) == 1)=false:=by simp only[beq_eq_false_iff_ne,ne_eq];exact fun e=>n3 (z1.1 e)
    have q2:(clsK (kindAt s k) == 2)=false:=by simp only[beq_eq_false_iff_ne,ne_eq];exact fun e=>n4 (z2.1 e)
    have HN:=Lib.hid (Hgo.out (by rw[e3]));rw[← e1]at HN;have HE3:=Lib.hid e3;clear e1 e3 z1 z2 n3 n4 Herr Hgo;generalize endS s k=E at *;generalize clsK (kindAt s k)=cl at *;have q:((E:Int) == (k:Int))=false:=by simp;omega
    have HPn:Hid (∀t∈pre ++ [nextT s k],t.err=0):=fun t ht=>by
     simp only[List.mem_append,List.mem_singleton]at ht;rcases ht with ht|rfl
     ·exact HP.out t ht
     ·rw[HE3.out]
    have hsk:=skipS_bd s E hle;go_wp2_with fail;refine(HE.out _).mono ?_;rintro e w' ⟨rfl,rfl⟩;go_wp2_with fail;refine(HC.out _).mono ?_;rintro e w' ⟨rfl,rfl⟩;go_wp2_with fail;refine(HC.out _).mono ?_;rintro e w' ⟨rfl,rfl⟩;go_wp2_with(at_builtin;refine wpList_append_own_at _ rfl _ _ 172 rfl w.heap.size 176 i0 (.agg #[.int .i64 0,.string ⟨#[]⟩,.int .i64 0,.int .i64 0]) 4 40 Tryz.underlying172 hi hz0 hz1 hz2 rfl (by decide) _ pre.length (kcells pre) rfl ((HO.out.alloc _).alloc _) ⟨wr.heap.size+1,0,none⟩ 1 1 [.int .i64 2,.string (s.extract k E),.int .i64 0,.int .i64 k] rfl rfl ?a1 (oneTok _ _ _ _) ?a3 ?a4 ?a5 ?_)
    case a1=>simpa using new4 (wr.alloc (.cells #[.int .i64 2,.string (s.extract k E),.int .i64 0,.int .i64 k] 176)) 176 (.int .i64 2) (.string (s.extract k E)) (.int .i64 0) (.int .i64 k)
    case a3=>unfold maxLen;omega
    case a4=>omega
    case a5=>simp;omega
    intro v' w1 hown' hgrow _ _;have hb1:Below w.heap.size w w1:=((HB.out.alloc hsz _).alloc (by simp;omega) _).grown hgrow (by simp;omega) (row_base HO.out);have HO1:=Lib.hid hown';clear hown' hgrow;go_wp2_with fail;refine(rskip_any s E _ hle (by omega)).mono ?_;rintro e w' ⟨rfl,rfl⟩;go_wp2_with fail;go_roundw
    case rel=>exact⟨skipS s E,pre ++ [nextT s k],hsk.2,rfl,HN.out,HPn.out,by simp;omega,by rw[HE3.out,kcells_snoc];simpa[Tok.cells]using HO1.out,hb1⟩
    case measure=>simp[intOf];omega
   ·have q1:(clsK (kindAt s k) == 1)=true:=by simpa using z1.2 n3
    have q2:(clsK (kindAt s k) == 2)=false:=by simp only[beq_eq_false_iff_ne,ne_eq];exact fun e=>by have:=z2.1 e;omega
    have hxs:(s.extract k (endS s k)).size=endS s k-k:=by rw[ByteArray.size_extract];omega
    by_cases hbig:16<endS s k-k
    ·rw[if_pos hbig]at e3;have HF:=Lib.hid (Herr.out (by omega) 4 e3.1.symm);have e32:=e3.2;clear e3 z1 z2 n3 Herr Hgo;generalize endS s k=E at *;generalize clsK (kindAt s k)=cl at *;have q:((E:Int) == (k:Int))=false:=by simp;omega
     have ql:16<(s.extract k E).size:=by omega
     have ql2:(16:Int)<((s.extract k E).size:Int):=by omega
     have HBa:Hid (Below w.heap.size w (wr.alloc (.cells #[.int .i64 0,.string (s.extract k E),.int .i64 0,.int .i64 k] 176))):=HB.out.alloc hsz _;clear hxs;go_wp2_with fail;refine(HE.out _).mono ?_;rintro e w' ⟨rfl,rfl⟩;go_wp2_with fail;refine(HC.out _).mono ?_;rintro e w' ⟨rfl,rfl⟩;go_wp2_with fail;refine(HC.out _).mono ?_;rintro e w' ⟨rfl,rfl⟩;go_wp2_with fail
     go_ret3
     exact HF.out _ HBa.out e32
    ·rw[if_neg hbig]at e3;have HN:=Lib.hid (Hgo.out (by rw[e3.1]));rw[← e3.2]at HN;have HE3:=Lib.hid e3.1;clear e3 z1 z2 n3 Herr Hgo;generalize endS s k=E at *;generalize clsK (kindAt s k)=cl at *;have q:((E:Int) == (k:Int))=false:=by simp;omega
     have ql:¬ 16<(s.extract k E).size:=by omega
     have ql2:¬ (16:Int)<((s.extract k E).size:Int):=by omega
     have ql3:decide (16<(s.extract k E).size)=false:=decide_eq_false ql;have ql4:decide ((16:Int)<((s.extract k E).size:Int))=false:=decide_eq_false ql2;clear hxs;have HPn:Hid (∀t∈pre ++ [nextT s k],t.err=0):=fun t ht=>by
      simp only[List.mem_append,List.mem_singleton]at ht;rcases ht with ht|rfl
      ·exact HP.out t ht
      ·rw[HE3.out]
     have hsk:=skipS_bd s E hle;go_wp2_with fail;refine(HE.out _).mono ?_;rintro e w' ⟨rfl,rfl⟩;go_wp2_with fail;refine(HC.out _).mono ?_;rintro e w' ⟨rfl,rfl⟩;go_wp2_with fail;refine(HC.out _).mono ?_;rintro e w' ⟨rfl,rfl⟩;go_wp2_with(at_builtin;refine wpList_append_own_at _ rfl _ _ 172 rfl w.heap.size 176 i0 (.agg #[.int .i64 0,.string ⟨#[]⟩,.int .i64 0,.int .i64 0]) 4 40 Tryz.underlying172 hi hz0 hz1 hz2 rfl (by decide) _ pre.length (kcells pre) rfl ((HO.out.alloc _).alloc _) ⟨wr.heap.size+1,0,none⟩ 1 1 [.int .i64 0,.string (s.extract k E),.int .i64 0,.int .i64 k] rfl rfl ?b1 (oneTok _ _ _ _) ?b3 ?b4 ?b5 ?_)
     case b1=>simpa using new4 (wr.alloc (.cells #[.int .i64 0,.string (s.extract k E),.int .i64 0,.int .i64 k] 176)) 176 (.int .i64 0) (.string (s.extract k E)) (.int .i64 0) (.int .i64 k)
     case b3=>unfold maxLen;omega
     case b4=>omega
     case b5=>simp;omega
     intro v' w1 hown' hgrow _ _;have hb1:Below w.heap.size w w1:=((HB.out.alloc hsz _).alloc (by simp;omega) _).grown hgrow (by simp;omega) (row_base HO.out);have HO1:=Lib.hid hown';clear hown' hgrow;go_wp2_with fail;refine(rskip_any s E _ hle (by omega)).mono ?_;rintro e w' ⟨rfl,rfl⟩;go_wp2_with fail;go_roundw
     case rel=>exact⟨skipS s E,pre ++ [nextT s k],hsk.2,rfl,HN.out,HPn.out,by simp;omega,by rw[HE3.out,kcells_snoc];simpa[Tok.cells]using HO1.out,hb1⟩
     case measure=>simp[intOf];omega
   ·have q1:(clsK (kindAt s k) == 1)=false:=by simp only[beq_eq_false_iff_ne,ne_eq];exact fun e=>by have:=z1.1 e;omega
    have q2:(clsK (kindAt s k) == 2)=true:=by simpa using z2.2 n4
    have hxs:(s.extract k (endS s k)).size=endS s k-k:=by rw[ByteArray.size_extract];omega
    have hdd:=endS_dig n4;have hD:Digits (s.extract k (endS s k)):=fun i hi=>by
     rw[hxs]at hi;obtain⟨hj,d0,d1⟩:=kind_dig (hdd i hi);have h1:i<(s.extract k (endS s k)).size:=by omega
     have:byteAt (s.extract k (endS s k)) i=(s[k+i].toNat:Int):=by
      simp only[byteAt,h1,dif_pos];rw[ByteArray.getElem_extract]
     rw[this];omega
    have HV:=Lib.hid (fun W=>value_any (s.extract k (endS s k)) W (by omega) hD);rw[hxs]at HV;have hvn:=valT_numE hle (by omega) hdd (endS s k-k) (Nat.le_refl _);by_cases hbig:1099511627776<numE s k (endS s k-k)
    ·rw[if_pos hbig]at e3;have hv:valT (s.extract k (endS s k)) (endS s k-k)=1099511627777:=by
      rcases hvn with ⟨h1,_⟩|⟨_,h2⟩
      ·omega
      ·exact h2
     rw[hv]at HV;have HF:=Lib.hid (Herr.out (by omega) 4 e3.1.symm);have e32:=e3.2;clear e3 z1 z2 n4 Herr Hgo hvn hv hbig hD hdd;generalize endS s k=E at *;generalize clsK (kindAt s k)=cl at *;have q:((E:Int) == (k:Int))=false:=by simp;omega
     have HBa:Hid (Below w.heap.size w (wr.alloc (.cells #[.int .i64 1,.string (s.extract k E),.int .i64 1099511627777,.int .i64 k] 176))):=HB.out.alloc hsz _;clear hxs;go_wp2_with fail;refine(HE.out _).mono ?_;rintro e w' ⟨rfl,rfl⟩;go_wp2_with fail;refine(HC.out _).mono ?_;rintro e w' ⟨rfl,rfl⟩;go_wp2_with fail;refine(HC.out _).mono ?_;rintro e w' ⟨rfl,rfl⟩;go_wp2_with fail;refine(HV.out _).mono ?_;rintro e w' ⟨rfl,rfl⟩;go_wp2_with fail
     go_ret3
     exact HF.out _ HBa.out e32
    ·rw[if_neg hbig]at e3;have hv:valT (s.extract k (endS s k)) (endS s k-k)=numE s k (endS s k-k):=by
      rcases hvn with ⟨_,h1⟩|⟨h2,_⟩
      ·exact h1
      ·omega
     have hn0:=numE_nonneg hdd (endS s k-k) (Nat.le_refl _);rw[hv]at HV;have HN:=Lib.hid (Hgo.out (by rw[e3.1]));rw[← e3.2]at HN;have HE3:=Lib.hid e3.1;clear e3 z1 z2 n4 Herr Hgo hvn hv hD hdd;generalize endS s k=E at *;generalize clsK (kindAt s k)=cl at *;generalize numE s k (E-k)=NN at *;have q:((E:Int) == (k:Int))=false:=by simp;omega
     have ql4:decide ((1099511627776:Int)<NN)=false:=decide_eq_false hbig;clear hxs;have HPn:Hid (∀t∈pre ++ [nextT s k],t.err=0):=fun t ht=>by
      simp only[List.mem_append,List.mem_singleton]at ht;rcases ht with ht|rfl
      ·exact HP.out t ht
      ·rw[HE3.out]
     have hsk:=skipS_bd s E hle;go_wp2_with fail;refine(HE.out _).mono ?_;rintro e w' ⟨rfl,rfl⟩;go_wp2_with fail;refine(HC.out _).mono ?_;rintro e w' ⟨rfl,rfl⟩;go_wp2_with fail;refine(HC.out _).mono ?_;rintro e w' ⟨rfl,rfl⟩;go_wp2_with fail;refine(HV.out _).mono ?_;rintro e w' ⟨rfl,rfl⟩;go_wp2_with(at_builtin;refine wpList_append_own_at _ rfl _ _ 172 rfl w.heap.size 176 i0 (.agg #[.int .i64 0,.string ⟨#[]⟩,.int .i64 0,.int .i64 0]) 4 40 Tryz.underlying172 hi hz0 hz1 hz2 rfl (by decide) _ pre.length (kcells pre) rfl ((HO.out.alloc _).alloc _) ⟨wr.heap.size+1,0,none⟩ 1 1 [.int .i64 1,.string (s.extract k E),.int .i64 NN,.int .i64 k] rfl rfl ?c1 (oneTok _ _ _ _) ?c3 ?c4 ?c5 ?_)
     case c1=>simpa using new4 (wr.alloc (.cells #[.int .i64 1,.string (s.extract k E),.int .i64 NN,.int .i64 k] 176)) 176 (.int .i64 1) (.string (s.extract k E)) (.int .i64 NN) (.int .i64 k)
     case c3=>unfold maxLen;omega
     case c4=>omega
     case c5=>simp;omega
     intro v' w1 hown' hgrow _ _;have hb1:Below w.heap.size w w1:=((HB.out.alloc hsz _).alloc (by simp;omega) _).grown hgrow (by simp;omega) (row_base HO.out);have HO1:=Lib.hid hown';clear hown' hgrow;go_wp2_with fail;refine(rskip_any s E _ hle (by omega)).mono ?_;rintro e w' ⟨rfl,rfl⟩;go_wp2_with fail;go_roundw
     case rel=>exact⟨skipS s E,pre ++ [nextT s k],hsk.2,rfl,HN.out,HPn.out,by simp;omega,by rw[HE3.out,kcells_snoc];simpa[Tok.cells]using HO1.out,hb1⟩
     case measure=>simp[intOf];omega
  ·have hte:toksFrom s k=[]:=toksFrom_end (by omega);have hpT:pre=T:=by have:=HT.out;rw[hte]at this;simpa using this
   subst hpT;have HF:Hid (∀W,W=wr→RTokPost w pre (.returned (.tuple #[u5,.int .i64 0,.int .i64 0])) W):=fun W e=>by
    subst e;exact .inl ⟨HP.out,_,rfl,HO.out,HB.out⟩
   go_wp2_with fail
   go_ret3
   exact HF.out _ rfl
theorem bytes_eq {s t:ByteArray} (h:s.data.toList=t.data.toList):s=t:=by
 cases s;cases t;simp only[ByteArray.mk.injEq];exact Array.toList_inj.1 h
/-- A text that is one word. -/
def fitG (s:ByteArray):Bool:=match toks s with
 | [t]=>decide (t.err=0) && decide (t.kind=0) && decide (t.text=s)
 | _=>false
theorem toks_last {s:ByteArray} {p:Nat}:∀ {init:List Tok} {last:Tok},init ++ [last] <+: toksFrom s p→last.err≠0→(∀t∈init,t.err=0)→init ++ [last]=toksFrom s p:=by
 induction hm:s.size-p using Nat.strongRecOn generalizing p with
 | _ m ih =>
   intro init last hp hl hi;by_cases h:p<s.size
   ·by_cases he:(nextT s p).err=0
    ·rw[toksFrom_go h he]at hp⊢;obtain⟨h1,h2⟩:=nextT_size h;have h3:=skipS_bd s (p+(nextT s p).text.size) h1;have h4:=h2 he;cases init with
     | nil =>
       have:=hp;simp only[List.nil_append]at this;obtain⟨t,ht⟩:=this;simp only[List.singleton_append,List.cons.injEq]at ht;rw[ht.1]at hl;exact absurd he hl
     | cons a init =>
       obtain⟨t,ht⟩:=hp;simp only[List.cons_append,List.cons.injEq]at ht;obtain⟨rfl,ht⟩:=ht;have:=ih (s.size-skipS s (p+(nextT s p).text.size)) (by omega) (p:=skipS s (p+(nextT s p).text.size)) rfl (init:=init) (last:=last) ⟨t,ht⟩ hl (fun t ht=>hi t (by simp[ht]));rw[List.cons_append,this]
    ·rw[toksFrom_err h he]at hp⊢;have:=hp.length_le;simp at this;subst this;obtain⟨t,ht⟩:=hp;simp at ht;rw[ht.1];rfl
   ·rw[toksFrom_end (by omega)]at hp;have:=hp.length_le;simp at this
theorem fitG_err {s:ByteArray} {init:List Tok} {last:Tok} (hp:init ++ [last] <+: toks s) (hl:last.err≠0) (hi:∀t∈init,t.err=0):fitG s=false:=by
 have h:=toks_last hp hl hi;unfold fitG;unfold toks;rw[← h];cases init with
 | nil=>simp[hl]
 | cons a init=>cases init <;> rfl
set_option maxRecDepth 100000 in
set_option maxHeartbeats 1000000 in
theorem fits_any (s:ByteArray) (hs:s.size≤8192) (w:World) (hT:Tab w) :
 Calls Tryz.prog 126 #[.string s] w fun e w'=>e=.returned (.bool (fitG s))∧Below w.heap.size w w':=by
 have Ht:=Lib.hid (tokens_all s hs w hT);have hG:fitG s=match toks s with | [t]=>decide (t.err=0) && decide (t.kind=0) && decide (t.text=s) | _=>false:=rfl
 have HE:=Lib.hid (fun init last=>fitG_err (s:=s) (init:=init) (last:=last));generalize fitG s=G at *;generalize toks s=T at *;have HG:=Lib.hid hG;clear hG hT;go_enter Tryz.func126,Tryz.ntmps126;go_wp2_with fail;refine Ht.out.mono ?_;rintro e w' (⟨he,v,rfl,hown,hB⟩|⟨init,last,hp,hi,hl,rfl,hB⟩)
 ·clear Ht HE
  match T,HG,he,hown with
  | [], HG, he, hown =>
    obtain⟨A,c,rfl,hr,-,-⟩:=row_form hown;have Hf:Hid (G=false):=HG;clear HG he hown hr;go_wp2;go_ret;exact⟨by rw[Hf.out];rfl,hB⟩
  | [t], HG, he, hown =>
    have het:=he t (List.mem_singleton.2 rfl);obtain⟨g,c,rfl⟩:∃g c,v=.slice (some ⟨g,0,none⟩) 1 c:=by
     rcases hown.2 with ⟨_,h0⟩|⟨g,cap,cur,rfl,_⟩
     ·simp at h0
     ·exact⟨_,_,rfl⟩
    have c0:=hown.cellAt 0 (by decide);have c1:=hown.cellAt 1 (by decide);obtain⟨tk,tt,tn,ta,te⟩:=t;simp[kcells,Tok.cells]at c0 c1;have hg:=HG.out;simp only at hg het;subst het;by_cases hk:tk=0
    ·subst hk;by_cases htt:tt=s
     ·have Hf:Hid (G=true):=by show G=true;rw[hg];simp[htt]
      subst htt;clear HG he hown hg;go_wp2;go_ret;exact⟨by rw[Hf.out];rfl,hB⟩
     ·have Hf:Hid (G=false):=by show G=false;rw[hg];simp[htt]
      have q2:(tt.toList == s.toList)=false:=by
       simp only[beq_eq_false_iff_ne,ne_eq,ByteArray.toList_eq];exact fun e=>htt (bytes_eq e)
      have q1:(tt == s)=false:=by rw[beq_toListBytes];exact q2
      clear HG he hown hg htt;go_wp2;go_ret;exact⟨by rw[Hf.out];rfl,hB⟩
    ·have Hf:Hid (G=false):=by show G=false;rw[hg];simp[hk]
     have q1:(tk == 0)=false:=by simpa using hk
     clear HG he hown hg;go_wp2;go_ret;exact⟨by rw[Hf.out];rfl,hB⟩
  | a :: b :: l, HG, he, hown =>
    obtain⟨A,c,rfl,hr,-,-⟩:=row_form hown;have Hf:Hid (G=false):=HG;have q:(((a :: b :: l).length:Int) == 1)=false:=by simp;omega
    have q2:((a :: b :: l).length == 1)=false:=by simp
    clear HG he hown hr;generalize(a :: b :: l).length=n at *;go_wp2;go_ret;exact⟨by rw[Hf.out];rfl,hB⟩
 ·have Hf:=Lib.hid (HE.out init last hp hl hi);have hl2:(last.err == 0)=false:=by simpa using hl
  clear hl hp hi Ht HE HG;go_wp2;go_ret;exact⟨by rw[Hf.out];rfl,hB⟩
set_option maxRecDepth 100000 in
set_option maxHeartbeats 1000000 in
theorem Word_any (s:ByteArray) (hs:s.size≤8192) (w:World) :
 Calls Tryz.prog 88 #[.string s] w fun e w'=>e=.returned (.bool (fitG s))∧Below w.heap.size w w':=by
 have Ht:=Lib.hid (rtokens_any s hs w);have hG:fitG s=match toks s with | [t]=>decide (t.err=0) && decide (t.kind=0) && decide (t.text=s) | _=>false:=rfl
 have HE:=Lib.hid (fun init last=>fitG_err (s:=s) (init:=init) (last:=last));generalize fitG s=G at *;generalize toks s=T at *;have HG:=Lib.hid hG;clear hG;go_enter Tryz.func88,Tryz.ntmps88;go_wp2_with fail;refine Ht.out.mono ?_;rintro e w' (⟨he,v,rfl,hown,hB⟩|⟨init,last,hp,hi,hl,rfl,hB⟩)
 ·clear Ht HE
  match T,HG,he,hown with
  | [], HG, he, hown =>
    obtain⟨A,c,rfl,hr,-,-⟩:=row_form hown;have Hf:Hid (G=false):=HG;clear HG he hown hr;go_wp2;go_ret;exact⟨by rw[Hf.out];rfl,hB⟩
  | [t], HG, he, hown =>
    have het:=he t (List.mem_singleton.2 rfl);obtain⟨g,c,rfl⟩:∃g c,v=.slice (some ⟨g,0,none⟩) 1 c:=by
     rcases hown.2 with ⟨_,h0⟩|⟨g,cap,cur,rfl,_⟩
     ·simp at h0
     ·exact⟨_,_,rfl⟩
    have c0:=hown.cellAt 0 (by decide);have c1:=hown.cellAt 1 (by decide);obtain⟨tk,tt,tn,ta,te⟩:=t;simp[kcells,Tok.cells]at c0 c1;have hg:=HG.out;simp only at hg het;subst het;by_cases hk:tk=0
    ·subst hk;by_cases htt:tt=s
     ·have Hf:Hid (G=true):=by show G=true;rw[hg];simp[htt]
      subst htt;clear HG he hown hg;go_wp2;go_ret;exact⟨by rw[Hf.out];rfl,hB⟩
     ·have Hf:Hid (G=false):=by show G=false;rw[hg];simp[htt]
      have q2:(tt.toList == s.toList)=false:=by
       simp only[beq_eq_false_iff_ne,ne_eq,ByteArray.toList_eq];exact fun e=>htt (bytes_eq e)
      have q1:(tt == s)=false:=by rw[beq_toListBytes];exact q2
      clear HG he hown hg htt;go_wp2;go_ret;exact⟨by rw[Hf.out];rfl,hB⟩
    ·have Hf:Hid (G=false):=by show G=false;rw[hg];simp[hk]
     have q1:(tk == 0)=false:=by simpa using hk
     clear HG he hown hg;go_wp2;go_ret;exact⟨by rw[Hf.out];rfl,hB⟩
  | a :: b :: l, HG, he, hown =>
    obtain⟨A,c,rfl,hr,-,-⟩:=row_form hown;have Hf:Hid (G=false):=HG;have q:(((a :: b :: l).length:Int) == 1)=false:=by simp;omega
    have q2:((a :: b :: l).length == 1)=false:=by simp
    clear HG he hown hr;generalize(a :: b :: l).length=n at *;go_wp2;go_ret;exact⟨by rw[Hf.out];rfl,hB⟩
 ·have Hf:=Lib.hid (HE.out init last hp hl hi);have hl2:(last.err == 0)=false:=by simpa using hl
  clear hl hp hi Ht HE HG;go_wp2;go_ret;exact⟨by rw[Hf.out];rfl,hB⟩
end Go.Proofs.YthjfdfdgbpbanaaGreatDoor
