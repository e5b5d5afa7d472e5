/- The lexer in general: what skip answers at any offset of any text. The lexer in general: what next answers at any offset of any text. The lexer in general: next at a digit, next at any offset. The reference lexer: class on any byte. The reference lexer: skip, end and value. The reference lexer: value and Tokens; both lexers give the same tokens. -/
import Derived.Test.YtocodlpgaamblaaGreatDoorK1
import Derived.Laws.Externs
import Derived.Lib.Bytealg
import Derived.Lib.IndexLaws
import Derived.Lib.IndexBytes
set_option linter.unusedVariables false
set_option linter.unusedSimpArgs false
open Go.RowKit
namespace Go.Proofs.YtocodlpgaamblaaGreatDoor
set_option linter.unusedVariables false
set_option linter.unusedSimpArgs false
theorem run_ibs (s:ByteArray) (c:Int) (w:World):(callFunc 161 #[.string s,.int .u8 c]).run Tryz.prog w=.ok (.value (.int .i64 (Lib.indexByte s.data.toList c.toNat.toUInt8))) w:=by
 rw[run_callFunc_extern Tryz.func161 (by kernel_rfl) (by kernel_rfl) (by kernel_rfl) (e:=Extern.BytealgIndexByte.indexByte) (by kernel_rfl) _ w,Lib.run_indexByteString];rfl
set_option maxHeartbeats 400000 in
theorem sib_any (s:ByteArray) (c:Int) (w:World):Calls Tryz.prog 158 #[.string s,.int .u8 c] w fun e w'=>e=.returned (.int .i64 (Lib.indexByte s.data.toList c.toNat.toUInt8))∧w=w':=by
 have hr:=fun W=>run_ibs s c W
 go_enter Tryz.func158,Tryz.ntmps158;go_wp2;go_ret;exact⟨rfl,rfl⟩
set_option maxHeartbeats 400000 in
theorem ib_any (s:ByteArray) (c:Int) (w:World):Calls Tryz.prog 152 #[.string s,.int .u8 c] w fun e w'=>e=.returned (.int .i64 (Lib.indexByte s.data.toList c.toNat.toUInt8))∧w=w':=by
 go_enter Tryz.func152,Tryz.ntmps152;go_wp2_with fail;refine(sib_any _ _ _).mono ?_;rintro e w' ⟨rfl,rfl⟩;go_wp2;go_ret;exact⟨rfl,rfl⟩
def nlR (s:ByteArray) (p:Nat):Int:=Lib.indexByte (s.extract p s.size).data.toList 10
def nlAt (s:ByteArray) (p:Nat):Nat:=if nlR s p<0 then s.size else p+(nlR s p).toNat
theorem ext_get (s:ByteArray) (p k:Nat):(s.extract p s.size).data.toList[k]? = s.data.toList[p+k]?:=by
 rw[Lib.extract_to_end,List.getElem?_drop]
theorem nlR_ge (s:ByteArray) (p:Nat) : -1≤nlR s p:=Lib.indexByte_ge _ _
theorem nlAt_le (s:ByteArray) (p:Nat):nlAt s p≤s.size:=by
 unfold nlAt;split
 ·exact Nat.le_refl _
 ·rename_i h
  obtain⟨o,ho⟩:=Int.eq_ofNat_of_zero_le (show 0≤nlR s p by omega);have h1:=(Lib.indexByte_some (o:=o) (show Lib.indexByte (s.extract p s.size).data.toList 10=o from ho)).1;rw[ext_get]at h1;have:=(List.getElem?_eq_some_iff.1 h1).1;have e:s.data.toList.length=s.size:=by simp
  rw[ho];simp at this⊢;omega
theorem nlAt_gt {s:ByteArray} {p:Nat} (hp:p<s.size) (h:s[p].toNat≠10):p<nlAt s p:=by
 unfold nlAt;split
 ·exact hp
 ·rename_i h0
  obtain⟨o,ho⟩:=Int.eq_ofNat_of_zero_le (show 0≤nlR s p by omega);have h1:=(Lib.indexByte_some (o:=o) (show Lib.indexByte (s.extract p s.size).data.toList 10=o from ho)).1;rw[ext_get]at h1;rw[ho];rcases Nat.eq_zero_or_pos o with e|e
  ·subst e;rw[Nat.add_zero,Lib.data_getElem? s p hp]at h1;exfalso;apply h;rw[Option.some.inj h1];rfl
  ·simp;omega
def skipS (s:ByteArray) (p:Nat):Nat :=
 if h:p<s.size then
  if kindAt s p=1 then skipS s (p+1) else if kindAt s p=2 then(if p<nlAt s p then skipS s (nlAt s p) else p) else p
 else p
termination_by s.size-p
decreasing_by all_goals omega
theorem skipS_end {s:ByteArray} {p:Nat} (h:s.size≤p):skipS s p=p:=by
 unfold skipS;rw[dif_neg (by omega)]
theorem skipS_blank {s:ByteArray} {p:Nat} (h:p<s.size) (hk:kindAt s p=1):skipS s p=skipS s (p+1):=by
 conv=>lhs;unfold skipS
 rw[dif_pos h,if_pos hk]
theorem skipS_hash {s:ByteArray} {p:Nat} (h:p<s.size) (hk:kindAt s p=2) (hn:p<nlAt s p):skipS s p=skipS s (nlAt s p):=by
 conv=>lhs;unfold skipS
 rw[dif_pos h,if_neg (by omega),if_pos hk,if_pos hn]
theorem skipS_stay {s:ByteArray} {p:Nat} (h1:kindAt s p≠1) (h2:kindAt s p≠2):skipS s p=p:=by
 unfold skipS;split
 ·rfl
 ·rfl
theorem skipS_bd (s:ByteArray) (p:Nat) (hp:p≤s.size):p≤skipS s p∧skipS s p≤s.size:=by
 induction hm:s.size-p using Nat.strongRecOn generalizing p with
 | _ m ih =>
   unfold skipS;split
   ·rename_i h
    split
    ·have:=ih (s.size-(p+1)) (by omega) (p+1) (by omega) rfl;omega
    ·split
     ·split
      ·have h3:=nlAt_le s p;have:=ih (s.size-nlAt s p) (by omega) (nlAt s p) h3 rfl;omega
      ·omega
     ·omega
   ·omega
theorem kind_hash {s:ByteArray} {p:Nat} (hp:p<s.size) (h:kindAt s p=2):s[p].toNat≠10:=by
 intro e;simp[kindAt,hp,e]at h;revert h;decide
set_option maxRecDepth 100000 in
set_option maxHeartbeats 1000000 in
theorem skip_any (s:ByteArray) (p:Nat) (w:World) (hp:p≤s.size) (hs:s.size≤1000000) (hT:Tab w) :
 Calls Tryz.prog 139 #[.string s,.int .i64 p] w fun e w'=>e=.returned (.int .i64 (skipS s p))∧w=w':=by
 have HT:=Lib.hid hT;clear hT;go_enter Tryz.func139,Tryz.ntmps139;go_wp2_with fail
 go_loop [1] (fun i=>∃k:Nat,k≤s.size∧i=.int .i64 k∧skipS s k=skipS s p) (fun i=>s.size-(intOf i).toNat)
 case atStart=>exact⟨p,hp,rfl,rfl⟩
 case round =>
  obtain⟨k,hk,rfl,hR⟩:=hrel;have HR:=Lib.hid hR;clear hR;by_cases hlt:k<s.size
  ·by_cases h1:kindAt s k=1
   ·have HS:=Lib.hid ((skipS_blank hlt h1).symm.trans HR.out);go_wp2_with fail;refine(kindAt_any s k _ HT.out).mono ?_;rintro e w' ⟨rfl,rfl⟩;go_wp2_with fail
    go_round
    case rel=>exact⟨k+1,by omega,by go_num,HS.out⟩
    case measure=>simp[intOf];omega
   ·have q1:(kindAt s k == 1)=false:=by simpa using h1
    by_cases h2:kindAt s k=2
    ·have hn:=nlAt_gt hlt (kind_hash hlt h2);have HS:=Lib.hid ((skipS_hash hlt h2 hn).symm.trans HR.out);have hle:=nlAt_le s k;have hge:=nlR_ge s k;have HI:Hid (∀W,Calls Tryz.prog 152 #[.string (s.extract k s.size),.int .u8 10] W fun e w'=>e=.returned (.int .i64 (nlR s k))∧W=w'):=fun W=>ib_any _ _ _
     have hq:nlAt s k=if nlR s k<0 then s.size else k+(nlR s k).toNat:=rfl
     have HQ:=Lib.hid hq;clear hq;generalize nlR s k=r at *;by_cases hr:r<0
     ·rw[if_pos hr]at HQ;have HE:Hid (skipS s p=s.size):=by
       show skipS s p=s.size;rw[← HS.out,HQ.out,skipS_end (Nat.le_refl _)]
      go_wp2_with fail;refine(kindAt_any s k _ HT.out).mono ?_;rintro e w' ⟨rfl,rfl⟩;rw[h2];go_wp2_with fail;refine(HI.out _).mono ?_;rintro e w' ⟨rfl,rfl⟩;go_wp2_with fail;go_ret;exact⟨by rw[HE.out];rfl,rfl⟩
     ·obtain⟨o,rfl⟩:=Int.eq_ofNat_of_zero_le (show 0≤r by omega);rw[if_neg hr,Int.toNat_natCast]at HQ;rw[HQ.out]at hn hle HS;go_wp2_with fail;refine(kindAt_any s k _ HT.out).mono ?_;rintro e w' ⟨rfl,rfl⟩;rw[h2];go_wp2_with fail;refine(HI.out _).mono ?_;rintro e w' ⟨rfl,rfl⟩;go_wp2_with fail
      go_round
      case rel=>exact⟨k+o,by omega,by go_num,HS.out⟩
      case measure=>simp[intOf];omega
    ·have q2:(kindAt s k == 2)=false:=by simpa using h2
     have HE:=Lib.hid ((skipS_stay h1 h2).symm.trans HR.out);clear h1 h2;go_wp2_with fail;refine(kindAt_any s k _ HT.out).mono ?_;rintro e w' ⟨rfl,rfl⟩;generalize kindAt s k=kk at *;go_wp2_with fail;go_ret;exact⟨by rw[← HE.out];rfl,rfl⟩
  ·have HE:Hid (skipS s p=k):=by
    show skipS s p=k;rw[← HR.out,skipS_end (by omega)]
   go_wp2_with fail;go_ret;exact⟨by rw[HE.out];rfl,rfl⟩
def runEnd (f:Int→Bool) (s:ByteArray) (j:Nat):Nat:=if j<s.size then(if f (kindAt s j)=true then runEnd f s (j+1) else j) else j
termination_by s.size-j
theorem runEnd_go {f:Int→Bool} {s:ByteArray} {j:Nat} (h:j<s.size) (hf:f (kindAt s j)=true):runEnd f s j=runEnd f s (j+1):=by
 conv=>lhs;unfold runEnd
 rw[if_pos h,if_pos hf]
theorem runEnd_stop {f:Int→Bool} {s:ByteArray} {j:Nat} (hf:f (kindAt s j)=false):runEnd f s j=j:=by
 unfold runEnd;split
 ·rw[if_neg (by rw[hf];decide)]
 ·rfl
theorem runEnd_end {f:Int→Bool} {s:ByteArray} {j:Nat} (h:s.size≤j):runEnd f s j=j:=by
 unfold runEnd;rw[if_neg (by omega)]
theorem runEnd_bd (f:Int→Bool) (s:ByteArray) (j:Nat) (hj:j≤s.size):j≤runEnd f s j∧runEnd f s j≤s.size:=by
 induction hm:s.size-j using Nat.strongRecOn generalizing j with
 | _ m ih =>
   unfold runEnd;split
   ·split
    ·have:=ih (s.size-(j+1)) (by omega) (j+1) (by omega) rfl;omega
    ·omega
   ·omega
theorem runEnd_in {f:Int→Bool} {s:ByteArray} {j i:Nat} (h1:j≤i) (h2:i<runEnd f s j):f (kindAt s i)=true:=by
 induction hm:s.size-j using Nat.strongRecOn generalizing j with
 | _ m ih =>
   by_cases h:j<s.size
   ·cases hf:f (kindAt s j)
    ·rw[runEnd_stop hf]at h2;omega
    ·by_cases e:i=j
     ·subst e;exact hf
     ·rw[runEnd_go h hf]at h2;exact ih (s.size-(j+1)) (by omega) (by omega) h2 rfl
   ·rw[runEnd_end (by omega)]at h2;omega
def digB (k:Int):Bool:=k == 4
theorem kind_dig {s:ByteArray} {i:Nat} (h:kindAt s i=4):∃hi:i<s.size,48≤s[i].toNat∧s[i].toNat≤57:=by
 by_cases hi:i<s.size
 ·refine⟨hi,?_⟩;by_cases hc:s[i].toNat<128
  ·simp only[kindAt,hi,hc,dif_pos,if_pos]at h;have:∀j:Fin 128,kindOf j.val=4→48≤j.val∧j.val≤57:=by decide +kernel
   exact this ⟨_,hc⟩ h
  ·simp[kindAt,hi,hc]at h
 ·simp[kindAt,hi]at h
def byteAt (s:ByteArray) (i:Nat):Int:=if h:i<s.size then(s[i].toNat:Int) else 0
def numE (s:ByteArray) (p:Nat):Nat→Int
 | 0=>0
 | k+1=>if 1099511627776<numE s p k then numE s p k else numE s p k*10+(byteAt s (p+k)-48)
theorem numE_stays {s:ByteArray} {p k:Nat} (h:1099511627776<numE s p k):∀m,k≤m→numE s p m=numE s p k:=by
 intro m hm
 induction m with
 | zero => obtain rfl : k = 0 := by omega
           rfl
 | succ m ih =>
   by_cases e:k=m+1
   ·subst e;rfl
   ·have h1:=ih (by omega);simp only[numE];rw[if_pos (by rw[h1];exact h),h1]
def nextT (s:ByteArray) (p:Nat):Tok :=
 if kindAt s p=3 then
  (if 16<runEnd wordB s (p+1)-p then⟨0,⟨#[]⟩,0,p,4⟩ else⟨0,s.extract p (runEnd wordB s (p+1)),0,p,0⟩)
 else if kindAt s p=4 then
  (if 1099511627776<numE s p (runEnd digB s (p+1)-p) then⟨1,⟨#[]⟩,numE s p (runEnd digB s (p+1)-p),p,4⟩ else⟨1,s.extract p (runEnd digB s (p+1)),numE s p (runEnd digB s (p+1)-p),p,0⟩)
 else if kindAt s p=7 then⟨2,s.extract p (p+1),0,p,0⟩
 else if kindAt s p=6 then(if p+2≤s.size∧byteAt s (p+1)=62 then⟨2,s.extract p (p+2),0,p,0⟩ else⟨2,⟨#[]⟩,0,p,2⟩)
 else⟨0,⟨#[]⟩,0,p,2⟩
def NextPost (w:World) (t:Tok) (e:Ending) (w':World):Prop:=e=.returned (.tuple #[t.val,.int .i64 t.err])∧Below w.heap.size w w'
set_option maxRecDepth 100000 in
set_option maxHeartbeats 1000000 in
theorem next_word_any (s:ByteArray) (p:Nat) (w:World) (hT:Tab w) (h0:kindAt s p=3) (hl:p<s.size) (hs:s.size≤1000000) :
 Calls Tryz.prog 140 #[.string s,.int .i64 p] w (NextPost w (nextT s p)):=by
 have HT:=Lib.hid hT;have H0:=Lib.hid h0;have hn:nextT s p=if 16<runEnd wordB s (p+1)-p then⟨0,⟨#[]⟩,0,p,4⟩ else⟨0,s.extract p (runEnd wordB s (p+1)),0,p,0⟩:=by unfold nextT;rw[if_pos h0]
 have hE:=runEnd_bd wordB s (p+1) hl;have HN:=Lib.hid hn;obtain⟨E,hEe⟩:∃E,E=runEnd wordB s (p+1):=⟨_,rfl⟩;rw[← hEe]at HN hE;have HE:=Lib.hid hEe;clear hT h0 hn hEe;go_enter Tryz.func140,Tryz.ntmps140;go_wp2_with fail;refine(kindAt_any s p _ (HT.out.below ((((Below.refl _ w).alloc (Nat.le_refl _) _).alloc (by simp) _)) HT.out.1)).mono ?_;rintro e w' ⟨rfl,rfl⟩;rw[H0.out];go_wp2_with fail;refine(kindAt_any s (p+1) _ (HT.out.below ((((Below.refl _ w).alloc (Nat.le_refl _) _).alloc (by simp) _)) HT.out.1)).mono ?_;rintro e w' ⟨rfl,rfl⟩;obtain⟨k1,hk1⟩:∃k1,k1=kindAt s (p+1):=⟨_,rfl⟩;have Hk1:=Lib.hid hk1;rw[← hk1];clear hk1;go_wp2_with fail
 go_loop [7,8] (fun e k=>∃j:Nat,p+1≤j∧j≤s.size∧runEnd wordB s j=E∧e=.int .i64 j∧k=.int .u8 (kindAt s j)) (fun e _=>s.size-(intOf e).toNat)
 case atStart=>exact⟨p+1,Nat.le_refl _,hl,HE.out.symm,by go_num,by rw[Hk1.out]⟩
 case round =>
  obtain⟨j,hj1,hj2,hR,rfl,rfl⟩:=hrel;have HR:=Lib.hid hR;clear hR;cases hwb:wordB (kindAt s j)
  ·have hq:(kindAt s j == 3)=false∧(kindAt s j == 4)=false∧(kindAt s j == 5)=false:=by
    simp only[wordB,Bool.or_eq_false_iff]at hwb;exact⟨hwb.1.1,hwb.1.2,hwb.2⟩
   obtain⟨q1,q2,q3⟩:=hq;have hjE:E=j:=by rw[← HR.out,runEnd_stop hwb]
   have HjE:=Lib.hid hjE;clear hwb hjE;generalize kindAt s j=k at *;by_cases hb:16<j-p
   ·have hb2:(16:Int)<(j:Int)-(p:Int):=by omega
    rw[HjE.out,if_pos hb]at HN;go_wp2_with fail;refine bodyPost_ret (v:=.tuple #[.agg #[.int .i64 0,.string ⟨#[]⟩,.int .i64 0,.int .i64 p],.int .i64 4]) (by simp[results,Tryz.results140,go_sem]) rfl ⟨by rw[HN.out];rfl,?_⟩;exact(((Below.refl _ w).alloc (Nat.le_refl _) _).alloc (by simp) _)
   ·have hb2:¬ (16:Int)<(j:Int)-(p:Int):=by omega
    rw[HjE.out,if_neg hb]at HN;go_wp2_with fail;refine bodyPost_ret (v:=.tuple #[.agg #[.int .i64 0,.string (s.extract p j),.int .i64 0,.int .i64 p],.int .i64 0]) (by simp[results,Tryz.results140,go_sem]) rfl ⟨by rw[HN.out];rfl,?_⟩;exact(((Below.refl _ w).alloc (Nat.le_refl _) _).alloc (by simp) _)
  ·have hlt:j<s.size:=by
    by_cases h:j<s.size
    ·exact h
    ·have:kindAt s j=0:=by simp[kindAt,h]
     rw[this]at hwb;simp[wordB]at hwb
   have HR2:=Lib.hid ((runEnd_go hlt hwb).symm.trans HR.out);have hk:kindAt s j=3∨kindAt s j=4∨kindAt s j=5:=by simpa[wordB,or_assoc]using hwb
   clear hwb;generalize kindAt s j=k at *;rcases hk with rfl|rfl|rfl
   all_goals
    go_wp2_with fail;refine(kindAt_any s (j+1) _ (HT.out.below ((((Below.refl _ w).alloc (Nat.le_refl _) _).alloc (by simp) _)) HT.out.1)).mono ?_;rintro e w' ⟨rfl,rfl⟩;go_wp2_with fail
    go_round
    case rel=>exact⟨j+1,by omega,by omega,HR2.out,by go_num,rfl⟩
    case measure=>simp[intOf];omega
set_option maxRecDepth 100000 in
set_option maxHeartbeats 1000000 in
theorem next_sym_any (s:ByteArray) (p:Nat) (w:World) (hT:Tab w) (h0:kindAt s p=7) (hl:p<s.size) (hs:s.size≤1000000) :
 Calls Tryz.prog 140 #[.string s,.int .i64 p] w (NextPost w (nextT s p)):=by
 have HT:=Lib.hid hT;have H0:=Lib.hid h0;have hn:nextT s p=⟨2,s.extract p (p+1),0,p,0⟩:=by unfold nextT;rw[if_neg (by omega),if_neg (by omega),if_pos h0]
 have HN:=Lib.hid hn;clear hT h0 hn;go_enter Tryz.func140,Tryz.ntmps140;go_wp2_with fail;refine(kindAt_any s p _ (HT.out.below ((((Below.refl _ w).alloc (Nat.le_refl _) _).alloc (by simp) _)) HT.out.1)).mono ?_;rintro e w' ⟨rfl,rfl⟩;rw[H0.out];go_wp2_with fail;refine bodyPost_ret (v:=.tuple #[.agg #[.int .i64 2,.string (s.extract p (p+1)),.int .i64 0,.int .i64 p],.int .i64 0]) (by simp[results,Tryz.results140,go_sem]) rfl ⟨by rw[HN.out];rfl,?_⟩;exact(((Below.refl _ w).alloc (Nat.le_refl _) _).alloc (by simp) _)
set_option maxRecDepth 100000 in
set_option maxHeartbeats 1000000 in
theorem next_minus_any (s:ByteArray) (p:Nat) (w:World) (hT:Tab w) (h0:kindAt s p=6) (hl:p<s.size) (hs:s.size≤1000000) :
 Calls Tryz.prog 140 #[.string s,.int .i64 p] w (NextPost w (nextT s p)):=by
 have HT:=Lib.hid hT;have H0:=Lib.hid h0;have hn:nextT s p=(if p+2≤s.size∧byteAt s (p+1)=62 then⟨2,s.extract p (p+2),0,p,0⟩ else⟨2,⟨#[]⟩,0,p,2⟩):=by unfold nextT;rw[if_neg (by omega),if_neg (by omega),if_neg (by omega),if_pos h0]
 have HN:=Lib.hid hn;clear hT h0 hn;by_cases h2:p+2≤s.size
 ·have hlt:p+1<s.size:=by omega
  have hbe:byteAt s (p+1)=(s[p+1].toNat:Int):=by simp[byteAt,hlt]
  by_cases h3:(s[p+1].toNat:Int)=62
  ·rw[if_pos ⟨h2,hbe.trans h3⟩]at HN;have q:((s[p+1].toNat:Int) != 62)=false:=by simpa using h3
   have hp2:¬ (s.size:Int)<(p:Int)+1+1:=by omega
   clear hbe h3;go_enter Tryz.func140,Tryz.ntmps140;go_wp2_with fail;refine(kindAt_any s p _ (HT.out.below ((((Below.refl _ w).alloc (Nat.le_refl _) _).alloc (by simp) _)) HT.out.1)).mono ?_;rintro e w' ⟨rfl,rfl⟩;rw[H0.out];go_wp2_with fail;refine bodyPost_ret (v:=.tuple #[.agg #[.int .i64 2,.string (s.extract p (p+2)),.int .i64 0,.int .i64 p],.int .i64 0]) (by simp[results,Tryz.results140,go_sem]) rfl ⟨by rw[HN.out];rfl,?_⟩;exact(((Below.refl _ w).alloc (Nat.le_refl _) _).alloc (by simp) _)
  ·rw[if_neg (fun h=>h3 (hbe.symm.trans h.2))]at HN;have q:((s[p+1].toNat:Int) != 62)=true:=by simpa using h3
   have hp2:¬ (s.size:Int)<(p:Int)+1+1:=by omega
   clear hbe h3;go_enter Tryz.func140,Tryz.ntmps140;go_wp2_with fail;refine(kindAt_any s p _ (HT.out.below ((((Below.refl _ w).alloc (Nat.le_refl _) _).alloc (by simp) _)) HT.out.1)).mono ?_;rintro e w' ⟨rfl,rfl⟩;rw[H0.out];go_wp2_with fail;refine bodyPost_ret (v:=.tuple #[.agg #[.int .i64 2,.string ⟨#[]⟩,.int .i64 0,.int .i64 p],.int .i64 2]) (by simp[results,Tryz.results140,go_sem]) rfl ⟨by rw[HN.out];rfl,?_⟩;exact(((Below.refl _ w).alloc (Nat.le_refl _) _).alloc (by simp) _)
 ·rw[if_neg (fun h=>h2 h.1)]at HN;have hp2:(s.size:Int)<(p:Int)+1+1:=by omega
  go_enter Tryz.func140,Tryz.ntmps140;go_wp2_with fail;refine(kindAt_any s p _ (HT.out.below ((((Below.refl _ w).alloc (Nat.le_refl _) _).alloc (by simp) _)) HT.out.1)).mono ?_;rintro e w' ⟨rfl,rfl⟩;rw[H0.out];go_wp2_with fail;refine bodyPost_ret (v:=.tuple #[.agg #[.int .i64 2,.string ⟨#[]⟩,.int .i64 0,.int .i64 p],.int .i64 2]) (by simp[results,Tryz.results140,go_sem]) rfl ⟨by rw[HN.out];rfl,?_⟩;exact(((Below.refl _ w).alloc (Nat.le_refl _) _).alloc (by simp) _)
set_option maxRecDepth 100000 in
set_option maxHeartbeats 1000000 in
theorem next_none_any (s:ByteArray) (p:Nat) (w:World) (hT:Tab w) (h3:kindAt s p≠3) (h4:kindAt s p≠4) (h7:kindAt s p≠7) (h6:kindAt s p≠6) (hl:p<s.size) (hs:s.size≤1000000) :
 Calls Tryz.prog 140 #[.string s,.int .i64 p] w (NextPost w (nextT s p)):=by
 have HT:=Lib.hid hT;have hn:nextT s p=⟨0,⟨#[]⟩,0,p,2⟩:=by unfold nextT;rw[if_neg h3,if_neg h4,if_neg h7,if_neg h6]
 have HN:=Lib.hid hn;have q3:(kindAt s p == 3)=false:=by simpa using h3
 have q4:(kindAt s p == 4)=false:=by simpa using h4
 have q7:(kindAt s p == 7)=false:=by simpa using h7
 have q6:(kindAt s p == 6)=false:=by simpa using h6
 clear hT hn h3 h4 h7 h6;go_enter Tryz.func140,Tryz.ntmps140;go_wp2_with fail;refine(kindAt_any s p _ (HT.out.below ((((Below.refl _ w).alloc (Nat.le_refl _) _).alloc (by simp) _)) HT.out.1)).mono ?_;rintro e w' ⟨rfl,rfl⟩;generalize kindAt s p=k at *;go_wp2_with fail;refine bodyPost_ret (v:=.tuple #[.agg #[.int .i64 0,.string ⟨#[]⟩,.int .i64 0,.int .i64 p],.int .i64 2]) (by simp[results,Tryz.results140,go_sem]) rfl ⟨by rw[HN.out];rfl,?_⟩;exact(((Below.refl _ w).alloc (Nat.le_refl _) _).alloc (by simp) _)
theorem numE_nonneg {s:ByteArray} {p n:Nat} (h:∀i,i<n→kindAt s (p+i)=4):∀k,k≤n→0≤numE s p k:=by
 intro k hk
 induction k with
 | zero=>simp[numE]
 | succ k ih =>
   have h1:=ih (by omega);obtain⟨hi,h2,_⟩:=kind_dig (h k (by omega));have:byteAt s (p+k)=(s[p+k].toNat:Int):=by simp[byteAt,hi]
   simp only[numE];split <;> omega
theorem wrap_u8 {x:Int} (h0:0≤x) (h1:x<256):IntKind.u8.wrap x=x:=by
 have e:IntKind.u8.wrap x=x % 256:=rfl;rw[e];omega
set_option maxRecDepth 100000 in
set_option maxHeartbeats 2000000 in
theorem next_num_any (s:ByteArray) (p:Nat) (w:World) (hT:Tab w) (h0:kindAt s p=4) (hl:p<s.size) (hs:s.size≤1000000) :
 Calls Tryz.prog 140 #[.string s,.int .i64 p] w (NextPost w (nextT s p)):=by
 have HT:=Lib.hid hT;have H0:=Lib.hid h0;have hn:nextT s p=(if 1099511627776<numE s p (runEnd digB s (p+1)-p) then⟨1,⟨#[]⟩,numE s p (runEnd digB s (p+1)-p),p,4⟩ else⟨1,s.extract p (runEnd digB s (p+1)),numE s p (runEnd digB s (p+1)-p),p,0⟩):=by unfold nextT;rw[if_neg (by omega),if_pos h0]
 have hE:=runEnd_bd digB s (p+1) hl;have hA:∀i,i<runEnd digB s (p+1)-p→kindAt s (p+i)=4:=fun i hi=>by
  by_cases e:i=0
  ·subst e;exact h0
  ·have:=runEnd_in (f:=digB) (s:=s) (j:=p+1) (i:=p+i) (by omega) (by omega);simpa[digB]using this
 have HN:=Lib.hid hn;obtain⟨E,hEe⟩:∃E,E=runEnd digB s (p+1):=⟨_,rfl⟩;rw[← hEe]at HN hE hA;have HE:=Lib.hid hEe;have HA:=Lib.hid hA;clear hT h0 hn hEe hA;go_enter Tryz.func140,Tryz.ntmps140;go_wp2_with fail;refine(kindAt_any s p _ (HT.out.below ((((Below.refl _ w).alloc (Nat.le_refl _) _).alloc (by simp) _)) HT.out.1)).mono ?_;rintro e w' ⟨rfl,rfl⟩;rw[H0.out];go_wp2_with fail
 go_loop [7] (fun e=>∃j:Nat,p+1≤j∧j≤s.size∧runEnd digB s j=E∧e=.int .i64 j) (fun e=>s.size-(intOf e).toNat)
 case atStart=>exact⟨p+1,Nat.le_refl _,hl,HE.out.symm,by go_num⟩
 case round =>
  obtain⟨j,hj1,hj2,hR,rfl⟩:=hrel;have HR:=Lib.hid hR;clear hR;cases hwb:digB (kindAt s j)
  ·have q1:(kindAt s j == 4)=false:=hwb;have hjE:E=j:=by rw[← HR.out,runEnd_stop hwb]
   subst hjE;clear hwb;have B0:Below w.heap.size w ((w.alloc (.cells #[.int .i64 0,.string ⟨#[]⟩,.int .i64 0,.int .i64 0] 186)).alloc (.cells #[.int .i64 1,.string ⟨#[]⟩,.int .i64 0,.int .i64 p] 186)):=((Below.refl _ w).alloc (Nat.le_refl _) _).alloc (by simp) _;have K0:=(Bk.new w 186 [.int .i64 0,.string ⟨#[]⟩,.int .i64 0,.int .i64 0]).alloc (.cells #[.int .i64 1,.string ⟨#[]⟩,.int .i64 0,.int .i64 p] 186);have K1:=Bk.new (w.alloc (.cells #[.int .i64 0,.string ⟨#[]⟩,.int .i64 0,.int .i64 0] 186)) 186 [.int .i64 1,.string ⟨#[]⟩,.int .i64 0,.int .i64 p];rw[World.size_alloc]at K1;have HB0:=Lib.hid B0;have HK0:=Lib.hid K0;have HK1:=Lib.hid K1;clear B0 K0 K1;go_wp2_with fail;refine(kindAt_any s E _ (HT.out.below ((((Below.refl _ w).alloc (Nat.le_refl _) _).alloc (by simp) _)) HT.out.1)).mono ?_;rintro e w' ⟨rfl,rfl⟩;generalize kindAt s E=kk at *;go_wp2_with fail;go_loopw [9] (fun i wr=>∃k:Nat,p≤k∧k≤E∧i=.int .i64 (k:Int)∧numE s p (k-p)≤1099511627776∧Bk wr w.heap.size 186 [.int .i64 0,.string ⟨#[]⟩,.int .i64 0,.int .i64 0]∧Bk wr (w.heap.size+1) 186 [.int .i64 1,.string ⟨#[]⟩,.int .i64 (numE s p (k-p)),.int .i64 p]∧Below w.heap.size w wr) (fun i _=>E-(intOf i).toNat)
   case atStart=>exact⟨p,Nat.le_refl _,by omega,rfl,by simp[numE],by exact HK0.out,by rw[Nat.sub_self];exact HK1.out,HB0.out⟩
   case round =>
    obtain⟨k,hkp,hk,rfl,hM,k0,k1,hb⟩:=hrel;clear HK0 HK1 HB0;have HB:=Lib.hid hb;have HK0:=Lib.hid k0;have HK1:=Lib.hid k1;have hN0:=numE_nonneg HA.out (k-p) (by omega);clear hb k0 k1;by_cases hlt:k<E
    ·have ek:p+(k-p)=k:=by omega
     have hk4:kindAt s k=4:=by have:=HA.out (k-p) (by omega);rwa [ek]at this
     obtain⟨hi,d0,d1⟩:=kind_dig hk4;clear hk4;have hby:byteAt s k=(s[k].toNat:Int):=by simp[byteAt,hi]
     have HS:Hid (numE s p (k+1-p)=numE s p (k-p)*10+((s[k].toNat:Int)-48)):=by
      show numE s p (k+1-p)=_;rw[show k+1-p=(k-p)+1 by omega];simp only[numE];rw[if_neg (by omega),ek,hby]
     have HSt:=Lib.hid (fun h=>numE_stays (s:=s) (p:=p) (k:=k+1-p) h (E-p) (by omega));clear hby ek;generalize numE s p (k-p)=N at *;have g1:IntKind.i64.wrap (N*10)=N*10:=IntWalk.i64_in _ (by omega);have hd0:(48:Int)≤(s[k].toNat:Int):=by omega
     have hd1:(s[k].toNat:Int)≤57:=by omega
     obtain⟨N2,hN2⟩:∃N2,N2=N*10+((s[k].toNat:Int)-48):=⟨_,rfl⟩;rw[← hN2]at HS;have hN2a:0≤N2:=by omega
     have hN2b:N2≤10995116277770:=by omega
     have g2:IntKind.i64.wrap (N*10+((s[k].toNat:Int)-48))=N2:=by rw[hN2];exact IntWalk.i64_in _ (by omega)
     have g3:IntKind.u8.wrap ((s[k].toNat:Int)-48)=(s[k].toNat:Int)-48:=wrap_u8 (by omega) (by omega);have g4:IntKind.i64.wrap ((s[k].toNat:Int)-48)=(s[k].toNat:Int)-48:=IntWalk.i64_in _ (by omega);have HN2:=Lib.hid hN2;clear hN2;have c1:wr.cell? ⟨w.heap.size+1,2,none⟩=some (.int .i64 N):=HK1.out.cell 2;have f1:wr.frozen? ⟨w.heap.size+1,2,none⟩=false:=HK1.out.frozen 2;have l1:w.heap.size+1<wr.heap.size:=HK1.out.lt;have hx0:(0:Int)≤(k:Int):=by omega
     have hx1:(k:Int)<(s.size:Int):=by omega
     go_wp2_with fail;go_still_tail 10,(by kernel_rfl);change wpList _ _ _ _ _ wr.drew;have HK0':=Lib.hid HK0.out.drew;have HK1':=Lib.hid (HK1.out.drew.set 2 (.int .i64 N2));have HK2':=Lib.hid HK1.out.drew;have HB':=Lib.hid HB.out.drew;clear c1 f1 l1 HK0 HK1 HB;generalize wr.drew=V at *;have c1:V.cell? ⟨w.heap.size+1,2,none⟩=some (.int .i64 N):=HK2'.out.cell 2;have f1:V.frozen? ⟨w.heap.size+1,2,none⟩=false:=HK2'.out.frozen 2;have l1:w.heap.size+1<V.heap.size:=HK2'.out.lt;have HK0'':=Lib.hid (HK0'.out.far (p:=⟨w.heap.size+1,2,none⟩) (by simp) (.int .i64 N2));have HB'':=Lib.hid (HB'.out.setCell (p:=⟨w.heap.size+1,2,none⟩) (by simp) (.int .i64 N2));simp only[List.set_cons_succ,List.set_cons_zero]at HK1';by_cases hbig:1099511627776<N2
     ·have HF:Hid (nextT s p=⟨1,⟨#[]⟩,N2,p,4⟩):=by
       show nextT s p=_;have:=HSt.out (by rw[HS.out];exact hbig);rw[HN.out,this,HS.out,if_pos hbig]
      have t0:V.cell? ⟨w.heap.size+1,0,none⟩=some (.int .i64 1):=HK2'.out.cell 0;have t1:V.cell? ⟨w.heap.size+1,1,none⟩=some (.string ⟨#[]⟩):=HK2'.out.cell 1;have t3:V.cell? ⟨w.heap.size+1,3,none⟩=some (.int .i64 p):=HK2'.out.cell 3;have r0:V.cell? ⟨w.heap.size,0,none⟩=some (.int .i64 0):=HK0'.out.cell 0;have r1:V.cell? ⟨w.heap.size,1,none⟩=some (.string ⟨#[]⟩):=HK0'.out.cell 1;have r2:V.cell? ⟨w.heap.size,2,none⟩=some (.int .i64 0):=HK0'.out.cell 2;have r3:V.cell? ⟨w.heap.size,3,none⟩=some (.int .i64 0):=HK0'.out.cell 3;have f0:V.frozen? ⟨w.heap.size,0,none⟩=false:=HK0'.out.frozen 0;have f1:V.frozen? ⟨w.heap.size,1,none⟩=false:=HK0'.out.frozen 1;have f2:V.frozen? ⟨w.heap.size,2,none⟩=false:=HK0'.out.frozen 2;have f3:V.frozen? ⟨w.heap.size,3,none⟩=false:=HK0'.out.frozen 3;have l0:w.heap.size<V.heap.size:=HK0'.out.lt;have HK3:=Lib.hid ((((HK0''.out.set 0 (.int .i64 1)).set 1 (.string ⟨#[]⟩)).set 2 (.int .i64 N2)).set 3 (.int .i64 p));simp only[List.set_cons_succ,List.set_cons_zero]at HK3;have HB3:Hid (Below w.heap.size w (((((V.setCell ⟨w.heap.size+1,2,none⟩ (.int .i64 N2)).setCell ⟨w.heap.size,0,none⟩ (.int .i64 1)).setCell ⟨w.heap.size,1,none⟩ (.string ⟨#[]⟩)).setCell ⟨w.heap.size,2,none⟩ (.int .i64 N2)).setCell ⟨w.heap.size,3,none⟩ (.int .i64 p))):=(((HB''.out.setCell (by simp) _).setCell (by simp) _).setCell (by simp) _).setCell (by simp) _;go_wp2_with fail;clear r0 r1 r2 r3 f0 f1 f2 f3 l0 t0 t1 t3;generalize(((((V.setCell ⟨w.heap.size+1,2,none⟩ (.int .i64 N2)).setCell ⟨w.heap.size,0,none⟩ (.int .i64 1)).setCell ⟨w.heap.size,1,none⟩ (.string ⟨#[]⟩)).setCell ⟨w.heap.size,2,none⟩ (.int .i64 N2)).setCell ⟨w.heap.size,3,none⟩ (.int .i64 p))=V3 at *;have r0:V3.cell? ⟨w.heap.size,0,none⟩=some (.int .i64 1):=HK3.out.cell 0;have r1:V3.cell? ⟨w.heap.size,1,none⟩=some (.string ⟨#[]⟩):=HK3.out.cell 1;have r2:V3.cell? ⟨w.heap.size,2,none⟩=some (.int .i64 N2):=HK3.out.cell 2;have r3:V3.cell? ⟨w.heap.size,3,none⟩=some (.int .i64 p):=HK3.out.cell 3;exact bodyPost_ret (v:=.tuple #[.agg #[.int .i64 1,.string ⟨#[]⟩,.int .i64 N2,.int .i64 p],.int .i64 4]) (by simp[results,Tryz.results140,go_sem,r0,r1,r2,r3]) rfl ⟨by rw[HF.out];rfl,HB3.out⟩
     ·clear HK0' HB';go_wp2_with fail;go_roundw
      case rel=>exact⟨k+1,by omega,by omega,by go_num,by rw[HS.out];omega,HK0''.out,by rw[HS.out];exact HK1'.out,HB''.out⟩
      case measure=>simp[intOf];omega
    ·obtain rfl:k=E:=by omega
     generalize numE s p (k-p)=N at *;have HF:Hid (nextT s p=⟨1,s.extract p k,N,p,0⟩):=by
      show nextT s p=_;rw[HN.out,if_neg (by omega)]
     have t0:wr.cell? ⟨w.heap.size+1,0,none⟩=some (.int .i64 1):=HK1.out.cell 0;have t1:wr.cell? ⟨w.heap.size+1,1,none⟩=some (.string ⟨#[]⟩):=HK1.out.cell 1;have t2:wr.cell? ⟨w.heap.size+1,2,none⟩=some (.int .i64 N):=HK1.out.cell 2;have t3:wr.cell? ⟨w.heap.size+1,3,none⟩=some (.int .i64 p):=HK1.out.cell 3;have tf:wr.frozen? ⟨w.heap.size+1,1,none⟩=false:=HK1.out.frozen 1;have l1:w.heap.size+1<wr.heap.size:=HK1.out.lt;have r0:wr.cell? ⟨w.heap.size,0,none⟩=some (.int .i64 0):=HK0.out.cell 0;have r1:wr.cell? ⟨w.heap.size,1,none⟩=some (.string ⟨#[]⟩):=HK0.out.cell 1;have r2:wr.cell? ⟨w.heap.size,2,none⟩=some (.int .i64 0):=HK0.out.cell 2;have r3:wr.cell? ⟨w.heap.size,3,none⟩=some (.int .i64 0):=HK0.out.cell 3;have f0:wr.frozen? ⟨w.heap.size,0,none⟩=false:=HK0.out.frozen 0;have f1:wr.frozen? ⟨w.heap.size,1,none⟩=false:=HK0.out.frozen 1;have f2:wr.frozen? ⟨w.heap.size,2,none⟩=false:=HK0.out.frozen 2;have f3:wr.frozen? ⟨w.heap.size,3,none⟩=false:=HK0.out.frozen 3;have l0:w.heap.size<wr.heap.size:=HK0.out.lt;go_wp2_with fail;have HK3:=Lib.hid (((((HK0.out.far (p:=⟨w.heap.size+1,1,none⟩) (by simp) (.string (s.extract p k))).set 0 (.int .i64 1)).set 1 (.string (s.extract p k))).set 2 (.int .i64 N)).set 3 (.int .i64 p));simp only[List.set_cons_succ,List.set_cons_zero]at HK3;have HB3:Hid (Below w.heap.size w (((((wr.setCell ⟨w.heap.size+1,1,none⟩ (.string (s.extract p k))).setCell ⟨w.heap.size,0,none⟩ (.int .i64 1)).setCell ⟨w.heap.size,1,none⟩ (.string (s.extract p k))).setCell ⟨w.heap.size,2,none⟩ (.int .i64 N)).setCell ⟨w.heap.size,3,none⟩ (.int .i64 p))):=((((HB.out.setCell (by simp) _).setCell (by simp) _).setCell (by simp) _).setCell (by simp) _).setCell (by simp) _;clear r0 r1 r2 r3 f0 f1 f2 f3 l0 t0 t1 t2 t3;generalize(((((wr.setCell ⟨w.heap.size+1,1,none⟩ (.string (s.extract p k))).setCell ⟨w.heap.size,0,none⟩ (.int .i64 1)).setCell ⟨w.heap.size,1,none⟩ (.string (s.extract p k))).setCell ⟨w.heap.size,2,none⟩ (.int .i64 N)).setCell ⟨w.heap.size,3,none⟩ (.int .i64 p))=V3 at *;have r0:V3.cell? ⟨w.heap.size,0,none⟩=some (.int .i64 1):=HK3.out.cell 0;have r1:V3.cell? ⟨w.heap.size,1,none⟩=some (.string (s.extract p k)):=HK3.out.cell 1;have r2:V3.cell? ⟨w.heap.size,2,none⟩=some (.int .i64 N):=HK3.out.cell 2;have r3:V3.cell? ⟨w.heap.size,3,none⟩=some (.int .i64 p):=HK3.out.cell 3;exact bodyPost_ret (v:=.tuple #[.agg #[.int .i64 1,.string (s.extract p k),.int .i64 N,.int .i64 p],.int .i64 0]) (by simp[results,Tryz.results140,go_sem,r0,r1,r2,r3]) rfl ⟨by rw[HF.out];rfl,HB3.out⟩
  ·have hk4:kindAt s j=4:=by simpa[digB]using hwb
   obtain⟨hlt,_,_⟩:=kind_dig hk4;have HR2:=Lib.hid ((runEnd_go hlt hwb).symm.trans HR.out);clear hwb;go_wp2_with fail;refine(kindAt_any s j _ (HT.out.below ((((Below.refl _ w).alloc (Nat.le_refl _) _).alloc (by simp) _)) HT.out.1)).mono ?_;rintro e w' ⟨rfl,rfl⟩;rw[hk4];go_wp2_with fail
   go_round
   case rel=>exact⟨j+1,by omega,by omega,HR2.out,by go_num⟩
   case measure=>simp[intOf];omega
theorem next_any (s:ByteArray) (p:Nat) (w:World) (hT:Tab w) (hl:p<s.size) (hs:s.size≤1000000):Calls Tryz.prog 140 #[.string s,.int .i64 p] w (NextPost w (nextT s p)):=by
 by_cases h3:kindAt s p=3
 ·exact next_word_any s p w hT h3 hl hs
 by_cases h4:kindAt s p=4
 ·exact next_num_any s p w hT h4 hl hs
 by_cases h7:kindAt s p=7
 ·exact next_sym_any s p w hT h7 hl hs
 by_cases h6:kindAt s p=6
 ·exact next_minus_any s p w hT h6 hl hs
 exact next_none_any s p w hT h3 h4 h7 h6 hl hs
theorem nextT_size {s:ByteArray} {p:Nat} (hp:p<s.size):p+(nextT s p).text.size≤s.size∧((nextT s p).err=0→0<(nextT s p).text.size):=by
 have hE:=runEnd_bd wordB s (p+1) hp;have hD:=runEnd_bd digB s (p+1) hp;have ex:∀q,p≤q→q≤s.size→(s.extract p q).size=q-p:=fun q _ h2=>by rw[ByteArray.size_extract];omega
 have e0:(⟨#[]⟩:ByteArray).size=0:=rfl;unfold nextT;split
 ·split
  ·exact⟨by show p+0≤s.size;omega,fun h=>by cases h⟩
  ·rw[ex _ (by omega) hE.2];omega
 split
 ·split
  ·exact⟨by show p+0≤s.size;omega,fun h=>by cases h⟩
  ·simp only[];rw[ex _ (by omega) hD.2];omega
 split
 ·rw[ex _ (by omega) (by omega)];omega
 split
 ·split
  ·rw[ex _ (by omega) (by omega)];omega
  ·exact⟨by show p+0≤s.size;omega,fun h=>by cases h⟩
 ·exact⟨by show p+0≤s.size;omega,fun h=>by cases h⟩
def toksFrom (s:ByteArray) (p:Nat):List Tok :=
 if h:p<s.size then
  if(nextT s p).err=0 then nextT s p :: (if p<skipS s (p+(nextT s p).text.size) then toksFrom s (skipS s (p+(nextT s p).text.size)) else[])
  else[nextT s p]
 else[]
termination_by s.size-p
decreasing_by omega
def sMin (s:ByteArray) (p:Nat):Nat:=min (skipS s p) s.size
theorem sMin_eq {s:ByteArray} {p:Nat} (hp:p≤s.size):sMin s p=skipS s p:=by
 have:=skipS_bd s p hp;unfold sMin;omega
theorem toks_lx (s:ByteArray) (p:Nat):Lx (sMin s) (nextT s) s.size p (toksFrom s p):=by
 induction hm:s.size-p using Nat.strongRecOn generalizing p with
 | _ m ih =>
   unfold toksFrom;split
   ·rename_i h
    split
    ·rename_i he
     obtain⟨h1,h2⟩:=nextT_size h;have h3:=skipS_bd s (p+(nextT s p).text.size) h1;have h4:=h2 he;rw[if_pos (by omega)];refine .step p _ h he ?_ ?_
     ·rw[sMin_eq h1];omega
     ·rw[sMin_eq h1];exact ih (s.size-skipS s (p+(nextT s p).text.size)) (by omega) _ rfl
    ·rename_i he
     exact .err p h he
   ·exact .done p (by omega)
theorem toks_len (s:ByteArray) (p:Nat):(toksFrom s p).length≤s.size-p:=by
 induction hm:s.size-p using Nat.strongRecOn generalizing p with
 | _ m ih =>
   unfold toksFrom;split
   ·rename_i h
    split
    ·rename_i he
     obtain⟨h1,h2⟩:=nextT_size h;have h3:=skipS_bd s (p+(nextT s p).text.size) h1;have h4:=h2 he;rw[if_pos (by omega)];have:=ih (s.size-skipS s (p+(nextT s p).text.size)) (by omega) _ rfl;simp only[List.length_cons];omega
    ·simp only[List.length_cons,List.length_nil];omega
   ·simp
def toks (s:ByteArray):List Tok:=toksFrom s (skipS s 0)
theorem tokens_all (s:ByteArray) (hs:s.size≤8192) (w:World) (hT:Tab w):Calls Tryz.prog 110 #[.string s] w (TokPost w (toks s)):=by
 refine tokens_any s hs (sMin s) (nextT s) (fun p w hp hT=>?_) (fun p w hp hT=>?_) (fun p=>?_) (fun p hp=>(nextT_size hp).1) (toks s) ?_ ?_ w hT
 ·rw[sMin_eq hp];exact skip_any s p w hp (by omega) hT
 ·exact next_any s p w hT hp (by omega)
 ·unfold sMin;omega
 ·have:=toks_len s (skipS s 0);show(toksFrom s (skipS s 0)).length≤8192;omega
 ·rw[sMin_eq (Nat.zero_le _)];exact toks_lx s _
theorem toksFrom_err {s:ByteArray} {p:Nat} (h:p<s.size) (he:(nextT s p).err≠0):toksFrom s p=[nextT s p]:=by
 unfold toksFrom;rw[dif_pos h,if_neg he]
theorem toksFrom_go {s:ByteArray} {p:Nat} (h:p<s.size) (he:(nextT s p).err=0):toksFrom s p=nextT s p :: toksFrom s (skipS s (p+(nextT s p).text.size)):=by
 conv=>lhs;unfold toksFrom
 rw[dif_pos h,if_pos he];obtain⟨h1,h2⟩:=nextT_size h;have h3:=skipS_bd s (p+(nextT s p).text.size) h1;have h4:=h2 he;rw[if_pos (by omega)]
theorem toksFrom_end {s:ByteArray} {p:Nat} (h:s.size≤p):toksFrom s p=[]:=by
 unfold toksFrom;rw[dif_neg (by omega)]
theorem new4 (w:World) (t:TypeId) (a b c d:Value):∀j u,([a,b,c,d]:List Value)[j]? = some u→(w.alloc (.cells #[a,b,c,d] t)).cell? ((⟨w.heap.size,0,none⟩:Addr).add j)=some u:=by
 intro j u hj
 match j,hj with
 | 0,hj=>simp at hj;subst hj;simp[Addr.add]
 | 1,hj=>simp at hj;subst hj;simp[Addr.add]
 | 2,hj=>simp at hj;subst hj;simp[Addr.add]
 | 3,hj=>simp at hj;subst hj;simp[Addr.add]
 | j+4,hj=>simp at hj
end Go.Proofs.YtocodlpgaamblaaGreatDoor
