/- The reference's index of a name, Rule, Item; Decimal. -/
import Derived.Test.YtocodlpgaamblaaGreatDoorL5
import Derived.Lib.ItoaMem
import Derived.Lib.ItoaLen
set_option linter.unusedVariables false
set_option linter.unusedSimpArgs false
set_option maxRecDepth 100000
set_option maxHeartbeats 1000000
open Go.RowKit
namespace Go.Proofs.YtocodlpgaamblaaGreatDoor
theorem rindex_any {w:World} {A:Option Addr} {n c:Nat} {l:List ByteArray} (s:ByteArray) (h:NmV w A n l):Calls Tryz.prog 127 #[.slice A n c,.string s] w fun e w'=>e=.returned (.int .i64 (ixOf l s))∧w'=w:=by
 have Hn:=iH h.len;have H:=iH h;have hs:=h.small;clear h;go_enter Tryz.func127,Tryz.ntmps127;go_wp2_with fail;go_loopw [5] (fun i wr=>∃k:Nat,k<=n∧i=.int .i64 k∧(∀j (hj:j<l.length),j<k->l[j]≠s)∧wr=w) (fun i _=>n-(intOf i).toNat)
 case atStart=>exact⟨0,Nat.zero_le _,rfl,fun _ _ h=>absurd h (by omega),rfl⟩
 case round =>
  obtain⟨k,hk,rfl,hR,rfl⟩:=hrel;have HR:=iH hR;clear hR;by_cases hlt:k<n
  ·have hkl:k<l.length:=by have:=Hn.out;omega
   obtain⟨b,off,rfl,hbb,c0⟩:=H.out.at_ k hkl;have e:=eqL l[k] s;have Hs:=iH (fun(hne:l[k]≠s) j (hj:j<l.length) (hjk:j<k+1)=>show l[j]≠s from by
    by_cases e:j=k
    ·subst e;exact hne
    ·exact HR.out j hj (by omega))
   have Hy:=iH (fun(he:l[k]=s)=>nameIx_some hkl HR.out he);generalize l[k]=y at *;clear hkl HR;by_cases hq:y=s
   ·have e2:(y.toList == s.toList)=true:=by rw[e];simp[hq]
    have Hz:=iH (Hy.out hq);clear hq Hs Hy e;go_wp2;go_ret;exact⟨by unfold ixOf;rw[Hz.out];rfl,rfl⟩
   ·have e2:(y.toList == s.toList)=false:=by rw[e];simp[hq]
    have Hz:=iH (Hs.out hq);clear hq Hs Hy e;go_wp2;go_roundw
    case rel=>exact⟨k+1,by omega,by go_num,Hz.out,trivial⟩
    case measure=>simp[intOf];omega
  ·have hkn:k=n:=by omega
   have HT:Hid (nameIx l s=none):=nameIx_none fun j hj=>HR.out j hj (by have:=Hn.out;omega)
   clear hkn HR;go_wp2;go_ret;exact⟨by unfold ixOf;rw[HT.out];rfl,rfl⟩
def FindQ (w:World) (l:List ByteArray) (s:ByteArray) (e:Ending) (w':World):Prop:=e=.returned (.tuple #[.int .i64 (((nameIx l s).getD 0:Nat):Int),.bool (nameIx l s).isSome])∧Below w.heap.size w w'
theorem rrule_any {w:World} {m:CatM} (h:RulesV w m.sr m.rules) (s:ByteArray):Calls Tryz.prog 67 #[m.val,.string s] w (FindQ w (m.rules.map RuM.name) s):=by
 obtain⟨its,rus,tbs,txs,si,sr,st,sx⟩:=m;dsimp only at *;obtain⟨A,n,c⟩:=sr;have Hn:=iH h.len;have hs:=h.small;dsimp only at Hn hs;have hb0:Below w.heap.size w (w.alloc (catSO si ⟨A,n,c⟩ st sx)):=(Below.refl _ _).alloc (Nat.le_refl _) _;have H:=iH (h.below hb0);have HX:=iH hb0;have e0:(w.alloc (catSO si ⟨A,n,c⟩ st sx)).cell? ⟨w.heap.size,1,none⟩=some (.slice A n c):=(Bk.new w 28 (catSL si ⟨A,n,c⟩ st sx)).cell 1;have hl:w.heap.size<(w.alloc (catSO si ⟨A,n,c⟩ st sx)).heap.size:=by simp
 clear h hb0;generalize hW:w.alloc (catSO si ⟨A,n,c⟩ st sx)=W at H HX e0 hl;have HL:Hid (rus.length=rus.length):=iH rfl;go_enter Tryz.func67,Tryz.ntmps67;go_wp2_with fail;(try rw[hW]);clear hW HL
 go_loop [6] (fun i=>∃k:Nat,k<=n∧i=.int .i64 k∧(∀j (hj:j<rus.length),j<k->rus[j].name≠s)) (fun i=>n-(intOf i).toNat)
 case atStart=>exact⟨0,Nat.zero_le _,rfl,fun _ _ h=>absurd h (by omega)⟩
 case round =>
  obtain⟨k,hk,rfl,hR⟩:=hrel;have HR:=iH hR;clear hR;by_cases hlt:k<n
  ·have hkl:k<rus.length:=by have:=Hn.out;omega
   obtain⟨b,off,hA,hbb,c0,-⟩:=H.out.at_ k hkl;dsimp only at hA;subst hA;have e:=eqL rus[k].name s;have Hs:=iH (fun(hne:rus[k].name≠s) j (hj:j<rus.length) (hjk:j<k+1)=>show rus[j].name≠s from by
    by_cases e:j=k
    ·subst e;exact hne
    ·exact HR.out j hj (by omega))
   have Hy:Hid (rus[k].name=s->nameIx (rus.map RuM.name) s=some k):=fun he=>nameIx_some (by simpa using hkl) (fun j hj hjk=>by
    have:=HR.out j (by simpa using hj) hjk
    simpa using this) (by simpa using he)
   generalize rus[k].name=y at *;clear hkl HR;by_cases hq:y=s
   ·have e2:(y.toList == s.toList)=true:=by rw[e];simp[hq]
    have Hz:=iH (Hy.out hq);clear hq Hs Hy e;go_wp2;exact bodyPost_ret (v:=.tuple #[.int .i64 (k:Int),.bool true]) (by simp[results,Tryz.results67,go_sem]) rfl ⟨by rw[Hz.out];rfl,HX.out⟩
   ·have e2:(y.toList == s.toList)=false:=by rw[e];simp[hq]
    have Hz:=iH (Hs.out hq);clear hq Hs Hy e;go_wp2
    go_round
    case rel=>exact⟨k+1,by omega,by go_num,Hz.out⟩
    case measure=>simp[intOf];omega
  ·have hkn:k=n:=by omega
   have HT:Hid (nameIx (rus.map RuM.name) s=none):=nameIx_none fun j hj=>by
    have:=HR.out j (by simpa using hj) (by have:=Hn.out;simp at hj;omega);simpa using this
   clear hkn HR;go_wp2;exact bodyPost_ret (v:=.tuple #[.int .i64 0,.bool false]) (by simp[results,Tryz.results67,go_sem]) rfl ⟨by rw[HT.out];rfl,HX.out⟩
theorem ritemN_any {w:World} {m:CatM} (h:ItsV w m.si m.items) (s:ByteArray):Calls Tryz.prog 69 #[m.val,.string s] w (FindQ w (m.items.map It.name) s):=by
 obtain⟨its,rus,tbs,txs,si,sr,st,sx⟩:=m;dsimp only at *;obtain⟨A,n,c⟩:=si;have Hn:=iH h.len;have hs:=h.small;dsimp only at Hn hs;have hb0:Below w.heap.size w (w.alloc (catSO ⟨A,n,c⟩ sr st sx)):=(Below.refl _ _).alloc (Nat.le_refl _) _;have H:=iH (h.below hb0);have HX:=iH hb0;have e0:(w.alloc (catSO ⟨A,n,c⟩ sr st sx)).cell? ⟨w.heap.size,0,none⟩=some (.slice A n c):=(Bk.new w 28 (catSL ⟨A,n,c⟩ sr st sx)).cell 0;have hl:w.heap.size<(w.alloc (catSO ⟨A,n,c⟩ sr st sx)).heap.size:=by simp
 clear h hb0;generalize hW:w.alloc (catSO ⟨A,n,c⟩ sr st sx)=W at H HX e0 hl;have HL:Hid (its.length=its.length):=iH rfl;go_enter Tryz.func69,Tryz.ntmps69;go_wp2_with fail;(try rw[hW]);clear hW HL
 go_loop [6] (fun i=>∃k:Nat,k<=n∧i=.int .i64 k∧(∀j (hj:j<its.length),j<k->its[j].name≠s)) (fun i=>n-(intOf i).toNat)
 case atStart=>exact⟨0,Nat.zero_le _,rfl,fun _ _ h=>absurd h (by omega)⟩
 case round =>
  obtain⟨k,hk,rfl,hR⟩:=hrel;have HR:=iH hR;clear hR;by_cases hlt:k<n
  ·have hkl:k<its.length:=by have:=Hn.out;omega
   obtain⟨b,off,hA,hbb,c0,-⟩:=H.out.at_ k hkl;dsimp only at hA;subst hA;have e:=eqL its[k].name s;have Hs:=iH (fun(hne:its[k].name≠s) j (hj:j<its.length) (hjk:j<k+1)=>show its[j].name≠s from by
    by_cases e:j=k
    ·subst e;exact hne
    ·exact HR.out j hj (by omega))
   have Hy:Hid (its[k].name=s->nameIx (its.map It.name) s=some k):=fun he=>nameIx_some (by simpa using hkl) (fun j hj hjk=>by
    have:=HR.out j (by simpa using hj) hjk
    simpa using this) (by simpa using he)
   generalize its[k].name=y at *;clear hkl HR;by_cases hq:y=s
   ·have e2:(y.toList == s.toList)=true:=by rw[e];simp[hq]
    have Hz:=iH (Hy.out hq);clear hq Hs Hy e;go_wp2;exact bodyPost_ret (v:=.tuple #[.int .i64 (k:Int),.bool true]) (by simp[results,Tryz.results69,go_sem]) rfl ⟨by rw[Hz.out];rfl,HX.out⟩
   ·have e2:(y.toList == s.toList)=false:=by rw[e];simp[hq]
    have Hz:=iH (Hs.out hq);clear hq Hs Hy e;go_wp2
    go_round
    case rel=>exact⟨k+1,by omega,by go_num,Hz.out⟩
    case measure=>simp[intOf];omega
  ·have hkn:k=n:=by omega
   have HT:Hid (nameIx (its.map It.name) s=none):=nameIx_none fun j hj=>by
    have:=HR.out j (by simpa using hj) (by have:=Hn.out;simp at hj;omega);simpa using this
   clear hkn HR;go_wp2;exact bodyPost_ret (v:=.tuple #[.int .i64 0,.bool false]) (by simp[results,Tryz.results69,go_sem]) rfl ⟨by rw[HT.out];rfl,HX.out⟩
def ddI (u:Nat):List UInt8:=if u=0 then[] else Lib.decDigits u
theorem ddI_step {u:Nat} (h:u≠0):ddI u=ddI (u / 10) ++ [UInt8.ofNat (48+u % 10)]:=by
 unfold ddI;rw[if_neg h,Lib.decDigits];by_cases h10:u<10
 ·rw[dif_pos h10,if_pos (by omega),Nat.mod_eq_of_lt h10];rfl
 ·rw[dif_neg h10,if_neg (by omega)]
theorem digit_cut:∀d:Fin 10,((⟨#[48,49,50,51,52,53,54,55,56,57]⟩:ByteArray).extract d.val (d.val+1)).data.toList=[UInt8.ofNat (48+d.val)]:=by decide +kernel
theorem bytes_of {s:ByteArray} {l:List UInt8} (h:s.data.toList=l):s=⟨l.toArray⟩:=bytes_inj (by simpa using h)
theorem dec_round {v d:Nat} (hv:v≠0) (hd:v % 10=d) (b:ByteArray) {L:List UInt8} (h:ddI v ++ b.data.toList=L):ddI (v / 10) ++ ((⟨#[48,49,50,51,52,53,54,55,56,57]⟩:ByteArray).extract d (d+1) ++ b).data.toList=L:=by
 have hd10:d<10:=by omega
 have e:=digit_cut ⟨d,hd10⟩;dsimp only at e;rw[ByteArray.data_append,Array.toList_append,e,<- h,ddI_step hv,hd,List.append_assoc]
theorem decimal_pos (n:Nat) (h0:1<=n) (h1:n<=9223372036854775807) (w:World):Calls Tryz.prog 48 #[.int .i64 n] w fun e w'=>e=.returned (.string ⟨(Lib.itoa n).toArray⟩)∧w=w':=by
 have hn0:(1:Int)<=(n:Int):=by omega
 have hn1:(n:Int)<=9223372036854775807:=by omega
 have e0:((n:Int) == 0)=false:=by simp;omega
 have HR:Hid (Lib.itoa n=ddI n):=iH (by rw[Lib.itoa_nonneg];unfold ddI;rw[if_neg (by omega)]);have HL:=iH (Lib.itoa_length_le n (by omega) (by omega));generalize Lib.itoa n=R at *;go_enter Tryz.func48,Tryz.ntmps48;go_wp2_with fail
 go_loop [4,5] (fun s k=>∃(b:ByteArray) (q:Nat),s=.string b∧k=.int .i64 q∧q<=9223372036854775807∧ddI q ++ b.data.toList=R) (fun _ k=>(intOf k).toNat)
 case atStart=>exact⟨⟨#[]⟩,n,rfl,rfl,h1,by rw[HR.out];simp⟩
 case round =>
  obtain⟨b,q,rfl,rfl,hq,hR⟩:=hrel;by_cases hz:q=0
  ·subst hz;have HB:Hid (b=⟨R.toArray⟩):=iH (bytes_of (by rw[<- hR];simp[ddI]));clear hR;go_wp2;go_ret;exact⟨by rw[HB.out];rfl,rfl⟩
  ·have q0:(1:Int)<=(q:Int):=by omega
   have q1:(q:Int)<=9223372036854775807:=by omega
   have e1:((q:Int) == 0)=false:=by simp;omega
   have e2:((q:Int) != 0)=true:=by simp;omega
   obtain⟨d,hd⟩:∃d:Nat,(q:Int) % 10=d:=⟨((q:Int) % 10).toNat,by omega⟩;have d0:(0:Int)<=(d:Int):=by omega
   have d1:(d:Int)<10:=by omega
   have hd1:d<10:=by omega
   have Hq:Hid ((((q / 10:Nat):Int))=(q:Int) / 10):=by show _=_;omega
   have HD:=iH (dec_round hz (d:=d) (by omega) b hR);have hbs:b.size<=21:=by
    have h1:=congrArg List.length hR;have h2:=HL.out;simp only[List.length_append,Array.length_toList]at h1;show b.data.size<=21;omega
   clear hR hz;go_wp2
   go_round
   case rel=>exact⟨_,q / 10,rfl,by go_num,by omega,HD.out⟩
   case measure=>simp[intOf];omega
theorem decimal_neg (n:Nat) (h0:1<=n) (h1:n<=9223372036854775808) (w:World):Calls Tryz.prog 48 #[.int .i64 (-(n:Int))] w fun e w'=>e=.returned (.string ⟨(Lib.itoa (-(n:Int))).toArray⟩)∧w=w':=by
 have HR:Hid (Lib.itoa (-(n:Int))=45 :: ddI n):=iH (by rw[Lib.itoa_neg n h0];unfold ddI;rw[if_neg (by omega)]);have HL:=iH (Lib.itoa_length_le (-(n:Int)) (by omega) (by omega));generalize Lib.itoa (-(n:Int))=R at *;obtain⟨z,hz⟩:∃z:Int,z = -(n:Int):=⟨_,rfl⟩;rw[<- hz];have hn0:z<0:=by omega
 have hn1 : -9223372036854775808<=z:=by omega
 have e0:(z == 0)=false:=by simp;omega
 have HZ:=iH hz;clear hz;go_enter Tryz.func48,Tryz.ntmps48;go_wp2_with fail
 go_loop [4,5] (fun s k=>∃(b:ByteArray) (q:Int) (u:Nat),s=.string b∧k=.int .i64 q∧q = -(u:Int)∧u<=9223372036854775808∧45 :: (ddI u ++ b.data.toList)=R) (fun _ k=>(intOf k).natAbs)
 case atStart=>exact⟨⟨#[]⟩,z,n,rfl,rfl,HZ.out,h1,by rw[HR.out];simp⟩
 case round =>
  obtain⟨b,q,u,rfl,rfl,hqu,hq,hR⟩:=hrel;have hbs:b.size<=21:=by
   have h1:=congrArg List.length hR;have h2:=HL.out;simp only[List.length_cons,List.length_append,Array.length_toList]at h1;show b.data.size<=21;omega
  by_cases hz:u=0
  ·subst hz;have hq0:q=0:=by omega
   subst hq0;have HB:Hid ((⟨#[45]⟩:ByteArray) ++ b=⟨R.toArray⟩):=iH (bytes_of (by rw[<- hR];simp[ddI,ByteArray.data_append]));clear hR hqu;go_wp2;go_ret;exact⟨by rw[HB.out];rfl,rfl⟩
  ·have q0:q<0:=by omega
   have q1 : -9223372036854775808<=q:=by omega
   have e1:(q == 0)=false:=by simp;omega
   have e2:(q != 0)=true:=by simp;omega
   obtain⟨d,hd⟩:∃d:Nat,u % 10=d:=⟨_,rfl⟩;have HD:=iH (dec_round hz hd b (L:=ddI u ++ b.data.toList) rfl);have HU:=iH hqu;have HRr:=iH hR;have hm:(u:Int) % 10=(d:Int):=by omega
   have d1:(d:Int)<10:=by omega
   clear hR hz hd;by_cases hd0:d=0
   ·subst hd0;go_wp2
    go_round
    case rel=>exact⟨_,-((u / 10:Nat):Int),u / 10,rfl,by go_num,rfl,by omega,by rw[<- HRr.out,<- HD.out]⟩
    case measure=>simp[intOf];omega
   ·have d0:(1:Int)<=(d:Int):=by omega
    go_wp2
    go_round
    case rel=>exact⟨_,-((u / 10:Nat):Int),u / 10,rfl,by go_num,rfl,by omega,by rw[<- HRr.out,<- HD.out]⟩
    case measure=>simp[intOf];omega
theorem decimal_any (n:Int) (hn:In64 n) (w:World):Calls Tryz.prog 48 #[.int .i64 n] w fun e w'=>e=.returned (.string ⟨(Lib.itoa n).toArray⟩)∧w=w':=by
 by_cases h0:n=0
 ·subst h0;have HR:Hid ((⟨(Lib.itoa 0).toArray⟩:ByteArray)=⟨#[48]⟩):=iH (by
   have:Lib.itoa 0=[48]:=by
    show Lib.itoa ((0:Nat):Int)=_
    rw[Lib.itoa_nonneg,Lib.decDigits_one (by decide)];rfl
   rw[this])
  generalize(⟨(Lib.itoa 0).toArray⟩:ByteArray)=R at *;go_enter Tryz.func48,Tryz.ntmps48;go_wp2;go_ret;exact⟨by rw[HR.out];rfl,rfl⟩
 ·rcases Int.lt_or_gt_of_ne h0 with h | h
  ·obtain⟨u,rfl⟩:∃u:Nat,n = -(u:Int):=⟨n.natAbs,by omega⟩;exact decimal_neg u (by omega) (by have:=hn.1;omega) w
  ·obtain⟨u,rfl⟩:∃u:Nat,n=(u:Int):=⟨n.natAbs,by omega⟩;exact decimal_pos u (by omega) (by have:=hn.2;omega) w
end Go.Proofs.YtocodlpgaamblaaGreatDoor
