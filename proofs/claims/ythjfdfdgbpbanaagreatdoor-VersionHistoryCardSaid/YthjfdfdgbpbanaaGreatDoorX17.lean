/- The reference's both. The reference's Item and alike. The plain law of New: names that differ, renames and their marks. -/
import Derived.Test.YthjfdfdgbpbanaaGreatDoorX5
import Derived.Test.YthjfdfdgbpbanaaGreatDoorX11
import Derived.Test.YthjfdfdgbpbanaaGreatDoorX15
set_option linter.unusedVariables false
set_option linter.unusedSimpArgs false
set_option maxRecDepth 100000
set_option maxHeartbeats 1000000
open Go.RowKit
namespace Go.Proofs.YthjfdfdgbpbanaaGreatDoor
theorem rboth_cat {w:World} {m m':CatM} (h:m.Ok w) (h':m'.Ok w):Calls Tryz.prog 46 #[m.val,m'.val] w fun e w'=>e=.returned (.int .i64 (codeBoth m m'))∧Below w.heap.size w w':=by
 have HV:Hid (codeBoth m m'=if codeC m≠0 then codeC m else codeC m'):=rfl;generalize codeBoth m m'=R at *;have L0:catSL m.si m.sr m.st m.sx=catSL m.si m.sr m.st m.sx:=rfl;have hb0:Below w.heap.size w ((w.alloc (catSO m.si m.sr m.st m.sx)).alloc (catSO m'.si m'.sr m'.st m'.sx)):=((Below.refl _ _).alloc (Nat.le_refl _) _).alloc (by simp) _;have K0:=iH (rvalid_cat (h.below hb0));have H':=iH h';have HC:Hid (∃q,codeC m=q):=⟨_,rfl⟩;generalize codeC m=q at *;clear h h' HC L0;go_enter Tryz.func46,Tryz.ntmps46;go_wp2_with fail;(with_reducible refine K0.out.mono ?_);rintro e w1 ⟨rfl,hb1⟩;have kx:=Bk.new (w.alloc (catSO m.si m.sr m.st m.sx)) 28 (catSL m'.si m'.sr m'.st m'.sx);rw[World.size_alloc]at kx;have k1:Bk w1 (w.heap.size+1) 28 (catSL m'.si m'.sr m'.st m'.sx):=kx.below hb1 (by simp);have G1:Below w.heap.size w w1:=hb0.trans (hb1.mono (by simp;omega));have s0:=k1.k0;have s1:=k1.k1;have s2:=k1.k2;have s3:=k1.k3;clear kx hb1 hb0 K0;by_cases hq:q=0
 ·subst hq;go_wp2_with fail;(with_reducible refine(rvalid_cat (H'.out.below G1)).mono ?_);rintro e w2 ⟨rfl,hb2⟩;go_wp2;go_ret;exact⟨by rw[HV.out];rfl,G1.trans (hb2.mono G1.size)⟩
 ·have e1:(q != 0)=true:=by simpa using hq
  have HQ:Hid (R=q):=by show R=q;rw[HV.out,if_pos hq]
  clear hq HV;go_wp2;go_ret;exact⟨by rw[HQ.out];rfl,G1⟩
def fstTo (l:List It) (s:ByteArray):Nat->Option Nat
 | 0=>none
 | k + 1 => match fstTo l s k with
   | some i=>some i
   | none=>if(itAt l k).name=s then some k else none
theorem fstTo_stays {l:List It} {s:ByteArray} {k i:Nat} (h:fstTo l s k=some i):∀m,k<=m->fstTo l s m=some i:=by
 intro m hm
 induction m with
 | zero => obtain rfl : k = 0 := by omega
           exact h
 | succ m ih =>
   by_cases e:k=m+1
   ·subst e;exact h
   ·simp only[fstTo,ih (by omega)]
def fstI (l:List It) (s:ByteArray):Option Nat:=fstTo l s l.length
def ItemPost (w:World) (l:List It) (s:ByteArray) (e:Ending) (w':World):Prop :=
 e=.returned (.tuple #[.int .i64 (((fstI l s).getD 0:Nat):Int),.bool (fstI l s).isSome])∧Below w.heap.size w w'
theorem ritem_any {w:World} {i r t x:Sl} {l:List It} (h:ItsR w i.A i.n l) (s:ByteArray):Calls Tryz.prog 47 #[catS i r t x,.string s] w (ItemPost w l s):=by
 obtain⟨A,n,c⟩:=i;dsimp only at *;have Hn:=iH h.len;have hs:=h.small;have hb0:Below w.heap.size w (w.alloc (catSO ⟨A,n,c⟩ r t x)):=(Below.refl _ _).alloc (Nat.le_refl _) _;have H:=iH (h.below hb0);have HX:=iH hb0;have e0:(w.alloc (catSO ⟨A,n,c⟩ r t x)).cell? ⟨w.heap.size,0,none⟩=some (.slice A n c):=(Bk.new w 28 (catSL ⟨A,n,c⟩ r t x)).cell 0;have hl:w.heap.size<(w.alloc (catSO ⟨A,n,c⟩ r t x)).heap.size:=by simp
 clear h hb0;generalize hW:w.alloc (catSO ⟨A,n,c⟩ r t x)=W at H HX e0 hl;go_enter Tryz.func47,Tryz.ntmps47;go_wp2_with fail;(try rw[hW]);clear hW
 go_loop [6] (fun i=>∃k:Nat,k<=n∧i=.int .i64 k∧fstTo l s k=none) (fun i=>n-(intOf i).toNat)
 case atStart=>exact⟨0,Nat.zero_le _,rfl,rfl⟩
 case round =>
  obtain⟨k,hk,rfl,hR⟩:=hrel;have HR:=iH hR;clear hR;by_cases hlt:k<n
  ·obtain⟨b,off,rfl,hbb,c0,_⟩:=H.out.at_ k hlt;have Hs:Hid (¬ (itAt l k).name=s->fstTo l s (k+1)=none):=fun h=>by simp only[fstTo,HR.out,if_neg h]
   have Hy:Hid ((itAt l k).name=s->fstI l s=some k):=fun h=>fstTo_stays (k:=k+1) (by simp only[fstTo,HR.out,if_pos h]) _ (by have:=Hn.out;omega)
   generalize(itAt l k).name=y at *;by_cases hq:y=s
   ·have Hq:=iH (Hy.out hq);subst hq;clear Hy Hs;go_wp2;exact bodyPost_ret (v:=.tuple #[.int .i64 (k:Int),.bool true]) (by simp[results,Tryz.results47,go_sem]) rfl ⟨by rw[Hq.out];rfl,HX.out⟩
   ·have Hq:=iH (Hs.out hq);have q2:(y.toList == s.toList)=false:=by
     simp only[beq_eq_false_iff_ne,ne_eq,ByteArray.toList_eq];exact fun e=>hq (bytes_eq e)
    have q1:(y == s)=false:=by rw[beq_toListBytes];exact q2
    clear Hy Hs;go_wp2
    go_round
    case rel=>exact⟨k+1,by omega,by go_num,Hq.out⟩
    case measure=>simp[intOf];omega
  ·have HF:Hid (fstI l s=none):=by show fstI l s=none;unfold fstI;rw[show l.length=k by have:=Hn.out;omega];exact HR.out
   go_wp2;exact bodyPost_ret (v:=.tuple #[.int .i64 0,.bool false]) (by simp[results,Tryz.results47,go_sem]) rfl ⟨by rw[HF.out];rfl,HX.out⟩
theorem ralike_any (a b:It) (w:World):Calls Tryz.prog 49 #[a.val,b.val] w fun e w'=>e=.returned (.bool (alikeB a b))∧Below w.heap.size w w':=by
 have hb0:Below w.heap.size w ((w.alloc (.cells #[.string a.name,.bool a.object,.bool a.mixed,.bool a.coin,.int .i64 a.wear,.int .i64 a.bnd,.int .i64 a.level] 89)).alloc (.cells #[.string b.name,.bool b.object,.bool b.mixed,.bool b.coin,.int .i64 b.wear,.int .i64 b.bnd,.int .i64 b.level] 89)):=((Below.refl _ _).alloc (Nat.le_refl _) _).alloc (by simp) _;obtain⟨n1,o1,m1,c1,w1,b1,l1⟩:=a;obtain⟨n2,o2,m2,c2,w2,b2,l2⟩:=b;have HA:Hid (alikeB ⟨n1,o1,m1,c1,w1,b1,l1⟩ ⟨n2,o2,m2,c2,w2,b2,l2⟩=((o1 == o2) && (m1 == m2) && (c1 == c2))):=rfl;dsimp only at hb0;cases h1:(o1 == o2)
 ·rw[h1]at HA;go_enter Tryz.func49,Tryz.ntmps49;go_wp2;go_ret;exact⟨by rw[HA.out];rfl,hb0⟩
 ·cases h2:(m1 == m2)
  ·rw[h1,h2]at HA;go_enter Tryz.func49,Tryz.ntmps49;go_wp2;go_ret;exact⟨by rw[HA.out];rfl,hb0⟩
  ·rw[h1,h2]at HA;go_enter Tryz.func49,Tryz.ntmps49;go_wp2;go_ret;exact⟨by rw[HA.out];rfl,hb0⟩
def Dist (l:List It):Prop:=∀i j,i<l.length->j<l.length->(itAt l i).name=(itAt l j).name->i=j
theorem diffTo_spec {l:List ByteArray}:∀ {k:Nat},diffTo l k=true->∀i j,i<j->j<k->l[i]?.getD ⟨#[]⟩≠l[j]?.getD ⟨#[]⟩∨l.length<=i:=by
 intro k
 induction k with
 | zero=>intro _ i j _ hj;omega
 | succ k ih =>
   intro h i j hij hj;simp only[diffTo,Bool.and_eq_true,Bool.not_eq_true',hasS,List.any_eq_false,decide_eq_true_eq]at h;by_cases e:j=k
   ·subst e;by_cases hl:i<l.length
    ·left;intro he;have hm:l[i]∈l.take j:=by
      rw[List.mem_take_iff_getElem];exact⟨i,by omega,rfl⟩
     have:=h.2 _ hm;simp[hl]at he;exact this he.symm
    ·right;omega
   ·exact ih h.1 i j hij (by omega)
theorem dist_of {l:List It} (h:diffB (l.map It.name)=true):Dist l:=by
 intro i j hi hj he;have key:∀i j,i<j->j<l.length->(itAt l i).name≠(itAt l j).name:=fun i j hij hj=>by
  have:=diffTo_spec h i j hij (by simpa using hj);rcases this with h1|h1
  ·simpa[itAt,show i<l.length by omega,hj]using h1
  ·simp at h1;omega
 rcases Nat.lt_trichotomy i j with h1|h1|h1
 ·exact absurd he (key i j h1 hj)
 ·exact h1
 ·exact absurd he.symm (key j i h1 hi)
theorem idx_some {l:List It} (hd:Dist l) {s:ByteArray}:∀ {k a:Nat},k<=l.length->a<k->(itAt l a).name=s->idxTo l k s=some a:=by
 intro k
 induction k with
 | zero=>intro a _ h;omega
 | succ k ih =>
   intro a hk ha hs;simp only[idxTo];by_cases e:s=(itAt l k).name
   ·rw[if_pos e];have:=hd a k (by omega) (by omega) (by rw[hs,e]);rw[this]
   ·rw[if_neg e];have hne:a≠k:=fun e2=>e (by rw[<- e2,hs])
    exact ih (by omega) (by omega) hs
theorem fst_lt {l:List It} {s:ByteArray}:∀ {k a:Nat},fstTo l s k=some a->a<k∧(itAt l a).name=s:=by
 intro k
 induction k with
 | zero=>intro a h;cases h
 | succ k ih =>
   intro a h;simp only[fstTo]at h;split at h
   ·rename_i i hi
    cases h;have:=ih hi;exact⟨by omega,this.2⟩
   ·split at h
    ·rename_i hq
     cases h;exact⟨by omega,hq⟩
    ·cases h
theorem fst_none {l:List It} {s:ByteArray}:∀ {k:Nat},fstTo l s k=none->∀a,a<k->(itAt l a).name≠s:=by
 intro k
 induction k with
 | zero=>intro _ a h;omega
 | succ k ih =>
   intro h a ha;simp only[fstTo]at h;split at h
   ·cases h
   ·rename_i hn
    split at h
    ·cases h
    ·rename_i hq
     by_cases e:a=k
     ·rw[e];exact hq
     ·exact ih hn a (by omega)
theorem fst_eq {l:List It} (hd:Dist l) (s:ByteArray):fstI l s=idxTo l l.length s:=by
 unfold fstI;cases h:fstTo l s l.length with
 | some a =>
   have:=fst_lt h;exact(idx_some hd (Nat.le_refl _) this.1 this.2).symm
 | none =>
   cases h2:idxTo l l.length s with
   | none=>rfl
   | some a =>
     have:=idxTo_lt h2;exact absurd this.2 (fst_none h a this.1)
def markTo (rs:List Ren) (s:ByteArray):Nat->Bool
 | 0=>false
 | k+1=>markTo rs s k || decide ((renAt rs k).old=s)
def xTo (lo ln:List It) (rs:List Ren) (i:Nat):Nat->Tr
 | 0=>keepT ln (itAt lo i)
 | k+1=>if(renAt rs k).old=(itAt lo i).name then((((fstI ln (renAt rs k).new).getD 0:Nat):Int),(renAt rs k).num,(renAt rs k).den) else xTo lo ln rs i k
theorem renE_prev {lo ln:List It} {rs:List Ren} {k:Nat} (h:renE lo ln rs (k+1)=0):renE lo ln rs k=0∧renErr lo ln (renTo lo ln rs k).1 (renAt rs k)=0:=by
 simp only[renE]at h;by_cases e:renE lo ln rs k≠0
 ·rw[if_pos e]at h;exact absurd h e
 ·rw[if_neg e]at h;exact⟨by omega,h⟩
theorem renErr_zero {lo ln:List It} {ren:List Bool} {r:Ren} (h:renErr lo ln ren r=0):∃a b,idxTo lo lo.length r.old=some a∧idxTo ln ln.length r.new=some b:=by
 unfold renErr at h;split at h
 ·rename_i a b h1 h2
  exact⟨a,b,h1,h2⟩
 ·omega
theorem ren_marks {lo ln:List It} (hd:Dist lo) (hn:Dist ln) {rs:List Ren}:∀ {k:Nat},renE lo ln rs k=0->∀i,i<lo.length ->
 bAt (renTo lo ln rs k).1 i=markTo rs (itAt lo i).name k∧(markTo rs (itAt lo i).name k=true->(renTo lo ln rs k).2[i]?.getD (0,0,0)=xTo lo ln rs i k)∧(markTo rs (itAt lo i).name k=false->xTo lo ln rs i k=keepT ln (itAt lo i)):=by
 intro k
 induction k with
 | zero=>intro _ i hi;simp[renTo,bAt,markTo,xTo,hi]
 | succ k ih =>
   intro h i hi;obtain⟨h1,h2⟩:=renE_prev h;obtain⟨i1,i2,i3⟩:=ih h1 i hi;obtain⟨a,b,ha,hb⟩:=renErr_zero h2;have hl:=renTo_len lo ln rs k;have hst:renTo lo ln rs (k+1)=((renTo lo ln rs k).1.set a true,(renTo lo ln rs k).2.set a ((b:Int),(renAt rs k).num,(renAt rs k).den)):=by
    simp only[renTo,renSt,ha,hb]
   have hfb:fstI ln (renAt rs k).new=some b:=by rw[fst_eq hn,hb]
   obtain⟨ha1,ha2⟩:=idxTo_lt ha;rw[hst];by_cases e:(renAt rs k).old=(itAt lo i).name
   ·have hai:a=i:=hd a i ha1 hi (by rw[ha2,e]);subst hai;refine⟨?_,fun _=>?_,fun hm=>?_⟩
    ·simp[bAt,markTo,e,hl.1,ha1]
    ·simp[xTo,e,hl.2,ha1,hfb]
    ·simp[markTo,e]at hm
   ·have hai:a≠i:=fun e2=>e (by rw[<- e2,ha2])
    have e1:bAt ((renTo lo ln rs k).1.set a true) i=bAt (renTo lo ln rs k).1 i:=by simp[bAt,hai]
    have e2:((renTo lo ln rs k).2.set a ((b:Int),(renAt rs k).num,(renAt rs k).den))[i]? = (renTo lo ln rs k).2[i]?:=by simp[hai]
    refine⟨?_,fun hm=>?_,fun hm=>?_⟩
    ·rw[e1,i1];simp[markTo,e]
    ·dsimp only;rw[e2];simp only[xTo,if_neg e];exact i2 (by simpa[markTo,e]using hm)
    ·simp only[xTo,if_neg e];exact i3 (by simpa[markTo,e]using hm)
theorem end_x {lo ln:List It} (hd:Dist lo) (hn:Dist ln) {rs:List Ren} (h:renE lo ln rs rs.length=0) (i:Nat) (hi:i<lo.length) :
 endAt lo ln (renTo lo ln rs rs.length) i=xTo lo ln rs i rs.length∧bAt (renTo lo ln rs rs.length).1 i=markTo rs (itAt lo i).name rs.length:=by
 obtain⟨h1,h2,h3⟩:=ren_marks hd hn h i hi;refine⟨?_,h1⟩;unfold endAt;rw[h1];cases hm:markTo rs (itAt lo i).name rs.length
 ·rw[if_neg (by simp)];exact(h3 hm).symm
 ·rw[if_pos rfl];exact h2 hm
end Go.Proofs.YthjfdfdgbpbanaaGreatDoor
