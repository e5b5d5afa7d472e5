/- Contracts of Around and Pick: what they return; the world is left alone. The contract of SameInts. The contract of areUnits. Plain laws of counterparts: what is valid, what becomes of a bag, and what is left of it. The contract of tos: a copy of counterparts. The contract of Held: numbers of units made from numbers. The contract of Tos: counterparts made from numbers. The contracts of version.valid and of slices.Clone on numbers. Plain laws for Convert's walk, blocks that are known whole, and the contract of Convert where it refuses its arguments. The contract of Convert. Plain laws for VersionConserves. Rows for VersionConserves' first loop; the contract of Convert at small numbers. The table of the kinds of bytes, and the contract of lexer.kindAt. Contracts of lexer.skip and lexer.next where a word or nothing stands. -/
import Derived.Test.YtiecjoijnkghbaaGreatDoorProg
import Derived.WalkKit
import Derived.WalkSpells
import Derived.WalkLawsBesides
import Derived.Lib.Hide
import Derived.BigQuiet
import Derived.Maps.AppendAt
import Derived.StillTailTactics
import Derived.Deep.QuietTactic
import Derived.Outline
import Derived.Deep.RegionHeld3
import Derived.Deep.AppendLies
import Derived.Laws.OwnMore
import Derived.Carry
import Derived.Deep.DeepCutAuto
import Derived.Deep.RegionWith
import Derived.Deep.CutBlock
import Derived.Laws.StructEq
set_option linter.unusedVariables false
set_option linter.unusedSimpArgs false
set_option maxRecDepth 100000
set_option maxHeartbeats 2000000
open Go.RowKit
namespace Go.Proofs.YtiecjoijnkghbaaGreatDoor
theorem iH{p:Prop}(h:p):Hid p:=Lib.hid h
theorem Pa{α:Type}{l:List α}{i:Nat}{a:α}:l.toArray.setIfInBounds i a=(l.set i a).toArray:=by simp
theorem Pb{α:Type}{a b:α}{l:List α}:(a::l).set 0 b=b::l:=rfl
theorem Pc{α:Type}{a b:α}{l:List α}{i:Nat}:(a::l).set (i+1) b=a::l.set i b:=rfl
section
set_option linter.unusedVariables false
set_option linter.unusedSimpArgs false
def Row (w:World) (B:Nat) (A:Option Addr) (xs:List Value):Prop :=
 xs=[]∨∃b off,A=some ⟨b,off,none⟩∧b<B∧∀j u,xs[j]? = some u->w.cell? ⟨b,off+j,none⟩=some u
theorem Row.keep {w w':World} {B:Nat} {A:Option Addr} {xs:List Value} (h:Row w B A xs) (hk:∀p:Addr,p.block<B->w'.cell? p=w.cell? p):Row w' B A xs:=by
 rcases h with rfl|⟨b,off,rfl,hb,hc⟩
 ·exact .inl rfl
 ·exact .inr ⟨b,off,rfl,hb,fun j u hu=>(hk _ hb).trans (hc j u hu)⟩
theorem Row.below {w w':World} {B:Nat} {A:Option Addr} {xs:List Value} (h:Row w B A xs) (hb:Below B w w'):Row w' B A xs:=h.keep fun _ hp=>hb.cell hp
theorem Row.more {w:World} {B B':Nat} {A:Option Addr} {xs:List Value} (h:Row w B A xs) (hB:B<=B'):Row w B' A xs:=by
 rcases h with rfl|⟨b,off,rfl,hb,hc⟩
 ·exact .inl rfl
 ·exact .inr ⟨b,off,rfl,by omega,hc⟩
theorem Row.at_ {w:World} {B:Nat} {A:Option Addr} {xs:List Value} (h:Row w B A xs) (k:Nat) (hk:k<xs.length) :
 ∃b off,A=some ⟨b,off,none⟩∧b<B∧∀j u,xs[j]? = some u->w.cell? ⟨b,off+j,none⟩=some u:=by
 rcases h with rfl|h
 ·simp at hk
 ·exact h
def ints (zs:List Int):List Value:=zs.map (Value.int .i64)
theorem ints_at (zs:List Int) (k:Nat) (hk:k<zs.length):(ints zs)[k]? = some (.int .i64 (zs[k]?.getD 0)):=by
 simp[ints,hk]
@[simp] theorem ints_length (zs : List Int) : (ints zs).length = zs.length := by simp [ints]
def Wf (zs:List Int):Prop:=∀z∈zs,-9223372036854775808<=z∧z<=9223372036854775807
theorem Wf.at_ {zs:List Int} (h:Wf zs) (k:Nat) : -9223372036854775808<=zs[k]?.getD 0∧zs[k]?.getD 0<=9223372036854775807:=by
 by_cases hk:k<zs.length
 ·simpa[hk]using h _ (List.getElem_mem hk)
 ·simp[List.getElem?_eq_none (Nat.le_of_not_lt hk)]
def around (n m:Int):Int:=(if n<0 then -(n+1) else n) % m
theorem around_neg (n m:Int) (hn:n<0) : -(n+1).tmod m=around n m:=by
 rw[<- Int.neg_tmod,Int.tmod_eq_emod_of_nonneg (by omega),around,if_pos hn]
theorem around_pos (n m:Int) (hn:¬ n<0):n % m=around n m:=by rw[around,if_neg hn]
theorem around_lo (n m:Int) (hm:1<=m):0<=around n m:=Int.emod_nonneg _ (by omega)
theorem around_hi (n m:Int) (hm:1<=m):around n m<m:=Int.emod_lt_of_pos _ (by omega)
theorem around_any (n m:Int) (w:World) (h0 : -9223372036854775808<=n) (h1:n<=9223372036854775807) (hm:1<=m) (hm2:m<=9223372036854775807) :
 Calls Tryz.prog 22 #[.int .i64 n,.int .i64 m] w fun e w'=>e=.returned (.int .i64 (around n m))∧w=w':=by
 by_cases hn:n<0
 ·go_enter Tryz.func22,Tryz.ntmps22;go_wp2;go_ret;exact⟨by rw[<- around_neg n m hn];rfl,rfl⟩
 ·go_enter Tryz.func22,Tryz.ntmps22;go_wp2;go_ret;exact⟨by rw[<- around_pos n m (by omega)];rfl,rfl⟩
def pick (zs:List Int) (i m:Int):Int:=if i<0∨(zs.length:Int)<=i then 0 else around (zs[i.toNat]?.getD 0) m
theorem pick_lo (zs:List Int) (i m:Int) (hm:1<=m):0<=pick zs i m:=by
 unfold pick;split
 ·omega
 ·exact around_lo _ _ hm
theorem pick_hi (zs:List Int) (i m:Int) (hm:1<=m):pick zs i m<m:=by
 unfold pick;split
 ·omega
 ·exact around_hi _ _ hm
theorem pick_any (A:Option Addr) (n c:Nat) (zs:List Int) (B:Nat) (i m:Int) (w:World) (hr:Row w B A (ints zs)) (hn:n=zs.length) (hw:Wf zs)
 (h0 : -9223372036854775808<=i) (h1:i<=9223372036854775807) (hm:1<=m) (hm2:m<=9223372036854775807) :
 Calls Tryz.prog 17 #[.slice A n c,.int .i64 i,.int .i64 m] w fun e w'=>e=.returned (.int .i64 (pick zs i m))∧w=w':=by
 by_cases hi:i<0
 ·go_enter Tryz.func17,Tryz.ntmps17;go_wp2;go_ret;exact⟨by simp[pick,hi],rfl⟩
 ·by_cases hi2:(n:Int)<=i
  ·have hp:pick zs i m=0:=by unfold pick;rw[if_pos (.inr (by omega))]
   have Hp:=iH hp;clear hp hn;go_enter Tryz.func17,Tryz.ntmps17;go_wp2;go_ret;exact⟨by rw[Hp.out];rfl,rfl⟩
  ·obtain⟨k,rfl⟩:=Int.eq_ofNat_of_zero_le (show 0<=i by omega);have hk:k<zs.length:=by omega
   have hp:pick zs k m=around (zs[k]?.getD 0) m:=by
    unfold pick;rw[if_neg (by omega)];simp
   have Hp:=iH hp;obtain⟨b,off,rfl,hb,hc⟩:=hr.at_ k (by simpa using hk);have hcell:=hc k _ (ints_at zs k hk);have hz:=hw.at_ k;have hk2:k<n:=by omega
   clear hp hn hc hk;generalize zs[k]?.getD 0=z at hcell hz Hp;go_enter Tryz.func17,Tryz.ntmps17;go_wp2_with fail;refine(around_any _ _ _ (by omega) (by omega) hm hm2).mono ?_;rintro e w' ⟨rfl,rfl⟩;go_wp2;go_ret;exact⟨by rw[Hp.out];rfl,rfl⟩
theorem bel_drewN {B:Nat} {a w:World} (h:Below B a w) (n:Nat):Below B a (w.drewN n):=⟨h.os,h.tape,h.output,h.size,h.block⟩
def sameB (xs ys:List Int):Bool:=decide (xs=ys)
theorem take_same {xs ys:List Int} {k:Nat} (hk:k<xs.length) (hl:xs.length=ys.length) (h:xs.take k=ys.take k) (he:xs[k]?.getD 0=ys[k]?.getD 0):xs.take (k+1)=ys.take (k+1):=by
 have hk2:k<ys.length:=by omega
 rw[List.take_succ_eq_append_getElem hk,List.take_succ_eq_append_getElem hk2,h];have:xs[k]=ys[k]:=by simpa[hk,hk2]using he
 rw[this]
theorem same_any {w:World} {A A':Option Addr} {n m c c' B B':Nat} {xs ys:List Int} (hx:Row w B A (ints xs)) (hy:Row w B' A' (ints ys)) (hn:n=xs.length) (hm:m=ys.length) (hs:n<=140737488351232) :
 Calls Tryz.prog 19 #[.slice A n c,.slice A' m c'] w fun e w'=>e=.returned (.bool (sameB xs ys))∧Below w.heap.size w w':=by
 have Hn:=iH hn;have Hm:=iH hm;by_cases hnm:n=m
 ·have hl:xs.length=ys.length:=by omega
  have Hl:=iH hl;have e1:((n:Int) != (m:Int))=false:=by simp;omega
  obtain rfl:m=n:=hnm.symm;clear hn hm hl;go_enter Tryz.func19,Tryz.ntmps19;go_wp2;go_loopw [5] (fun i wr=>∃k:Nat,k<=m∧i=.int .i64 k∧xs.take k=ys.take k∧Below w.heap.size w wr∧(∀p,wr.cell? p=w.cell? p)) (fun i _=>m-(intOf i).toNat)
  case atStart=>exact⟨0,Nat.zero_le _,rfl,by simp,Below.refl _ _,fun _=>rfl⟩
  case round =>
   obtain⟨k,hk,rfl,hT,hb,hc⟩:=hrel;have HT:=iH hT;have Hc:=iH hc;clear hT hc;by_cases hlt:k<m
   ·obtain⟨b,off,rfl,hbb,cx⟩:=hx.at_ k (by rw[ints_length];have:=Hn.out;omega);obtain⟨b',off',rfl,hbb',cy⟩:=hy.at_ k (by rw[ints_length];have:=Hm.out;omega);have x1:=(Hc.out ⟨b,off+k,none⟩).trans (cx k _ (ints_at xs k (by have:=Hn.out;omega)));have y1:=(Hc.out ⟨b',off'+k,none⟩).trans (cy k _ (ints_at ys k (by have:=Hm.out;omega)));have Hs:Hid (xs[k]?.getD 0=ys[k]?.getD 0->xs.take (k+1)=ys.take (k+1)):=fun h=>take_same (by have:=Hn.out;omega) Hl.out HT.out h
    have Hno:Hid (xs[k]?.getD 0≠ys[k]?.getD 0->sameB xs ys=false):=fun h=>by
     simp only[sameB,decide_eq_false_iff_not];intro he;exact h (by rw[he])
    have hk0:(0:Int)<=(k:Int):=by omega
    have hkm:(k:Int)<(m:Int):=by omega
    clear cx cy;generalize xs[k]?.getD 0=x at *;generalize ys[k]?.getD 0=y at *;by_cases hxy:x=y
    ·subst hxy;have e2:(x != x)=false:=by simp
     have HT1:=iH (Hs.out rfl);clear Hs Hno;go_wp2;go_quiet (fail);go_wp2;go_roundw
     case rel=>exact⟨k+1,by omega,by go_num,HT1.out,bel_drewN hb _,Hc.out⟩
     case measure=>simp[intOf];omega
    ·have e2:(x != y)=true:=by simpa using hxy
     have HF:=iH (Hno.out hxy);clear hxy;go_wp2;go_quiet (fail);go_wp2;go_ret;exact⟨by rw[HF.out];rfl,bel_drewN hb _⟩
   ·obtain rfl:k=m:=by omega
    have Ht:Hid (sameB xs ys=true):=by
     show sameB xs ys=true;have h:=HT.out;rw[List.take_of_length_le (by have:=Hn.out;omega),List.take_of_length_le (by have:=Hm.out;omega)]at h;simp[sameB,h]
    go_wp2;go_ret;exact⟨by rw[Ht.out];rfl,hb⟩
 ·have e1:((n:Int) != (m:Int))=true:=by simp;omega
  have Hf:Hid (sameB xs ys=false):=by
   show sameB xs ys=false;simp only[sameB,decide_eq_false_iff_not];intro he;exact hnm (by rw[hn,hm,he])
  clear hn hm hnm;go_enter Tryz.func19,Tryz.ntmps19;go_wp2;go_ret;exact⟨by rw[Hf.out];rfl,Below.refl _ _⟩
def wAt (ws:List Int) (i:Nat):Int:=ws[i]?.getD 0
def unitsB (zs:List Int):Bool:=decide (∀i,i<zs.length->0<=wAt zs i∧wAt zs i<=1099511627776)
theorem units_any {w:World} {A:Option Addr} {n c:Nat} {zs:List Int} (hr:Row w w.heap.size A (ints zs)) (hn:n=zs.length) (hs:n<=140737488351232) :
 Calls Tryz.prog 211 #[.slice A n c] w fun e w'=>e=.returned (.bool (unitsB zs))∧w=w':=by
 have Hr:=iH hr;have Hn:=iH hn;clear hr hn;go_enter Tryz.func211,Tryz.ntmps211;go_wp2_with fail
 go_loop [7] (fun i=>∃k:Nat,k<=n∧i=.int .i64 (k:Int)∧∀j,j<k->0<=wAt zs j∧wAt zs j<=1099511627776) (fun i=>n-(intOf i).toNat)
 case atStart=>exact⟨0,Nat.zero_le _,rfl,fun j hj=>by omega⟩
 case round =>
  obtain⟨k,hk,rfl,hg⟩:=hrel;have HG:=iH hg;clear hg;by_cases hlt:k<n
  ·obtain⟨b,off,rfl,hbb,hc⟩:=Hr.out.at_ k (by rw[ints_length];have:=Hn.out;omega);have hcell:w.cell? ⟨b,off+k,none⟩=some (.int .i64 (wAt zs k)):=hc k _ (ints_at zs k (by have:=Hn.out;omega));have hbad:Hid (¬ (0<=wAt zs k∧wAt zs k<=1099511627776)->unitsB zs=false):=fun h=>by
    simp only[unitsB,decide_eq_false_iff_not];intro hall;exact h (hall k (by have:=Hn.out;omega))
   have hok:Hid (0<=wAt zs k∧wAt zs k<=1099511627776->∀j,j<k+1->0<=wAt zs j∧wAt zs j<=1099511627776):=fun h j hj=>by
    by_cases hjk:j<k
    ·exact HG.out j hjk
    ·obtain rfl:j=k:=by omega
     exact h
   clear hc HG;generalize wAt zs k=z at *;by_cases h0:z<0
   ·have hu:=hbad.out (by omega);go_wp2;go_ret;exact⟨rfl,rfl⟩
   ·by_cases h1:1099511627776<z
    ·have hu:=hbad.out (by omega);go_wp2;go_ret;exact⟨rfl,rfl⟩
    ·have hu:=iH (hok.out (by omega));go_wp2
     go_round
     case rel=>exact⟨k+1,by omega,by go_num,hu.out⟩
     case measure=>simp[intOf];omega
  ·obtain rfl:k=n:=by omega
   have hu:unitsB zs=true:=by
    simp only[unitsB,decide_eq_true_eq];intro i hi;exact HG.out i (by have:=Hn.out;omega)
   go_wp2;go_ret;exact⟨rfl,rfl⟩
abbrev Tr:=Int×Int×Int
def itemAt (ts:List Tr) (k:Nat):Int:=(ts[k]?.getD (0,0,0)).1
def numAt (ts:List Tr) (k:Nat):Int:=(ts[k]?.getD (0,0,0)).2.1
def denAt (ts:List Tr) (k:Nat):Int:=(ts[k]?.getD (0,0,0)).2.2
def tcells (ts:List Tr):List Value:=ts.flatMap fun t=>[.int .i64 t.1,.int .i64 t.2.1,.int .i64 t.2.2]
theorem tcells_length (ts:List Tr):(tcells ts).length=ts.length*3:=by
 induction ts with
 | nil=>rfl
 | cons t ts ih=>simp only[tcells,List.flatMap_cons,List.length_append,List.length_cons,List.length_nil]at ih⊢;omega
theorem tcells_cons (t:Tr) (ts:List Tr):tcells (t :: ts)=[.int .i64 t.1,.int .i64 t.2.1,.int .i64 t.2.2] ++ tcells ts:=by simp[tcells]
theorem tcells_at (ts:List Tr) (k:Nat) (h:k<ts.length):(tcells ts)[k*3]? = some (.int .i64 (itemAt ts k))∧(tcells ts)[k*3+1]? = some (.int .i64 (numAt ts k))∧(tcells ts)[k*3+2]? = some (.int .i64 (denAt ts k)):=by
 induction ts generalizing k with
 | nil=>simp at h
 | cons t ts ih =>
   rw[tcells_cons];cases k with
   | zero=>simp[itemAt,numAt,denAt]
   | succ k =>
     have:=ih k (by simpa using h);have e:(k+1)*3=3+k*3:=by omega
     rw[e];refine⟨?_,?_,?_⟩
     ·rw[List.getElem?_append_right (by simp),show 3+k*3 - [Value.int .i64 t.1,.int .i64 t.2.1,.int .i64 t.2.2].length=k*3 from by simp];simpa[itemAt]using this.1
     ·rw[List.getElem?_append_right (by simp;omega),show 3+k*3+1 - [Value.int .i64 t.1,.int .i64 t.2.1,.int .i64 t.2.2].length=k*3+1 from by simp;omega];simpa[numAt]using this.2.1
     ·rw[List.getElem?_append_right (by simp;omega),show 3+k*3+2 - [Value.int .i64 t.1,.int .i64 t.2.1,.int .i64 t.2.2].length=k*3+2 from by simp;omega];simpa[denAt]using this.2.2
def okT (n i p q:Int):Bool:=decide ((i = -1∧p=0∧q=0)∨(0<=i∧i<n∧1<=p∧p<=1048576∧1<=q∧q<=1048576))
def okAt (ts:List Tr) (n:Int) (k:Nat):Bool:=okT n (itemAt ts k) (numAt ts k) (denAt ts k)
def validTo (ts:List Tr) (n:Int):Nat->Bool
 | 0=>true
 | k+1=>validTo ts n k && okAt ts n k
def validB (ts:List Tr) (n:Int):Bool:=validTo ts n ts.length
theorem validTo_no {ts:List Tr} {n:Int} {k:Nat} (h:okAt ts n k=false):∀m,k<m->validTo ts n m=false:=by
 intro m hm
 induction m with
 | zero=>omega
 | succ m ih =>
   by_cases e:k=m
   ·subst e;simp[validTo,h]
   ·simp[validTo,ih (by omega)]
theorem validTo_at {ts:List Tr} {n:Int} {m:Nat} (h:validTo ts n m=true) (k:Nat) (hk:k<m):okAt ts n k=true:=by
 cases ho:okAt ts n k
 ·rw[validTo_no ho m hk]at h;cases h
 ·rfl
def term (ts:List Tr) (hs:List Int) (i:Nat):Int:=wAt hs i / denAt ts i*numAt ts i
def sumTo (ts:List Tr) (hs:List Int) (j:Int):Nat->Int
 | 0=>0
 | k+1=>sumTo ts hs j k+if itemAt ts k=j then term ts hs k else 0
def mu:Int:=1099511627776
theorem term_nonneg {ts:List Tr} {hs:List Int} {i:Nat} (h0:0<=wAt hs i) (hd:0<=denAt ts i) (hn:0<=numAt ts i):0<=term ts hs i :=
 Int.mul_nonneg (Int.ediv_nonneg h0 hd) hn
theorem okT_cases {n i p q:Int} (h:okT n i p q=true):(i = -1∧p=0∧q=0)∨(0<=i∧i<n∧1<=p∧p<=1048576∧1<=q∧q<=1048576):=by simpa[okT]using h
theorem sumTo_mono {ts:List Tr} {hs:List Int} {n:Int} {j:Int} (hv:validB ts n=true) (hu:unitsB hs=true) (hl:hs.length=ts.length) {a b:Nat} (hab:a<=b) (hb:b<=ts.length):sumTo ts hs j a<=sumTo ts hs j b:=by
 induction b with
 | zero => obtain rfl : a = 0 := by omega
           exact Int.le_refl _
 | succ b ih =>
   by_cases e:a=b+1
   ·subst e;exact Int.le_refl _
   ·have h1:=ih (by omega) (by omega);have ho:=okT_cases (validTo_at hv b (by omega));have hw:0<=wAt hs b:=by
     simp only[unitsB,decide_eq_true_eq]at hu;exact(hu b (by omega)).1
    have:=term_nonneg (ts:=ts) (hs:=hs) (i:=b) hw (by omega) (by omega);simp only[sumTo];split <;> omega
theorem sumTo_nonneg {ts:List Tr} {hs:List Int} {n:Int} {j:Int} (hv:validB ts n=true) (hu:unitsB hs=true) (hl:hs.length=ts.length) {b:Nat} (hb:b<=ts.length):0<=sumTo ts hs j b :=
 sumTo_mono (a:=0) hv hu hl (Nat.zero_le _) hb
def leftAt (ts:List Tr) (hs:List Int) (i:Nat):Int:=if itemAt ts i<0 then wAt hs i else wAt hs i % denAt ts i
def limB (ts:List Tr) (n:Int) (hs:List Int):Bool:=decide (∀j:Nat,j<n.toNat->sumTo ts hs (j:Int) ts.length<=mu)
def argB (ts:List Tr) (n:Int) (hs:List Int):Bool:=decide (0<=n) && decide (n<=64) && validB ts n && decide (ts.length=hs.length) && unitsB hs
def convE (ts:List Tr) (n:Int) (hs:List Int):Int:=if argB ts n hs=false then 1 else if limB ts n hs=false then 4 else 0
def nowL (ts:List Tr) (n:Int) (hs:List Int):List Int:=if convE ts n hs=0 then(List.range n.toNat).map (fun j:Nat=>sumTo ts hs (j:Int) ts.length) else[]
def leftL (ts:List Tr) (n:Int) (hs:List Int):List Int:=if convE ts n hs=0 then(List.range ts.length).map (leftAt ts hs) else[]
def ConvPost (w:World) (ts:List Tr) (n:Int) (hs:List Int) (e:Ending) (w':World):Prop :=
 ∃A1 c1 A2 c2,e=.returned (.tuple #[.slice A1 (nowL ts n hs).length c1,.slice A2 (leftL ts n hs).length c2,.int .i64 (convE ts n hs)]) ∧
  Row w' w'.heap.size A1 (ints (nowL ts n hs))∧Row w' w'.heap.size A2 (ints (leftL ts n hs))∧Below w.heap.size w w'
theorem info115:(Tryz.prog.info? 115).map (fun i=>(i.zero,i.size,i.bytes))=some (some (.agg #[.int .i64 0,.int .i64 0,.int .i64 0]),3,24):=by kernel_rfl
theorem info3:(Tryz.prog.info? 3).map (fun i=>(i.zero,i.size,i.bytes))=some (some (.int .i64 0),1,8):=by kernel_rfl
structure TosV (w : World) (A : Option Addr) (n : Nat) (ts : List Tr) : Prop where
 row:Row w w.heap.size A (tcells ts)
 len:n=ts.length
theorem TosV.below {w w':World} {A:Option Addr} {n:Nat} {ts:List Tr} (h:TosV w A n ts) (hb:Below w.heap.size w w'):TosV w' A n ts:=⟨(h.row.below hb).more hb.size,h.len⟩
theorem row_of_owns {W:World} {base:Nat} {e:TypeId} {size n:Nat} {v:Value} {xs:List Value} (h:W.ownsRow base e size v n xs):∃A c,v=.slice A n c∧Row W W.heap.size A xs:=by
 obtain⟨hl,h⟩:=h;rcases h with ⟨rfl,rfl⟩|⟨g,cap,cur,rfl,hb,hh,hn,hm,hs,ht⟩
 ·exact⟨none,0,rfl,.inl (List.eq_nil_of_length_eq_zero (by simpa using hl))⟩
 ·refine⟨_,_,rfl,.inr ⟨g,0,rfl,(Array.getElem?_eq_some_iff.1 hh).1,fun j u hu=>?_⟩⟩;have hj:j<xs.length:=(List.getElem?_eq_some_iff.1 hu).1;rw[<- ht]at hu;have hu2:cur.toList[j]? = some u:=by
   rw[List.getElem?_take]at hu;split at hu
   ·exact hu
   ·cases hu
  simp only[World.cell?,hh,Nat.zero_add];simpa using hu2
def FR (w w':World) (A:Option Addr) (xs:List Value):Prop:=xs=[]∨∃g cur t fl,A=some ⟨g,0,none⟩∧w.heap.size<=g∧(t=115∨t=115)∧w'.heap[g]? = some (Obj.cells cur t fl)∧∀j u,xs[j]? = some u->w'.cell? ⟨g,j,none⟩=some u
theorem FR.row {w w':World} {A:Option Addr} {xs:List Value} (h:FR w w' A xs):Row w' w'.heap.size A xs:=by
 rcases h with h|⟨g,cur,t,fl,hA,_,_,hh,hc⟩
 ·exact .inl h
 ·exact .inr ⟨g,0,hA,(Array.getElem?_eq_some_iff.1 hh).1,fun j u hu=>by rw[Nat.zero_add];exact hc j u hu⟩
theorem FR.of_own {w w':World} {B e size n:Nat} {A:Option Addr} {c:Nat} {xs:List Value} (h:w'.ownsRow B e size (.slice A n c) n xs) (hB:w.heap.size<=B) (ht:e=115∨e=115):FR w w' A xs:=by
 obtain⟨A',c',e',hr⟩:=row_of_owns h;obtain⟨hl,h2⟩:=h;rcases h2 with ⟨hv,h0⟩|⟨g,cap,cur,hv,hb,hh,hn,hm,hs,hx⟩
 ·exact .inl (List.eq_nil_of_length_eq_zero (by rw[hl,h0];simp))
 ·simp only[Value.slice.injEq]at hv e';obtain⟨rfl,-,-⟩:=hv;obtain⟨rfl,-,-⟩:=e';refine .inr ⟨g,cur,e,(0,0),rfl,by omega,ht,hh,fun j u hu=>?_⟩;rcases hr with hr|⟨b,off,hA,_,hc⟩
  ·rw[hr]at hu;simp at hu
  ·simp only[Option.some.injEq,Addr.mk.injEq]at hA;obtain⟨rfl,rfl,-⟩:=hA;have:=hc j u hu
   rwa [Nat.zero_add]at this
def RowPost (w:World) (E size n:Nat) (xs:List Value) (e:Ending) (w':World):Prop :=
 ∃v,e=.returned v∧w'.ownsRow w.heap.size E size v n xs∧Below w.heap.size w w'
theorem row_base {W:World} {base:Nat} {e:TypeId} {size n:Nat} {v:Value} {xs:List Value} (h:W.ownsRow base e size v n xs):∀g,v.ownBlock=some g->base<=g:=by
 intro g he;rcases h.2 with ⟨rfl,_⟩|⟨g',cap,cur,rfl,hb,_⟩
 ·simp[Value.ownBlock]at he
 ·have:g'=g:=by simpa[Value.ownBlock]using he
  omega
structure IntsV (w : World) (A : Option Addr) (n : Nat) (zs : List Int) : Prop where
 row:Row w w.heap.size A (ints zs)
 len:n=zs.length
 wf:Wf zs
theorem IntsV.below {w w':World} {A:Option Addr} {n:Nat} {zs:List Int} (h:IntsV w A n zs) (hb:Below w.heap.size w w'):IntsV w' A n zs:=⟨(h.row.below hb).more hb.size,h.len,h.wf⟩
theorem IntsV.pick {w:World} {A:Option Addr} {n:Nat} (c:Nat) {zs:List Int} (h:IntsV w A n zs) (i m:Int) (h0 : -9223372036854775808<=i) (h1:i<=9223372036854775807) (hm:1<=m) (hm2:m<=9223372036854775807) :
 Calls Tryz.prog 17 #[.slice A n c,.int .i64 i,.int .i64 m] w fun e w'=>e=.returned (.int .i64 (pick zs i m))∧w=w':=pick_any A n c zs _ i m w h.row h.len h.wf h0 h1 hm hm2
def heldOf (n:Int):Int:=if n % 61=0 then 1099511627776-n / 61 % 9 else if n % 4=0 then 0 else n / 4 % 50
def heldAt (zs:List Int) (a i:Nat):Int:=heldOf (pick zs ((a:Int)+(i:Int)) 1048576)
def heldL (zs:List Int) (a k:Nat):List Int:=(List.range k).map (heldAt zs a)
@[simp] theorem heldL_length (zs : List Int) (a k : Nat) : (heldL zs a k).length = k := by simp [heldL]
theorem new1 (w:World) (t:TypeId) (a:Value):∀j u,([a]:List Value)[j]? = some u->(w.alloc (.cells #[a] t)).cell? ((⟨w.heap.size,0,none⟩:Addr).add j)=some u:=by
 intro j u hj
 match j,hj with
 | 0,hj=>simp at hj;subst hj;simp[Addr.add]
 | j+1,hj=>simp at hj
def someT (N:Nat) (zs:List Int) (i:Nat):Bool:=decide (0<N) && decide (0<pick zs (3*(i:Int)) 4)
def tosAt (N:Nat) (zs:List Int) (i:Nat):Tr :=
 if someT N zs i=true then(pick zs (3*(i:Int)+1) N,1+pick zs (3*(i:Int)+2) 5,1+pick zs (3*(i:Int)+2) 7) else(-1,0,0)
def tosL (N:Nat) (zs:List Int) (k:Nat):List Tr:=(List.range k).map (tosAt N zs)
@[simp] theorem tosL_length (N : Nat) (zs : List Int) (k : Nat) : (tosL N zs k).length = k := by simp [tosL]
def setItem (ts:List Tr) (k:Nat) (x:Int):List Tr:=ts.set k (x,numAt ts k,denAt ts k)
def setNum (ts:List Tr) (k:Nat) (x:Int):List Tr:=ts.set k (itemAt ts k,x,denAt ts k)
def setDen (ts:List Tr) (k:Nat) (x:Int):List Tr:=ts.set k (itemAt ts k,numAt ts k,x)
theorem tcells_set (ts:List Tr) (k:Nat) (t:Tr) (h:k<ts.length):tcells (ts.set k t)=(((tcells ts).set (k*3) (.int .i64 t.1)).set (k*3+1) (.int .i64 t.2.1)).set (k*3+2) (.int .i64 t.2.2):=by
 induction ts generalizing k with
 | nil=>simp at h
 | cons a ts ih =>
   cases k with
   | zero=>simp[tcells]
   | succ k =>
     have:=ih k (by simpa using h);have e:(k+1)*3=k*3+1+1+1:=by omega
     rw[List.set_cons_succ,tcells_cons,this,tcells_cons,e];simp[List.set_cons_succ]
def spoil (zs:List Int) (K:Nat) (ts:List Tr):List Tr :=
 let k:=(pick zs 0 K).toNat
 if pick zs 1 4=0 then setItem ts k (pick zs 2 70-3)
 else if pick zs 1 4=1 then setNum ts k (pick zs 2 1100000-1000)
 else if pick zs 1 4=2 then setDen ts k (pick zs 2 1100000-1000)
 else ts.set k (0,1048576,1048576-pick zs 2 3)
def tosS (K N:Nat) (zs:List Int) (s:Bool):List Tr:=if s && decide (0<K) then spoil zs K (tosL N zs K) else tosL N zs K
@[simp] theorem tosS_length (K N : Nat) (zs : List Int) (s : Bool) : (tosS K N zs s).length = K := by
 unfold tosS;split
 ·unfold spoil setItem setNum setDen;dsimp only
  repeat' split
  all_goals simp
 ·simp
theorem okT_split (n i p q:Int) (hn:0<=n) :
 (okT n i p q=false∧i < -1)∨(okT n i p q=false∧¬ i < -1∧n<=i) ∨
 (okT n i p q=false∧i = -1∧(p != 0)=true)∨(okT n i p q=false∧i = -1∧(p != 0)=false∧(q != 0)=true)∨(okT n i p q=true∧i = -1∧(p != 0)=false∧(q != 0)=false) ∨
 (okT n i p q=false∧0<=i∧i<n∧p<1)∨(okT n i p q=false∧0<=i∧i<n∧¬ p<1∧1048576<p) ∨
 (okT n i p q=false∧0<=i∧i<n∧¬ p<1∧¬ 1048576<p∧q<1)∨(okT n i p q=false∧0<=i∧i<n∧¬ p<1∧¬ 1048576<p∧¬ q<1∧1048576<q) ∨
 (okT n i p q=true∧0<=i∧i<n∧¬ p<1∧¬ 1048576<p∧¬ q<1∧¬ 1048576<q):=by
 have F:¬ ((i = -1∧p=0∧q=0)∨(0<=i∧i<n∧1<=p∧p<=1048576∧1<=q∧q<=1048576))->okT n i p q=false:=fun h=>decide_eq_false h
 have T:((i = -1∧p=0∧q=0)∨(0<=i∧i<n∧1<=p∧p<=1048576∧1<=q∧q<=1048576))->okT n i p q=true:=fun h=>decide_eq_true h
 by_cases a1:i < -1
 ·exact .inl ⟨F (by omega),a1⟩
 by_cases a2:n<=i
 ·exact .inr (.inl ⟨F (by omega),a1,a2⟩)
 by_cases a3:i = -1
 ·by_cases b1:p=0
  ·by_cases b2:q=0
   ·exact .inr (.inr (.inr (.inr (.inl ⟨T (by omega),a3,by simpa using b1,by simpa using b2⟩))))
   ·exact .inr (.inr (.inr (.inl ⟨F (by omega),a3,by simpa using b1,by simpa using b2⟩)))
  ·exact .inr (.inr (.inl ⟨F (by omega),a3,by simpa using b1⟩))
 have a4:0<=i:=by omega
 have a5:i<n:=by omega
 by_cases b1:p<1
 ·exact .inr (.inr (.inr (.inr (.inr (.inl ⟨F (by omega),a4,a5,b1⟩)))))
 by_cases b2:1048576<p
 ·exact .inr (.inr (.inr (.inr (.inr (.inr (.inl ⟨F (by omega),a4,a5,b1,b2⟩))))))
 by_cases b3:q<1
 ·exact .inr (.inr (.inr (.inr (.inr (.inr (.inr (.inl ⟨F (by omega),a4,a5,b1,b2,b3⟩)))))))
 by_cases b4:1048576<q
 ·exact .inr (.inr (.inr (.inr (.inr (.inr (.inr (.inr (.inl ⟨F (by omega),a4,a5,b1,b2,b3,b4⟩))))))))
 exact .inr (.inr (.inr (.inr (.inr (.inr (.inr (.inr (.inr ⟨T (by omega),a4,a5,b1,b2,b3,b4⟩))))))))
theorem valid_any {w:World} {A:Option Addr} {m:Nat} (c:Nat) {ts:List Tr} (n:Int) (h:TosV w A m ts) (hs:m<=1000000) (hn0:0<=n) (hn1:n<=1000000) :
 Calls Tryz.prog 210 #[.slice A m c,.int .i64 n] w fun e w'=>e=.returned (.bool (validB ts n))∧Below w.heap.size w w':=by
 have Hn:=iH h.len;have H:=iH h;clear h;go_enter Tryz.func210,Tryz.ntmps210;go_wp2_with fail;go_loopw [9] (fun i wr=>∃k:Nat,k<=m∧i=.int .i64 k∧validTo ts n k=true∧Below w.heap.size w wr) (fun i _=>m-(intOf i).toNat)
 case atStart=>exact⟨0,Nat.zero_le _,rfl,rfl,Below.refl _ _⟩
 case round =>
  obtain⟨k,hk,rfl,hR,hb⟩:=hrel;have HR:=iH hR;have hsz:=hb.size;clear hR;by_cases hlt:k<m
  ·have hkl:k<ts.length:=by have:=Hn.out;omega
   obtain⟨b,off,rfl,hbb,hc⟩:=(H.out.below hb).row.at_ 0 (by rw[tcells_length];omega);obtain⟨t1,t2,t3⟩:=tcells_at ts k hkl;have c1:=hc _ _ t1;have c2:=hc _ _ t2;have c3:=hc _ _ t3;simp only[<- Nat.add_assoc]at c2 c3;have Hs:Hid (okT n (itemAt ts k) (numAt ts k) (denAt ts k)=true->validTo ts n (k+1)=true):=fun h=>by
    simp only[validTo,HR.out,Bool.true_and];exact h
   have Hno:Hid (okT n (itemAt ts k) (numAt ts k) (denAt ts k)=false->validB ts n=false):=fun h=>validTo_no (k:=k) h _ hkl
   have hb2:Below w.heap.size w (wr.alloc (.cells #[.int .i64 (itemAt ts k),.int .i64 (numAt ts k),.int .i64 (denAt ts k)] 115)):=hb.alloc hsz _;clear hc t1 t2 t3 hkl;generalize itemAt ts k=i at *;generalize numAt ts k=p at *;generalize denAt ts k=q at *;rcases okT_split n i p q hn0 with ⟨ho,h1⟩|⟨ho,h1,h2⟩|⟨ho,rfl,h2⟩|⟨ho,rfl,h2,h3⟩|⟨ho,rfl,h2,h3⟩|⟨ho,h1,h2,h3⟩|⟨ho,h1,h2,h3,h4⟩|⟨ho,h1,h2,h3,h4,h5⟩|⟨ho,h1,h2,h3,h4,h5,h6⟩|⟨ho,h1,h2,h3,h4,h5,h6⟩
   all_goals first
    | (have HF := iH (Hno.out ho)
       clear ho Hs Hno
       go_wp2
       go_ret
       exact⟨by rw[HF.out];rfl,hb2⟩)
    | (have HF := iH (Hs.out ho)
       clear ho Hs Hno
       go_wp2
       go_roundw
       case rel=>exact⟨k+1,by omega,by go_num,HF.out,hb2⟩
       case measure=>simp[intOf];omega)
  ·have hkn:k=ts.length:=by have:=Hn.out;omega
   rw[hkn]at HR;clear hkn;have HT:Hid (validB ts n=true):=HR;go_wp2;go_ret;exact⟨by rw[HT.out];rfl,hb⟩
theorem clone_ints {w:World} {A:Option Addr} {n c:Nat} {zs:List Int} (h:IntsV w A n zs) (hn:n<=1000000) (hA:A=none->n=0∧c=0) :
 Calls Tryz.prog 212 #[.slice A n c] w fun e w'=>∃v,e=.returned v∧w'.ownsRow w.heap.size 3 1 v n (ints zs)∧Below w.heap.size w w':=by
 obtain⟨i0,hi,hz0,hz1,hz2⟩:=info_parts info3;cases A with
 | none =>
   obtain⟨rfl,rfl⟩:=hA rfl;have hz:zs=[]:=List.eq_nil_of_length_eq_zero h.len.symm;have Hz:=iH hz;clear hA h hz;have hnil:∀W:World,(binOp .eql 22 (.slice none 0 0) (.slice none 0 0)).run Tryz.prog W=.ok (.bool true) W:=fun W=>by kernel_rfl
   go_enter Tryz.func212,Tryz.ntmps212;go_wp2;go_ret;exact⟨_,rfl,by rw[Hz.out];exact World.ownsRow_nil _ _ _ _,Below.refl _ _⟩
 | some a =>
   have hnil:∀W:World,(binOp .eql 22 (.slice (some a) n c) (.slice none 0 0)).run Tryz.prog W=.ok (.bool false) W:=fun W=>by kernel_rfl
   have hown:(w.alloc (.cells #[] 3)).ownsRow w.heap.size 3 1 (.slice (some ⟨w.heap.size,0,none⟩) 0 0) 0 [] :=
    ⟨rfl,.inr ⟨w.heap.size,0,_,rfl,Nat.le_refl _,heap_alloc_new w _,by omega,by unfold maxLen;omega,rfl,rfl⟩⟩
   have HO:=iH hown;have hlen:(ints zs).length=n*1:=by rw[ints_length];have:=h.len;omega
   have HL:=iH hlen;have hcells:∀j u,(ints zs)[j]? = some u->(w.alloc (.cells #[] 3)).cell? (a.add j)=some u:=by
    intro j u hj;have hjl:=(List.getElem?_eq_some_iff.1 hj).1;obtain⟨b,off,e,hb,hc⟩:=h.row.at_ j hjl;cases e;have e1:(⟨b,off,none⟩:Addr).add j=⟨b,off+j,none⟩:=by
     unfold Addr.add;split
     ·subst_vars;rfl
     ·rfl
    rw[e1,World.cell?_alloc_past _ _ _ hb];exact hc j u hj
   have HC:=iH hcells;clear hown hlen hcells hA h;go_enter Tryz.func212,Tryz.ntmps212;go_wp2_with(at_builtin;refine wpList_append_own_at _ rfl _ _ 22 rfl w.heap.size 3 i0 (.int .i64 0) 1 8 Tryz.underlying22 hi hz0 hz1 hz2 rfl (by decide) _ 0 [] rfl HO.out a n c (ints zs) rfl HL.out HC.out ?c2a ?c3a ?c4a ?c5a ?_)
   case c2a =>
    intro u hu;simp only[ints,List.mem_map]at hu;obtain⟨x,_,rfl⟩:=hu;rfl
   case c3a=>unfold maxLen;omega
   case c4a=>omega
   case c5a=>simp
   intro v' w1 hown' hgrow _ _;have HO':=iH hown';have hb1:Below w.heap.size w w1:=((Below.refl _ w).alloc (Nat.le_refl _) _).grown hgrow (by simp) (fun k e=>by cases e;exact Nat.le_refl _);clear hown' hgrow;go_wp2;go_ret;exact⟨_,rfl,by simpa using HO'.out,hb1⟩
section
def Bk (w:World) (g:Nat) (t:TypeId) (xs:List Value):Prop:=w.heap[g]? = some (.cells xs.toArray t (0,0))
section
variable {w w' : World} {g : Nat} {t : TypeId} {xs : List Value}
theorem Bk.lt (h:Bk w g t xs):g<w.heap.size:=(Array.getElem?_eq_some_iff.1 h).1
theorem Bk.cell (h:Bk w g t xs) (k:Nat):w.cell? ⟨g,k,none⟩=xs[k]?:=by
 unfold Bk at h;simp[World.cell?,h]
theorem Bk.frozen (h:Bk w g t xs) (k:Nat):w.frozen? ⟨g,k,none⟩=false:=by
 unfold Bk at h;simp[World.frozen?,h]
theorem Bk.new (w:World) (t:TypeId) (xs:List Value):Bk (w.alloc (.cells xs.toArray t)) w.heap.size t xs:=heap_alloc_new w _
theorem Bk.drew (h:Bk w g t xs):Bk w.drew g t xs:=h
theorem Bk.drewN (h:Bk w g t xs) (n:Nat):Bk (w.drewN n) g t xs:=h
theorem Bk.alloc (h:Bk w g t xs) (o:Obj):Bk (w.alloc o) g t xs:=(Below.heap_alloc w o g h.lt).trans h
theorem Bk.set (h:Bk w g t xs) (k:Nat) (u:Value):Bk (w.setCell ⟨g,k,none⟩ u) g t (xs.set k u):=by
 unfold Bk at h⊢;simp[World.setCell,Array.getElem?_modify,h]
theorem Bk.far (h:Bk w g t xs) {p:Addr} (hp:g≠p.block) (u:Value):Bk (w.setCell p u) g t xs:=(Below.heap_setCell w p u g hp).trans h
theorem Bk.below {B:Nat} (h:Bk w g t xs) (hb:Below B w w') (hg:g<B):Bk w' g t xs:=(hb.block g hg).trans h
theorem Bk.grown {row:Option Nat} (h:Bk w g t xs) (hb:w.grownBy w' row) (hg:some g≠row):Bk w' g t xs:=(hb.block g h.lt hg).trans h
theorem Bk.row (h:Bk w g t xs):Row w w.heap.size (some ⟨g,0,none⟩) xs:=.inr ⟨g,0,rfl,h.lt,fun j u hu=>by rw[Nat.zero_add];exact(h.cell j).trans hu⟩
end
theorem Bk.k0{w:World}{g:Nat}{t:TypeId}{x0:Value}{xs:List Value}(h:Bk w g t (x0::xs)):w.cell? ⟨g,0,none⟩=some x0:=h.cell 0
theorem Bk.k1{w:World}{g:Nat}{t:TypeId}{x0 x1:Value}{xs:List Value}(h:Bk w g t (x0::x1::xs)):w.cell? ⟨g,1,none⟩=some x1:=h.cell 1
theorem Bk.k2{w:World}{g:Nat}{t:TypeId}{x0 x1 x2:Value}{xs:List Value}(h:Bk w g t (x0::x1::x2::xs)):w.cell? ⟨g,2,none⟩=some x2:=h.cell 2
theorem Bk.k3{w:World}{g:Nat}{t:TypeId}{x0 x1 x2 x3:Value}{xs:List Value}(h:Bk w g t (x0::x1::x2::x3::xs)):w.cell? ⟨g,3,none⟩=some x3:=h.cell 3
theorem Bk.k4{w:World}{g:Nat}{t:TypeId}{x0 x1 x2 x3 x4:Value}{xs:List Value}(h:Bk w g t (x0::x1::x2::x3::x4::xs)):w.cell? ⟨g,4,none⟩=some x4:=h.cell 4
theorem Bk.k5{w:World}{g:Nat}{t:TypeId}{x0 x1 x2 x3 x4 x5:Value}{xs:List Value}(h:Bk w g t (x0::x1::x2::x3::x4::x5::xs)):w.cell? ⟨g,5,none⟩=some x5:=h.cell 5
theorem Bk.k6{w:World}{g:Nat}{t:TypeId}{x0 x1 x2 x3 x4 x5 x6:Value}{xs:List Value}(h:Bk w g t (x0::x1::x2::x3::x4::x5::x6::xs)):w.cell? ⟨g,6,none⟩=some x6:=h.cell 6
theorem Bk.k7{w:World}{g:Nat}{t:TypeId}{x0 x1 x2 x3 x4 x5 x6 x7:Value}{xs:List Value}(h:Bk w g t (x0::x1::x2::x3::x4::x5::x6::x7::xs)):w.cell? ⟨g,7,none⟩=some x7:=h.cell 7
theorem Bk.k8{w:World}{g:Nat}{t:TypeId}{x0 x1 x2 x3 x4 x5 x6 x7 x8:Value}{xs:List Value}(h:Bk w g t (x0::x1::x2::x3::x4::x5::x6::x7::x8::xs)):w.cell? ⟨g,8,none⟩=some x8:=h.cell 8
theorem Row.alloc {w:World} {A:Option Addr} {xs:List Value} (h:Row w w.heap.size A xs) (o:Obj):Row (w.alloc o) (w.alloc o).heap.size A xs :=
 (h.below ((Below.refl _ w).alloc (Nat.le_refl _) o)).more (by simp)
theorem made_zero (z:Value) (n:Nat):madeCells #[z] n=(List.replicate n z).toArray:=by
 apply Array.ext
 ·simp[madeCells]
 ·intro i h1 h2;simp[madeCells,Nat.mod_one]
theorem make_ints (n:Nat) (hn:n<=1000) (W:World) :
 (Instr.makeSlice 22 (.int .i64 (n:Int)) (.int .i64 (n:Int))).run Tryz.prog W=.ok (.slice (some ⟨W.heap.size,0,none⟩) n n) (W.alloc (.cells (ints (List.replicate n 0)).toArray 3)):=by
 obtain⟨i,hi,hz0,hz1,hz2⟩:=info_parts info3;have h:=run_make (P:=Tryz.prog) W 22 3 i (.int .i64 0) Tryz.underlying22 hi hz0 .i64 .i64 n n (by omega) (by omega) (by rw[hz2];omega) (by omega);rw[hz1]at h;simp only[Int.toNat_natCast,Nat.mul_one]at h;have e:madeCells (Value.int .i64 0).cells n=(ints (List.replicate n 0)).toArray:=by
  show madeCells #[.int .i64 0] n=_;rw[made_zero];simp[ints]
 rw[e]at h;exact h
theorem ints_set (zs:List Int) (k:Nat) (z:Int):(ints zs).set k (.int .i64 z)=ints (zs.set k z):=by simp[ints,List.map_set]
def nowK (ts:List Tr) (hs:List Int) (n k:Nat):List Int:=(List.range n).map fun j:Nat=>sumTo ts hs (j:Int) k
@[simp] theorem nowK_length (ts : List Tr) (hs : List Int) (n k : Nat) : (nowK ts hs n k).length = n := by simp [nowK]
theorem nowK_zero (ts:List Tr) (hs:List Int) (n:Nat):nowK ts hs n 0=List.replicate n 0:=by simp[nowK,sumTo,List.map_const']
theorem nowK_at (ts:List Tr) (hs:List Int) (n k j:Nat) (h:j<n):(nowK ts hs n k)[j]? = some (sumTo ts hs j k):=by simp[nowK,h]
theorem nowK_skip (ts:List Tr) (hs:List Int) (n k:Nat) (h:itemAt ts k<0):nowK ts hs n (k+1)=nowK ts hs n k:=by
 unfold nowK;apply List.map_congr_left;intro j _;simp only[sumTo];rw[if_neg (by omega)];omega
theorem nowK_step (ts:List Tr) (hs:List Int) (n k j:Nat) (h:itemAt ts k=j) (hj:j<n):(nowK ts hs n k).set j (sumTo ts hs j k+term ts hs k)=nowK ts hs n (k+1):=by
 apply List.ext_getElem?;intro i;by_cases e:j=i
 ·subst e;rw[List.getElem?_set_self (by simpa using hj),nowK_at _ _ _ _ _ hj];simp[sumTo,h]
 ·rw[List.getElem?_set_ne e];by_cases hi:i<n
  ·rw[nowK_at _ _ _ _ _ hi,nowK_at _ _ _ _ _ hi];simp only[sumTo];rw[if_neg (by omega)];simp
  ·rw[List.getElem?_eq_none (by simp;omega),List.getElem?_eq_none (by simp;omega)]
def leftK (ts:List Tr) (hs:List Int) (m k:Nat):List Int:=(List.range m).map fun i=>if i<k then leftAt ts hs i else wAt hs i
@[simp] theorem leftK_length (ts : List Tr) (hs : List Int) (m k : Nat) : (leftK ts hs m k).length = m := by simp [leftK]
theorem leftK_zero (ts:List Tr) (hs:List Int):leftK ts hs hs.length 0=hs:=by
 apply List.ext_getElem?;intro i;by_cases h:i<hs.length
 ·simp[leftK,wAt,h]
 ·rw[List.getElem?_eq_none (by simp;omega),List.getElem?_eq_none (by omega)]
theorem leftK_at (ts:List Tr) (hs:List Int) (m k:Nat) (h:k<m):(leftK ts hs m k)[k]? = some (wAt hs k):=by simp[leftK,h]
theorem leftK_skip (ts:List Tr) (hs:List Int) (m k:Nat) (h:itemAt ts k<0):leftK ts hs m (k+1)=leftK ts hs m k:=by
 unfold leftK;apply List.map_congr_left;intro i _;by_cases e:i=k
 ·subst e;rw[if_pos (by omega),if_neg (by omega),leftAt,if_pos h]
 ·by_cases h2:i<k
  ·rw[if_pos (by omega),if_pos h2]
  ·rw[if_neg (by omega),if_neg h2]
theorem leftK_step (ts:List Tr) (hs:List Int) (m k:Nat) (h:¬ itemAt ts k<0) (hk:k<m):(leftK ts hs m k).set k (wAt hs k % denAt ts k)=leftK ts hs m (k+1):=by
 apply List.ext_getElem?;intro i;by_cases e:k=i
 ·subst e;rw[List.getElem?_set_self (by simpa using hk)];simp[leftK,hk,leftAt,h]
 ·rw[List.getElem?_set_ne e];by_cases hi:i<m
  ·simp only[leftK,List.getElem?_map,List.getElem?_range hi,Option.map_some,Option.some.injEq];by_cases h2:i<k
   ·rw[if_pos h2,if_pos (by omega)]
   ·rw[if_neg h2,if_neg (by omega)]
  ·rw[List.getElem?_eq_none (by simp;omega),List.getElem?_eq_none (by simp;omega)]
theorem leftK_all (ts:List Tr) (hs:List Int) (m:Nat):leftK ts hs m m=(List.range m).map (leftAt ts hs):=by
 unfold leftK;apply List.map_congr_left;intro i hi;rw[if_pos (by simpa using hi)]
theorem convPost_err {w w':World} {ts:List Tr} {n:Int} {hs:List Int} {E:Int} (h:convE ts n hs=E) (hE:E≠0) (hb:Below w.heap.size w w') :
 ConvPost w ts n hs (.returned (.tuple #[.slice none 0 0,.slice none 0 0,.int .i64 E])) w':=by
 have h1:nowL ts n hs=[]:=by unfold nowL;rw[if_neg (by omega)]
 have h2:leftL ts n hs=[]:=by unfold leftL;rw[if_neg (by omega)]
 refine⟨none,0,none,0,?_,?_,?_,hb⟩
 ·rw[h1,h2,h];rfl
 ·rw[h1];exact .inl rfl
 ·rw[h2];exact .inl rfl
end
section
structure ConvAt (w0 W : World) (g : Nat) (v : Value) (m : Nat) (now left : List Int) : Prop where
 bk:Bk W g 3 (ints now)
 own:W.ownsRow w0.heap.size 3 1 v m (ints left)
 ge:w0.heap.size<=g
 ne:v.ownBlock≠some g
 below:Below w0.heap.size w0 W
section
variable {w0 W : World} {g m : Nat} {v : Value} {now left : List Int}
theorem ConvAt.drew (h:ConvAt w0 W g v m now left):ConvAt w0 W.drew g v m now left:=⟨h.bk,h.own,h.ge,h.ne,h.below.drew⟩
theorem ConvAt.drewN (h:ConvAt w0 W g v m now left) (n:Nat):ConvAt w0 (W.drewN n) g v m now left:=⟨h.bk,h.own,h.ge,h.ne,bel_drewN h.below n⟩
theorem ConvAt.alloc (h:ConvAt w0 W g v m now left) (o:Obj):ConvAt w0 (W.alloc o) g v m now left:=⟨h.bk.alloc o,h.own.alloc o,h.ge,h.ne,h.below.alloc h.below.size o⟩
theorem grown_setCell (W:World) (g j:Nat) (u:Value):W.grownBy (W.setCell ⟨g,j,none⟩ u) (some g) :=
 ⟨rfl,rfl,rfl,by simp[World.setCell],fun i _ hi=>Below.heap_setCell _ _ _ _ (fun e=>hi (by rw[e]))⟩
theorem ConvAt.setNow (h:ConvAt w0 W g v m now left) (j:Nat) (x:Int):ConvAt w0 (W.setCell ⟨g,j,none⟩ (.int .i64 x)) g v m (now.set j x) left :=
 ⟨by rw[<- ints_set];exact h.bk.set j _,h.own.kept (grown_setCell W g j _) (.inr h.ne),h.ge,h.ne,h.below.setCell h.ge _⟩
theorem ConvAt.setLeft {g2 cap:Nat} (h:ConvAt w0 W g (.slice (some ⟨g2,0,none⟩) m cap) m now left) (j:Nat) (x:Int) :
 ConvAt w0 (W.setCell ⟨g2,j,none⟩ (.int .i64 x)) g (.slice (some ⟨g2,0,none⟩) m cap) m now (left.set j x) :=
 ⟨h.bk.far (fun e=>h.ne (by rw[e];rfl)) _,by rw[<- ints_set];exact(h.own.stored j _).1,h.ge,h.ne,h.below.setCell (h.own.lt g2 rfl).1 _⟩
end
theorem undrew {B:Nat} {X W:World} (h:Below B X.drew W):Below B X W:=⟨h.os,h.tape,h.output,h.size,h.block⟩
theorem conv_start {w W wA:World} {v:Value} {m n:Nat} {hs:List Int} (hb:Below w.heap.size w W) (ho:wA.ownsRow W.heap.size 3 1 v m (ints hs)) (hbA:Below W.heap.size W wA) :
 ConvAt w (wA.alloc (.cells (ints (List.replicate n 0)).toArray 3)) wA.heap.size v m (List.replicate n 0) hs:=by
 have hlt:=fun g h=>ho.lt g h
 refine⟨Bk.new wA 3 _,?_,?_,?_,(hb.trans (hbA.mono hb.size)).alloc ?_ _⟩
 ·have:wA.ownsRow w.heap.size 3 1 v m (ints hs):=⟨ho.1,ho.2.imp id fun⟨g,cap,cur,h1,h2,h3⟩=>⟨g,cap,cur,h1,Nat.le_trans hb.size h2,h3⟩⟩;exact this.alloc _
 ·exact Nat.le_trans hb.size hbA.size
 ·intro e;have:=(hlt _ e).2;omega
 ·exact Nat.le_trans hb.size hbA.size
theorem conv_start2 {w W wA:World} {v:Value} {m n:Nat} {hs:List Int} (hb:Below w.heap.size w W) (ho:wA.ownsRow (W.heap.size+1) 3 1 v m (ints hs)) (hbA:Below (W.heap.size+1) (W.alloc (.cells (ints (List.replicate n 0)).toArray 3)) wA) :
 ConvAt w wA W.heap.size v m (List.replicate n 0) hs:=by
 have hlt:=fun g h=>ho.lt g h
 refine⟨(Bk.new W 3 _).below hbA (by omega),?_,hb.size,?_,(hb.alloc hb.size _).trans (hbA.mono ?_)⟩
 ·exact⟨ho.1,ho.2.imp id fun⟨g,cap,cur,h1,h2,h3⟩=>⟨g,cap,cur,h1,by have:=hb.size;omega,h3⟩⟩
 ·intro e;have:=(hlt _ e).1;omega
 ·have:=hb.size;omega
theorem convE_lim {ts:List Tr} {n:Int} {hs:List Int} (h:argB ts n hs=true) (h2:limB ts n hs=false):convE ts n hs=4:=by
 unfold convE;rw[if_neg (by rw[h];decide),if_pos h2]
theorem convE_ok {ts:List Tr} {n:Int} {hs:List Int} (h:argB ts n hs=true) (h2:limB ts n hs=true):convE ts n hs=0:=by
 unfold convE;rw[if_neg (by rw[h];decide),if_neg (by rw[h2];decide)]
theorem convPost_ok {w W:World} {ts:List Tr} {n:Nat} {hs:List Int} {g m cap:Nat} {v:Value} (h:argB ts n hs=true) (h2:limB ts n hs=true) (hm:m=ts.length) (hA:ConvAt w W g v m (nowK ts hs n m) (leftK ts hs m m)) :
 ConvPost w ts n hs (.returned (.tuple #[.slice (some ⟨g,0,none⟩) n cap,v,.int .i64 0])) W:=by
 have h0:=convE_ok h h2;have e1:nowL ts n hs=nowK ts hs n m:=by unfold nowL;rw[if_pos h0,hm];rfl
 have e2:leftL ts n hs=leftK ts hs m m:=by unfold leftL;rw[if_pos h0,leftK_all,hm]
 obtain⟨A,c,hv,hr⟩:=row_of_owns hA.own;refine⟨some ⟨g,0,none⟩,cap,A,c,?_,?_,?_,hA.below⟩
 ·rw[e1,e2,h0,hv];simp
 ·rw[e1];exact hA.bk.row
 ·rw[e2];exact hr
theorem prod_bd {K p:Int} (h0:0<=K) (h1:K<=1099511627776) (p0:1<=p) (p1:p<=1048576):0<=K*p∧K*p<=1152921504606846976:=by
 refine⟨Int.mul_nonneg h0 (by omega),?_⟩;have a:=Int.mul_le_mul_of_nonneg_left p1 h0;have b:K*1048576<=1099511627776*1048576:=Int.mul_le_mul_of_nonneg_right h1 (by omega);omega
theorem conv_good {w:World} {A A':Option Addr} {m m':Nat} (c c':Nat) {ts:List Tr} (n:Nat) {hs:List Int} (ht:TosV w A m ts) (hh:IntsV w A' m' hs) (hm:m<=1000000) (hm':m'<=1000000)
 (hA':A'=none->m'=0∧c'=0) (hgood:argB ts n hs=true) :
 Calls Tryz.prog 71 #[.slice A m c,.int .i64 n,.slice A' m' c'] w (ConvPost w ts n hs):=by
 have hg:=hgood;simp only[argB,Bool.and_eq_true,decide_eq_true_eq]at hg;obtain⟨⟨⟨⟨_,hn64⟩,hv⟩,hl⟩,hu⟩:=hg;have hmm:m=m':=by rw[ht.len,hh.len];exact hl
 have K1:=iH (valid_any c n ht hm (by omega) (by omega));rw[hv]at K1;have HU:=iH hh;have HT:=iH ht;have Hlt:=iH ht.len;have Hlh:=iH hh.len;have HG:=iH hgood;have HV:=iH hv;have HUn:=iH hu;have HL:=iH hl;have e1:((m:Int) != (m':Int))=false:=by simp;omega
 have e64:n<=64:=by omega
 have Hmm:=iH hmm;clear hgood hv ht hh hu hl hmm;have mk:=fun W=>make_ints n (by omega) W
 go_enter Tryz.func71,Tryz.ntmps71;go_wp2_with fail;refine K1.out.mono ?_;rintro e w1 ⟨rfl,hb1⟩;have K2:=units_any (c:=c') (HU.out.below hb1).row Hlh.out (by omega);rw[HUn.out]at K2;have HK2:=iH K2;clear K2;go_wp2_with fail;refine HK2.out.mono ?_;rintro e w2 ⟨rfl,rfl⟩;have KC:Hid (∀W:World,Below w1.heap.size w1 W->Calls Tryz.prog 212 #[.slice A' m' c'] W fun e w'=>∃v,e=.returned v∧w'.ownsRow W.heap.size 3 1 v m' (ints hs)∧Below W.heap.size W w') :=
  fun W hW=>clone_ints ((HU.out.below hb1).below hW) hm' hA'
 clear K1 HK2;go_wp2_with fail;go_cut [6,7] (fun x v wx=>∃g,x=.slice (some ⟨g,0,none⟩) n n∧ConvAt w wx g v m' (List.replicate n 0) hs)
 case first =>
  go_region_with (first
   | (go_at_call 212;refine(KC.out _ ?_).mono ?_;(first | exact(Below.refl _ _).drew | exact(Below.refl _ _).drew.alloc (Nat.le_refl _) _);rintro e wA ⟨v,rfl,hoA,hbA⟩))
  all_goals (try go_wp2_with fail)
  all_goals go_meet
  all_goals first
   | exact⟨_,rfl,conv_start (hb1.drew) hoA hbA⟩
   | exact⟨_,rfl,conv_start2 hb1 (by simpa using hoA) (undrew (by simpa using hbA))⟩
 case rest =>
  obtain⟨g,rfl,hC⟩:=hcut;clear KC mk;have HC:=iH hC;clear hC;generalize hwc:wc=W0 at *;clear hwc;go_wp2_with fail;generalize u7=v0 at *;go_loopw [6,7,42] (fun xn xl i wr=>xn=.slice (some ⟨g,0,none⟩) n n∧xl=v0∧∃k:Nat,k<=m∧i=.int .i64 k∧ConvAt w wr g v0 m' (nowK ts hs n k) (leftK ts hs m' k)∧∀j:Nat,j<n->sumTo ts hs j k<=1099511627776) (fun _ _ i _=>m-(intOf i).toNat)
  case atStart =>
   refine⟨rfl,rfl,0,Nat.zero_le _,rfl,?_,fun j _=>by simp[sumTo]⟩;rw[nowK_zero,Hlh.out,leftK_zero,<- Hlh.out];exact HC.out
  case round =>
   obtain⟨rfl,hv0,k,hk,rfl,hC,hS⟩:=hrel;subst hv0;clear HC;have HC:=iH hC;have HS:=iH hS;clear hC hS;by_cases hlt:k<m
   ·have hkl:k<ts.length:=by have:=Hlt.out;omega
    have hkh:k<m':=by have:=Hmm.out;omega
    have hB:=HC.out.below;obtain⟨b,off,rfl,hbb,hc⟩:=(HT.out.below hB).row.at_ 0 (by rw[tcells_length];omega);obtain⟨b',off',rfl,hbb',hc'⟩:=(HU.out.below hB).row.at_ k (by rw[ints_length];have:=Hlh.out;omega);obtain⟨t1,t2,t3⟩:=tcells_at ts k hkl;have c1:=hc _ _ t1;have c2:=hc _ _ t2;have c3:=hc _ _ t3;simp only[<- Nat.add_assoc]at c2 c3;have d1:wr.cell? ⟨b',off'+k,none⟩=some (.int .i64 (wAt hs k)):=hc' k _ (ints_at hs k (by have:=Hlh.out;omega));have ho:=okT_cases (validTo_at HV.out k hkl);have hun:0<=wAt hs k∧wAt hs k<=1099511627776:=by
     have:=HUn.out;simp only[unitsB,decide_eq_true_eq]at this;exact this k (by have:=Hlh.out;omega)
    obtain⟨u0,u1⟩:=hun;obtain⟨g2,cap,rfl⟩:∃g2 cap,u7=.slice (some ⟨g2,0,none⟩) m' cap:=by
     rcases HC.out.own.2 with ⟨_,h0⟩|⟨g2,cap,cur,hv,_⟩
     ·omega
     ·exact⟨g2,cap,hv⟩
    clear hc hc' t1 t2 t3 hB;by_cases hneg:itemAt ts k<0
    ·have HN:=iH (nowK_skip ts hs n k hneg);have HLf:=iH (leftK_skip ts hs m' k hneg);have HS2:Hid (∀j:Nat,j<n->sumTo ts hs j (k+1)<=1099511627776):=fun j hj=>by
      simp only[sumTo];rw[if_neg (by omega)];have:=HS.out j hj;omega
     have hC2:=HC.out.alloc (.cells #[.int .i64 (itemAt ts k),.int .i64 (numAt ts k),.int .i64 (denAt ts k)] 115);have HC2:=iH hC2;clear hC2 ho HC HS;generalize itemAt ts k=i at *;generalize numAt ts k=p at *;generalize denAt ts k=q at *;go_wp2;go_roundw
     case rel=>exact⟨rfl,rfl,k+1,by omega,by go_num,by rw[HN.out,HLf.out];exact HC2.out,HS2.out⟩
     case measure=>simp[intOf];omega
    ·rcases ho with ho | ⟨i0,i1,p0,p1,q0,q1⟩
     ·omega
     obtain⟨j,hj⟩:=Int.eq_ofNat_of_zero_le i0;have hjn:j<n:=by omega
     have hLs:=leftK_step ts hs m' k hneg hkh;have hNs:=nowK_step ts hs n k j hj hjn;have hx0:0<=sumTo ts hs j k:=sumTo_nonneg HV.out HUn.out HL.out.symm (by omega);have hx1:=HS.out j hjn;have hmono:sumTo ts hs j (k+1)<=sumTo ts hs j ts.length:=sumTo_mono HV.out HUn.out HL.out.symm (by omega) (Nat.le_refl _);have hsucc:sumTo ts hs j (k+1)=sumTo ts hs j k+term ts hs k:=by simp[sumTo,hj]
     rw[hsucc]at hmono;have HSx:Hid (sumTo ts hs j k+term ts hs k<=1099511627776->∀i:Nat,i<n->sumTo ts hs i (k+1)<=1099511627776):=fun h i hi=>by
      by_cases e:i=j
      ·subst e;rw[hsucc];exact h
      ·simp only[sumTo];rw[if_neg (by omega)];have:=HS.out i hi;omega
     have HE4:Hid (1099511627776<sumTo ts hs j k+term ts hs k->convE ts n hs=4):=fun h=>by
      refine convE_lim HG.out ?_;simp only[limB,decide_eq_false_iff_not];intro hall;have:=hall j (by simpa using hjn);unfold mu at this;omega
     have hK0:0<=wAt hs k / denAt ts k:=Int.ediv_nonneg u0 (by omega);have hK1:wAt hs k / denAt ts k<=1099511627776:=Int.le_trans (Int.ediv_le_self _ u0) u1;have hT:=prod_bd hK0 hK1 p0 p1;have hD:wAt hs k-wAt hs k / denAt ts k*denAt ts k=wAt hs k % denAt ts k:=by
      have:=Int.emod_def (wAt hs k) (denAt ts k);rw[Int.mul_comm]at this;omega
     have hD0:=Int.emod_nonneg (wAt hs k) (show denAt ts k≠0 by omega);have hterm:term ts hs k=wAt hs k / denAt ts k*numAt ts k:=rfl;have htd:(wAt hs k).tdiv (denAt ts k)=wAt hs k / denAt ts k:=Int.tdiv_eq_ediv_of_nonneg u0;rw[<- hD]at hLs hD0;rw[hterm]at hmono HSx HE4;have n1:wr.cell? ⟨g,j,none⟩=some (.int .i64 (sumTo ts hs j k)):=(HC.out.bk.cell j).trans (by simp[ints,nowK_at _ _ _ _ _ hjn]);have f1:wr.frozen? ⟨g,j,none⟩=false:=HC.out.bk.frozen j;have l1:wr.cell? ⟨g2,k,none⟩=some (.int .i64 (wAt hs k)):=(HC.out.own.cellAt k (by omega)).trans (by simp[ints,leftK_at _ _ _ _ hkh]);have f2:wr.frozen? ⟨g2,k,none⟩=false:=HC.out.own.frozenAt k;have lg:g<wr.heap.size:=HC.out.bk.lt;have lg2:g2<wr.heap.size:=(HC.out.own.lt g2 rfl).2;have hgg:g≠g2:=fun e=>HC.out.ne (by rw[e];rfl)
     have Hn1:Hid ((ints (nowK ts hs n k))[j]? = some (.int .i64 (sumTo ts hs j k))):=by show(ints (nowK ts hs n k))[j]? = _;simp[ints,nowK_at _ _ _ _ _ hjn]
     have Hl1:Hid ((ints (leftK ts hs m' k))[k]? = some (.int .i64 (wAt hs k))):=by show(ints (leftK ts hs m' k))[k]? = _;simp[ints,leftK_at _ _ _ _ hkh]
     have Hn2:Hid ((ints (nowK ts hs n (k+1)))[j]? = some (.int .i64 (sumTo ts hs j k+term ts hs k))):=by show(ints (nowK ts hs n (k+1)))[j]? = _;simp only[ints,List.getElem?_map,nowK_at _ _ _ _ _ hjn,hsucc];rfl
     have HNs:=iH hNs;have HLs:=iH hLs;rw[hterm]at HNs Hn2;have HC1:=HC.out.alloc (.cells #[.int .i64 (itemAt ts k),.int .i64 (numAt ts k),.int .i64 (denAt ts k)] 115);rw[hj]at c1 HC1;clear hNs hLs hsucc hterm hmono hD hneg i0 i1 HS;generalize hKK:wAt hs k / denAt ts k=K at *;generalize sumTo ts hs j k=x at *;generalize hhk:wAt hs k=h at *;generalize numAt ts k=p at *;generalize denAt ts k=q at *;have g0:(q == 0)=false:=by simp;omega
     have g1:¬ q=0:=by omega
     have g3:IntKind.i64.wrap K=K:=IntWalk.i64_in _ (by omega);obtain⟨T,hTe⟩:∃T,T=K*p:=⟨_,rfl⟩;obtain⟨D,hDe⟩:∃D,D=K*q:=⟨_,rfl⟩;rw[<- hTe]at hT HNs Hn2 HSx HE4;rw[<- hDe]at HLs hD0;have g4:IntKind.i64.wrap (K*p)=T:=by rw[hTe];exact IntWalk.i64_in _ (by omega)
     have hq2:=Int.mul_nonneg hK0 (show 0<=q by omega);rw[<- hDe]at hq2;have g5:IntKind.i64.wrap (K*q)=D:=by rw[hDe];exact IntWalk.i64_in _ (by omega)
     have g6:IntKind.i64.wrap (x+T)=x+T:=IntWalk.i64_in _ (by omega);have g7:IntKind.i64.wrap (h-D)=h-D:=IntWalk.i64_in _ (by omega);have j0:(0:Int)<=(j:Int):=by omega
     have j1:(j:Int)<(n:Int):=by omega
     have k0:(0:Int)<=(k:Int):=by omega
     have k1:(k:Int)<(m':Int):=by omega
     have hj2:¬ (j:Int)<0:=by omega
     have HC1':=iH HC1;have hX:Hid (Bk (wr.alloc (.cells #[.int .i64 (j:Int),.int .i64 p,.int .i64 q] 115)) wr.heap.size 115 [.int .i64 (j:Int),.int .i64 p,.int .i64 q]):=Bk.new wr 115 [.int .i64 (j:Int),.int .i64 p,.int .i64 q];have d1':(wr.alloc (.cells #[.int .i64 (j:Int),.int .i64 p,.int .i64 q] 115)).cell? ⟨b',off'+k,none⟩=some (.int .i64 h):=(World.cell?_alloc_past _ _ _ hbb').trans d1;have hgx:g≠wr.heap.size:=by omega
     have hgx2:g2≠wr.heap.size:=by omega
     clear hKK hhk HC HC1 d1 f1 f2 n1 l1 lg lg2 hTe hDe;go_wp2_with fail;generalize wr.alloc (.cells #[.int .i64 (j:Int),.int .i64 p,.int .i64 q] 115)=W at *;have gxW:=hX.out.lt;generalize wr.heap.size=gx at *;have x0:=hX.out.k0;have x1:=hX.out.k1;have x2:=hX.out.k2;go_quiet (fail);have HC2:=iH (HC1'.out.drewN nq);have HX2:=iH (hX.out.drewN nq);clear x0 x1 x2 d1' HC1' hX;generalize W.drewN nq=V at *;have x0:=HX2.out.k0;have x1:=HX2.out.k1;have x2:=HX2.out.k2;have n1:V.cell? ⟨g,j,none⟩=some (.int .i64 x):=(HC2.out.bk.cell j).trans Hn1.out;have f1:V.frozen? ⟨g,j,none⟩=false:=HC2.out.bk.frozen j;have lg:g<V.heap.size:=HC2.out.bk.lt;clear g0 g1 g3 htd;go_wp2_with fail;go_still_tail 11,(by kernel_rfl);change wpList _ _ _ _ _ V.drew;have HC3:=iH (HC2.out.drew);have HX3:=iH (HX2.out.drew);clear x0 x1 x2 n1 f1 lg HC2 HX2;generalize V.drew=V1 at *;have n1:V1.cell? ⟨g,j,none⟩=some (.int .i64 x):=(HC3.out.bk.cell j).trans Hn1.out;have f1:V1.frozen? ⟨g,j,none⟩=false:=HC3.out.bk.frozen j;have lg:g<V1.heap.size:=HC3.out.bk.lt;go_wp2_with fail;have HC4:=iH (HC3.out.setNow j (x+T));have HX4:Hid (Bk (V1.setCell ⟨g,j,none⟩ (.int .i64 (x+T))) gx 115 [.int .i64 (j:Int),.int .i64 p,.int .i64 q]):=HX3.out.far (Ne.symm hgx) _;rw[HNs.out]at HC4;clear n1 f1 lg HC3 HX3 g4 g6;generalize V1.setCell ⟨g,j,none⟩ (.int .i64 (x+T))=V2 at *;have x2:=HX4.out.k2;have l1:V2.cell? ⟨g2,k,none⟩=some (.int .i64 h):=(HC4.out.own.cellAt k (by omega)).trans Hl1.out;have f2:V2.frozen? ⟨g2,k,none⟩=false:=HC4.out.own.frozenAt k;have lg2:g2<V2.heap.size:=(HC4.out.own.lt g2 rfl).2;go_still_tail 10,(by kernel_rfl);change wpList _ _ _ _ _ V2.drew;have HC5:=iH (HC4.out.drew);have HX5:=iH (HX4.out.drew);clear x2 l1 f2 lg2 HC4 HX4;generalize V2.drew=V3 at *;have l1:V3.cell? ⟨g2,k,none⟩=some (.int .i64 h):=(HC5.out.own.cellAt k (by omega)).trans Hl1.out;have f2:V3.frozen? ⟨g2,k,none⟩=false:=HC5.out.own.frozenAt k;have lg2:g2<V3.heap.size:=(HC5.out.own.lt g2 rfl).2;have HC6:=iH (HC5.out.setLeft k (h-D));rw[HLs.out]at HC6;have x0:(V3.setCell ⟨g2,k,none⟩ (.int .i64 (h-D))).cell? ⟨gx,0,none⟩=some (.int .i64 (j:Int)):=(HX5.out.far (p:=⟨g2,k,none⟩) (Ne.symm hgx2) _).cell 0;have n4:(V3.setCell ⟨g2,k,none⟩ (.int .i64 (h-D))).cell? ⟨g,j,none⟩=some (.int .i64 (x+T)):=(HC6.out.bk.cell j).trans Hn2.out;clear g5 g7;by_cases hbig:1099511627776<x+T
     ·have HE:=iH (HE4.out hbig);go_wp2_with fail
      go_ret3
      exact convPost_err HE.out (by omega) HC6.out.below
     ·have HSn:=iH (HSx.out (by omega));go_wp2_with fail;go_roundw
      case rel=>exact⟨rfl,rfl,k+1,by omega,by go_num,HC6.out,HSn.out⟩
      case measure=>simp[intOf];omega
   ·have hkm:k=m:=by omega
    have hkl:k=ts.length:=by have:=Hlt.out;omega
    have hkm2:m'=k:=by have:=Hmm.out;omega
    have hlim:limB ts n hs=true:=by
     simp only[limB,decide_eq_true_eq];intro j hj;rw[<- hkl];exact HS.out j (by simpa using hj)
    have hC:=HC.out;rw[hkm2]at hC;have HF:=iH (convPost_ok (cap:=n) HG.out hlim hkl hC);clear hC hlim hkl hkm2 hkm;go_wp2_with fail
    go_ret3
    exact HF.out
end
def ftab (K:Nat) (f:Nat->Int):List Int:=(List.range K).map f
@[simp] theorem ftab_length (K : Nat) (f : Nat -> Int) : (ftab K f).length = K := by simp [ftab]
section
theorem row_form {W:World} {base:Nat} {e:TypeId} {size n:Nat} {v:Value} {xs:List Value} (h:W.ownsRow base e size v n xs):∃A c,v=.slice A n c∧Row W W.heap.size A xs∧(A=none->n=0∧c=0)∧∀a,A=some a->v.ownBlock=some a.block:=by
 obtain⟨hl,h⟩:=h;rcases h with ⟨rfl,rfl⟩|⟨g,cap,cur,rfl,hb,hh,hn,hm,hs,ht⟩
 ·exact⟨none,0,rfl,.inl (List.eq_nil_of_length_eq_zero (by simpa using hl)),(fun _=>⟨rfl,rfl⟩),(fun a e=>by cases e)⟩
 ·obtain⟨A,c,hv,hr⟩:=row_of_owns (W:=W) (base:=base) (e:=e) (size:=size) (n:=n) (v:=.slice (some ⟨g,0,none⟩) n cap) (xs:=xs) ⟨hl,.inr ⟨g,cap,cur,rfl,hb,hh,hn,hm,hs,ht⟩⟩;cases hv;exact⟨_,_,rfl,hr,(fun e=>by cases e),(fun a e=>by cases e;rfl)⟩
theorem row_some {W:World} {base:Nat} {e:TypeId} {size n:Nat} {v:Value} {xs:List Value} (h:W.ownsRow base e size v n xs) (hn:0<n):∃g cap,v=.slice (some ⟨g,0,none⟩) n cap:=by
 rcases h.2 with ⟨_,h0⟩|⟨g,cap,cur,hv,_⟩
 ·omega
 ·exact⟨g,cap,hv⟩
structure L1 (w2 w3 W : World) (va vp vr : Value) (K k : Nat) (al pa re : List Int) : Prop where
 all:W.ownsRow w2.heap.size 3 1 va K (ints al)
 alt:∀g,va.ownBlock=some g->g<w3.heap.size
 op:W.ownsRow w3.heap.size 3 1 vp k (ints pa)
 or_:W.ownsRow w3.heap.size 3 1 vr k (ints re)
 ap:∀g,vp.ownBlock=some g->vr.ownBlock≠some g
 below:Below w2.heap.size w2 W
 le:w2.heap.size<=w3.heap.size
 le3:w3.heap.size<=W.heap.size
section
variable {w2 w3 W : World} {va vp vr : Value} {K k : Nat} {al pa re : List Int}
theorem L1.drewN (h:L1 w2 w3 W va vp vr K k al pa re) (n:Nat):L1 w2 w3 (W.drewN n) va vp vr K k al pa re:=⟨h.all,h.alt,h.op,h.or_,h.ap,bel_drewN h.below n,h.le,h.le3⟩
theorem ne_row {W:World} {B E s n g:Nat} {v:Value} {xs:List Value} (h:W.ownsRow B E s v n xs) (hg:g<B):v.ownBlock≠some g:=fun e=>by have:=(h.lt g e).1;omega
end
end
def kindL:List Int:=[0,0,0,0,0,0,0,0,0,1,1,0,0,0,0,0,0,0,0,0,0,0,0,0,0,0,0,0,0,0,0,0,1,0,0,2,0,0,0,0,7,7,0,7,7,6,7,0,4,4,4,4,4,4,4,4,4,4,7,7,7,7,7,0,0,0,0,0,0,0,0,0,0,0,0,0,0,0,0,0,0,0,0,0,0,0,0,0,0,0,0,0,0,0,0,5,0,3,3,3,3,3,3,3,3,3,3,3,3,3,3,3,3,3,3,3,3,3,3,3,3,3,3,7,0,7,0,0]
def kindOf (i:Nat):Int:=kindL[i]?.getD 0
def Tab (w:World):Prop:=4<=w.heap.size∧∀i,i<128->w.cell? ⟨3,i,none⟩=some (.int .u8 (kindOf i))
theorem Tab.below {B:Nat} {w w':World} (h:Tab w) (hb:Below B w w') (hB:4<=B):Tab w' :=
 ⟨Nat.le_trans h.1 hb.size,fun i hi=>(hb.cell (p:=⟨3,i,none⟩) (by simp;omega)).trans (h.2 i hi)⟩
def kindAt (s:ByteArray) (i:Nat):Int:=if h:i<s.size then(if s[i].toNat<128 then kindOf s[i].toNat else 0) else 0
theorem kindAt_any (s:ByteArray) (i:Nat) (w:World) (hT:Tab w) :
 Calls Tryz.prog 341 #[.string s,.int .i64 i] w fun e w'=>e=.returned (.int .u8 (kindAt s i))∧w=w':=by
 by_cases hlt:i<s.size
 ·have hbd:=s[i].toNat_lt;by_cases hc:s[i].toNat<128
  ·have hcell:=hT.2 s[i].toNat hc;have Hk:Hid (kindAt s i=kindOf s[i].toNat):=by show kindAt s i=_;simp[kindAt,hlt,hc]
   generalize kindOf s[i].toNat=k at hcell Hk;go_enter Tryz.func341,Tryz.ntmps341;go_wp2;go_ret;exact⟨by rw[Hk.out];rfl,rfl⟩
  ·have Hk:Hid (kindAt s i=0):=by show kindAt s i=_;simp[kindAt,hlt,hc]
   go_enter Tryz.func341,Tryz.ntmps341;go_wp2;go_ret;exact⟨by rw[Hk.out];rfl,rfl⟩
 ·have Hk:Hid (kindAt s i=0):=by show kindAt s i=_;simp[kindAt,hlt]
  go_enter Tryz.func341,Tryz.ntmps341;go_wp2;go_ret;exact⟨by rw[Hk.out];rfl,rfl⟩
theorem skip_stay (s:ByteArray) (i:Nat) (w:World) (hT:Tab w) (h1:kindAt s i≠1) (h2:kindAt s i≠2) :
 Calls Tryz.prog 236 #[.string s,.int .i64 i] w fun e w'=>e=.returned (.int .i64 i)∧w=w':=by
 have q1:(kindAt s i == 1)=false:=by simpa using h1
 have q2:(kindAt s i == 2)=false:=by simpa using h2
 have HT:=iH hT;clear h1 h2 hT;by_cases hlt:i<s.size
 ·go_enter Tryz.func236,Tryz.ntmps236;go_wp2;refine wp_loop_rounds 1 ?_;rw[rounds_succ];go_wp2_with fail;refine(kindAt_any s i _ HT.out).mono ?_;rintro e w' ⟨rfl,rfl⟩;generalize kindAt s i=k at *;go_wp2;go_ret;exact⟨rfl,rfl⟩
 ·go_enter Tryz.func236,Tryz.ntmps236;go_wp2;refine wp_loop_rounds 1 ?_;rw[rounds_succ];go_wp2;go_ret;exact⟨rfl,rfl⟩
def wordB (k:Int):Bool:=(k == 3) || (k == 4) || (k == 5)
theorem next_word (s:ByteArray) (p:Nat) (w:World) (hT:Tab w) (h0:kindAt s p=3) (hall:∀i,p<=i->i<s.size->wordB (kindAt s i)=true) (hl:p<s.size) (hl2:s.size<=16) :
 Calls Tryz.prog 237 #[.string s,.int .i64 p] w fun e w'=>e=.returned (.tuple #[.agg #[.int .i64 0,.string (s.extract p s.size),.int .i64 0,.int .i64 p],.int .i64 0])∧Below w.heap.size w w':=by
 have HT:=iH hT;have H0:=iH h0;have Ha:=iH hall;have hend:kindAt s s.size=0:=by simp[kindAt]
 have He:=iH hend;clear hT h0 hall hend;go_enter Tryz.func237,Tryz.ntmps237;go_wp2_with fail;refine(kindAt_any s p _ (HT.out.below ((((Below.refl _ w).alloc (Nat.le_refl _) _).alloc (by simp) _)) HT.out.1)).mono ?_;rintro e w' ⟨rfl,rfl⟩;rw[H0.out];go_wp2_with fail;refine(kindAt_any s (p+1) _ (HT.out.below ((((Below.refl _ w).alloc (Nat.le_refl _) _).alloc (by simp) _)) HT.out.1)).mono ?_;rintro e w' ⟨rfl,rfl⟩;obtain⟨k1,hk1⟩:∃k1,k1=kindAt s (p+1):=⟨_,rfl⟩;have Hk1:=iH hk1;rw[<- hk1];clear hk1;go_wp2_with fail
 go_loop [7,8] (fun e k=>∃j:Nat,p+1<=j∧j<=s.size∧e=.int .i64 j∧k=.int .u8 (kindAt s j)) (fun e _=>s.size-(intOf e).toNat)
 case atStart=>exact⟨p+1,Nat.le_refl _,hl,by go_num,by rw[Hk1.out]⟩
 case round =>
  obtain⟨j,hj1,hj2,rfl,rfl⟩:=hrel;by_cases hlt:j<s.size
  ·have hwb:=Ha.out j (by omega) hlt;have hk:kindAt s j=3∨kindAt s j=4∨kindAt s j=5:=by simpa[wordB,or_assoc]using hwb
   clear hwb;generalize kindAt s j=k at *;rcases hk with rfl|rfl|rfl
   all_goals
    go_wp2_with fail;refine(kindAt_any s (j+1) _ (HT.out.below ((((Below.refl _ w).alloc (Nat.le_refl _) _).alloc (by simp) _)) HT.out.1)).mono ?_;rintro e w' ⟨rfl,rfl⟩;go_wp2_with fail
    go_round
    case rel=>exact⟨j+1,by omega,by omega,by go_num,rfl⟩
    case measure=>simp[intOf];omega
  ·obtain rfl:j=s.size:=by omega
   rw[He.out];go_wp2;refine bodyPost_ret (v:=.tuple #[.agg #[.int .i64 0,.string (s.extract p s.size),.int .i64 0,.int .i64 p],.int .i64 0]) (by simp[results,Tryz.results237,go_sem]) rfl ⟨rfl,?_⟩;exact(((Below.refl _ w).alloc (Nat.le_refl _) _).alloc (by simp) _)
theorem next_other (s:ByteArray) (p:Nat) (w:World) (hT:Tab w) (h0:kindAt s p=0) (hl2:s.size<=16) (hl:p<s.size) :
 Calls Tryz.prog 237 #[.string s,.int .i64 p] w fun e w'=>e=.returned (.tuple #[.agg #[.int .i64 0,.string ⟨#[]⟩,.int .i64 0,.int .i64 p],.int .i64 2])∧Below w.heap.size w w':=by
 have HT:=iH hT;have H0:=iH h0;clear hT h0;go_enter Tryz.func237,Tryz.ntmps237;go_wp2_with fail;refine(kindAt_any s p _ (HT.out.below ((((Below.refl _ w).alloc (Nat.le_refl _) _).alloc (by simp) _)) HT.out.1)).mono ?_;rintro e w' ⟨rfl,rfl⟩;rw[H0.out];go_wp2;refine bodyPost_ret (v:=.tuple #[.agg #[.int .i64 0,.string ⟨#[]⟩,.int .i64 0,.int .i64 p],.int .i64 2]) (by simp[results,Tryz.results237,go_sem]) rfl ⟨rfl,?_⟩;exact(((Below.refl _ w).alloc (Nat.le_refl _) _).alloc (by simp) _)
end
end Go.Proofs.YtiecjoijnkghbaaGreatDoor
