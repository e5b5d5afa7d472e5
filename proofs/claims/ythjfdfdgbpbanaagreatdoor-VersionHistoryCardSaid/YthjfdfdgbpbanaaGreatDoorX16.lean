/- New on catalogs of plain names. The contracts of Missing, Last, Start, and of Add where an item without counterpart is held. The contract of the reference's Missing. Convert and its reference at whatever arguments; the bags that VersionConverts tries. The walk of VersionThen, for whatever shows that lives returns true. Between, in plain words. The contract of Add where an item without counterpart is held. The contract of lives: the example of the section. The walk of lives. Arguments: a slice of integers, opened; the table of kinds from the row's list; what a row's end wants. -/
import Derived.Test.YthjfdfdgbpbanaaGreatDoorX1
import Derived.Test.YthjfdfdgbpbanaaGreatDoorX3
import Derived.Test.YthjfdfdgbpbanaaGreatDoorX13
import Derived.Test.YthjfdfdgbpbanaaGreatDoorX14
import Derived.Test.YthjfdfdgbpbanaaGreatDoorX15
import Derived.Test.YthjfdfdgbpbanaaGreatDoorCards
import Derived.Test.YthjfdfdgbpbanaaGreatDoorTie
import Derived.WalkKit
import Derived.ProofKit
import Derived.OpenShut
import Derived.Deep.DeepHandedRow
import Derived.Lib.LaidTab
set_option linter.unusedVariables false
set_option linter.unusedSimpArgs false
set_option maxRecDepth 100000
set_option maxHeartbeats 2000000
open Go.RowKit
namespace Go.Proofs.YthjfdfdgbpbanaaGreatDoor
theorem ItemsV.itsR1 {w:World} {A:Option Addr} {n:Nat} {l:List It} (h:ItemsV w A n l):ItsR w A n l:=⟨h.row,h.len,h.small,fun t ht=>by have:=(h.name t ht).len;omega⟩
theorem New_valid {w:World} {io ro to_ xo ix rx tx xx R:Sl} {lo ln:List It} {rs:List Ren} (ho:ItemsV w io.A io.n lo) (hn:ItemsV w ix.A ix.n ln) (hr:RensV w R.A R.n rs)
 (HV:Hid (∀W:World,Below w.heap.size w W->Calls Tryz.prog 43 #[catS io ro to_ xo,catS ix rx tx xx] W fun e w'=>e=.returned (.int .i64 0)∧Below W.heap.size W w')) :
 Calls Tryz.prog 12 #[catS io ro to_ xo,catS ix rx tx xx,.slice R.A R.n R.c] w (NewPost w lo ln rs):=New_valid2 ho.itsR1 hn.itsR1 hr HV
def missB (ts:List Tr) (hs:List Int) (i:Nat):Bool:=decide (0<wAt hs i) && (decide (ts.length<=i) || decide (itemAt ts i<0))
def missTo (ts:List Tr) (hs:List Int):Nat->Option Nat
 | 0=>none
 | k+1=>match missTo ts hs k with | some i=>some i | none=>if missB ts hs k=true then some k else none
theorem missTo_stays {ts:List Tr} {hs:List Int} {k i:Nat} (h:missTo ts hs k=some i):∀m,k<=m->missTo ts hs m=some i:=by
 intro m hm
 induction m with
 | zero => obtain rfl : k = 0 := by omega
           exact h
 | succ m ih =>
   by_cases e:k=m+1
   ·subst e;exact h
   ·simp only[missTo,ih (by omega)]
def missI (ts:List Tr) (hs:List Int):Option Nat:=missTo ts hs hs.length
def MissPost (w:World) (ts:List Tr) (hs:List Int) (e:Ending) (w':World):Prop:=e=.returned (.tuple #[.int .i64 (((missI ts hs).getD 0:Nat):Int),.bool (missI ts hs).isSome])∧w=w'
theorem missing_any {w:World} {A A':Option Addr} {m m':Nat} (c c':Nat) {ts:List Tr} {hs:List Int} (ht:TosV w A m ts) (hh:IntsV w A' m' hs) (hm:m<=1000000) (hm':m'<=1000000) :
 Calls Tryz.prog 24 #[.slice A m c,.slice A' m' c'] w (MissPost w ts hs):=by
 have Hlt:=iH ht.len;have Hlh:=iH hh.len;have HT:=iH ht;have HU:=iH hh;clear ht hh;go_enter Tryz.func24,Tryz.ntmps24;go_wp2_with fail
 go_loop [10] (fun i=>∃k:Nat,k<=m'∧i=.int .i64 k∧missTo ts hs k=none) (fun i=>m'-(intOf i).toNat)
 case atStart=>exact⟨0,Nat.zero_le _,rfl,rfl⟩
 case round =>
  obtain⟨k,hk,rfl,hN⟩:=hrel;have HN:=iH hN;clear hN;by_cases hlt:k<m'
  ·obtain⟨b',off',rfl,hbb',hc'⟩:=HU.out.row.at_ k (by rw[ints_length];have:=Hlh.out;omega);have d1:w.cell? ⟨b',off'+k,none⟩=some (.int .i64 (wAt hs k)):=hc' k _ (ints_at hs k (by have:=Hlh.out;omega));have Hno:Hid (missB ts hs k=false->missTo ts hs (k+1)=none):=fun h=>by simp[missTo,HN.out,h]
   have Hyes:Hid (missB ts hs k=true->missI ts hs=some k):=fun h=>by
    have:missTo ts hs (k+1)=some k:=by simp[missTo,HN.out,h]
    exact missTo_stays this _ (by have:=Hlh.out;omega)
   have Hd:Hid (missB ts hs k=(decide (0<wAt hs k) && (decide (m<=k) || decide (itemAt ts k<0)))):=by show missB ts hs k=_;rw[Hlt.out];rfl
   clear hc';by_cases h0:0<wAt hs k
   ·by_cases h1:m<=k
    ·have Hq:=iH (Hyes.out (by rw[Hd.out];simp[h0,h1]));clear Hyes Hno Hd;generalize wAt hs k=x at *;have e1:decide (m<=k)=true:=by simpa using h1
     go_wp2_with fail;go_ret2;exact⟨by rw[Hq.out];rfl,rfl⟩
    ·obtain⟨b,off,rfl,hbb,hc⟩:=HT.out.row.at_ 0 (by rw[tcells_length];have:=Hlt.out;omega);have c1:=hc _ _ (tcells_at ts k (by have:=Hlt.out;omega)).1;have e1:decide (m<=k)=false:=by simpa using h1
     have k0:(0:Int)<=(k:Int):=by omega
     have k1:(k:Int)<(m:Int):=by omega
     clear hc;by_cases h2:itemAt ts k<0
     ·have Hq:=iH (Hyes.out (by rw[Hd.out];simp[h0,h2]));clear Hyes Hno Hd;generalize wAt hs k=x at *;generalize itemAt ts k=y at *;go_wp2_with fail;go_ret2;exact⟨by rw[Hq.out];rfl,rfl⟩
     ·have Hq:=iH (Hno.out (by rw[Hd.out];simp[e1];omega));clear Hyes Hno Hd;generalize wAt hs k=x at *;generalize itemAt ts k=y at *;go_wp2_with fail
      go_round
      case rel=>exact⟨k+1,by omega,by go_num,Hq.out⟩
      case measure=>simp[intOf];omega
   ·have Hq:=iH (Hno.out (by rw[Hd.out];simp[h0]));have e0:decide (0<wAt hs k)=false:=by simpa using h0
    clear Hyes Hno Hd;generalize wAt hs k=x at *;go_wp2_with fail
    go_round
    case rel=>exact⟨k+1,by omega,by go_num,Hq.out⟩
    case measure=>simp[intOf];omega
  ·have hkn:k=hs.length:=by have:=Hlh.out;omega
   have Hq:Hid (missI ts hs=none):=by show missI ts hs=none;unfold missI;rw[<- hkn];exact HN.out
   clear hkn;go_wp2_with fail;go_ret2;exact⟨by rw[Hq.out];rfl,rfl⟩
theorem last_any {w:World} {h n c:Nat} {A:Option Addr} (hn:n<=1000000) (hc:w.cell? ⟨h,0,none⟩=some (.slice A n c)) :
 Calls Tryz.prog 38 #[.pointer (some ⟨h,0,none⟩)] w fun e w'=>e=.returned (.int .i64 ((n:Int)-1))∧w=w':=by
 go_enter Tryz.func38,Tryz.ntmps38;go_wp2;go_ret;exact⟨rfl,rfl⟩
structure HistAt (W : World) (h gc : Nat) (A : Option Addr) (n c : Nat) (l : List It) : Prop where
 bh:Bk W h 143 [.slice (some ⟨gc,0,none⟩) 1 1,nilS]
 bc:Bk W gc 28 [.slice A n c,nilS,nilS,nilS]
 items:ItemsV W A n l
theorem HistAt.grow {W W':World} {h gc:Nat} {A:Option Addr} {n c:Nat} {l:List It} (H:HistAt W h gc A n c l) (hb:Below W.heap.size W W'):HistAt W' h gc A n c l:=⟨H.bh.below hb H.bh.lt,H.bc.below hb H.bc.lt,H.items.below hb⟩
def StartPost (w:World) (n:Nat) (l:List It) (e:Ending) (w':World):Prop:=∃h gc a c,e=.returned (.tuple #[.pointer (some ⟨h,0,none⟩),.int .i64 0])∧HistAt w' h gc (some a) n c l∧Below w.heap.size w w'
theorem start_items {w:World} {a:Addr} {n:Nat} (c:Nat) {l:List It} (h:CatV w (some a) n l) (h1:0<n):Calls Tryz.prog 34 #[catV (some a) n c] w (StartPost w n l):=by
 have hb0:Below w.heap.size w (w.alloc (catO (some a) n c)):=(Below.refl _ _).alloc (Nat.le_refl _) _;have H:=iH h;clear h;go_enter Tryz.func34,Tryz.ntmps34;go_wp2_with fail;refine(valid_items c (H.out.below hb0)).mono ?_;rintro e w1 ⟨rfl,hb1⟩;have k1:Bk w1 w.heap.size 28 (catL (some a) n c):=(Bk.new w 28 (catL (some a) n c)).below hb1 (by simp);have G1:Below w.heap.size w w1:=hb0.trans (hb1.mono (by simp));have KC:=iH (copies_items c (H.out.items.below G1));have s0:=k1.k0;have s1:=k1.k1;have s2:=k1.k2;have s3:=k1.k3;clear hb0 hb1 k1;go_wp2_with fail;refine KC.out.mono ?_;rintro e w2 ⟨v,rfl,ho,hb2⟩;obtain⟨g,cap,rfl⟩:=row_some ho h1;have hit:ItemsV w2 (some ⟨g,0,none⟩) n l:=by
  obtain⟨A,c',e,hr⟩:=row_of_owns ho;cases e;exact⟨hr,H.out.items.len,H.out.items.small,H.out.items.name⟩
 have G2:=G1.trans (hb2.mono G1.size);have Hit:=iH hit;clear s0 s1 s2 s3 hb2 ho hit KC;go_wp2;go_ret2;have kb:=Bk.new (w2.alloc (.cells #[.slice (some ⟨g,0,none⟩) n cap,nilS,nilS,nilS] 28)) 143 [.slice (some ⟨w2.heap.size,0,none⟩) 1 1,nilS];rw[World.size_alloc]at kb;refine⟨w2.heap.size+1,w2.heap.size,⟨g,0,none⟩,cap,rfl,⟨kb,(Bk.new w2 28 [.slice (some ⟨g,0,none⟩) n cap,nilS,nilS,nilS]).alloc _,?_⟩,?_⟩
 ·exact Hit.out.below (((Below.refl _ w2).alloc (Nat.le_refl _) _).alloc (by simp) _)
 ·exact(G2.alloc G2.size _).alloc (by have:=G2.size;simp;omega) _
theorem rmissing_any {w:World} {A A':Option Addr} {m m':Nat} (c c':Nat) {ts:List Tr} {hs:List Int} (ht:TosV w A m ts) (hh:IntsV w A' m' hs) (hm:m<=1000000) (hm':m'<=1000000) :
 Calls Tryz.prog 26 #[.slice A m c,.slice A' m' c'] w (MissPost w ts hs):=by
 have Hlt:=iH ht.len;have Hlh:=iH hh.len;have HT:=iH ht;have HU:=iH hh;clear ht hh;go_enter Tryz.func26,Tryz.ntmps26;go_wp2_with fail
 go_loop [6] (fun i=>∃k:Nat,k<=m'∧i=.int .i64 k∧missTo ts hs k=none) (fun i=>m'-(intOf i).toNat)
 case atStart=>exact⟨0,Nat.zero_le _,rfl,rfl⟩
 case round =>
  obtain⟨k,hk,rfl,hN⟩:=hrel;have HN:=iH hN;clear hN;by_cases hlt:k<m'
  ·obtain⟨b',off',rfl,hbb',hc'⟩:=HU.out.row.at_ k (by rw[ints_length];have:=Hlh.out;omega);have d1:w.cell? ⟨b',off'+k,none⟩=some (.int .i64 (wAt hs k)):=hc' k _ (ints_at hs k (by have:=Hlh.out;omega));have Hno:Hid (missB ts hs k=false->missTo ts hs (k+1)=none):=fun h=>by simp[missTo,HN.out,h]
   have Hyes:Hid (missB ts hs k=true->missI ts hs=some k):=fun h=>by
    have:missTo ts hs (k+1)=some k:=by simp[missTo,HN.out,h]
    exact missTo_stays this _ (by have:=Hlh.out;omega)
   have Hd:Hid (missB ts hs k=(decide (0<wAt hs k) && (decide (m<=k) || decide (itemAt ts k<0)))):=by show missB ts hs k=_;rw[Hlt.out];rfl
   clear hc';by_cases h0:0<wAt hs k
   ·by_cases h1:m<=k
    ·have Hq:=iH (Hyes.out (by rw[Hd.out];simp[h0,h1]));clear Hyes Hno Hd;generalize wAt hs k=x at *;have e1:decide (m<=k)=true:=by simpa using h1
     go_wp2_with fail;go_ret2;exact⟨by rw[Hq.out];rfl,rfl⟩
    ·obtain⟨b,off,rfl,hbb,hc⟩:=HT.out.row.at_ 0 (by rw[tcells_length];have:=Hlt.out;omega);have c1:=hc _ _ (tcells_at ts k (by have:=Hlt.out;omega)).1;have e1:decide (m<=k)=false:=by simpa using h1
     have k0:(0:Int)<=(k:Int):=by omega
     have k1:(k:Int)<(m:Int):=by omega
     clear hc;by_cases h2:itemAt ts k<0
     ·have Hq:=iH (Hyes.out (by rw[Hd.out];simp[h0,h2]));clear Hyes Hno Hd;generalize wAt hs k=x at *;generalize itemAt ts k=y at *;go_wp2_with fail;go_ret2;exact⟨by rw[Hq.out];rfl,rfl⟩
     ·have Hq:=iH (Hno.out (by rw[Hd.out];simp[e1];omega));clear Hyes Hno Hd;generalize wAt hs k=x at *;generalize itemAt ts k=y at *;go_wp2_with fail
      go_round
      case rel=>exact⟨k+1,by omega,by go_num,Hq.out⟩
      case measure=>simp[intOf];omega
   ·have Hq:=iH (Hno.out (by rw[Hd.out];simp[h0]));have e0:decide (0<wAt hs k)=false:=by simpa using h0
    clear Hyes Hno Hd;generalize wAt hs k=x at *;go_wp2_with fail
    go_round
    case rel=>exact⟨k+1,by omega,by go_num,Hq.out⟩
    case measure=>simp[intOf];omega
  ·have hkn:k=hs.length:=by have:=Hlh.out;omega
   have Hq:Hid (missI ts hs=none):=by show missI ts hs=none;unfold missI;rw[<- hkn];exact HN.out
   clear hkn;go_wp2_with fail;go_ret2;exact⟨by rw[Hq.out];rfl,rfl⟩
def BagAt (W:World) (g i:Nat) (A:Option Addr) (m c:Nat) (zs:List Int):Prop:=W.cell? ⟨g,i,none⟩=some (.slice A m c)∧IntsV W A m zs∧m<=1000∧(A=none->m=0∧c=0)
def Bags (W:World) (g:Nat):Prop:=g<W.heap.size∧∀i,i<3->∃A m c zs,BagAt W g i A m c zs
def Numbers (W:World) (g:Nat):Prop:=g<W.heap.size∧∀i,i<3->∃z:Int,W.cell? ⟨g,i,none⟩=some (.int .i64 z)∧-9223372036854775808<=z∧z<=9223372036854775807
theorem BagAt.below {W W':World} {g i m c:Nat} {A:Option Addr} {zs:List Int} (h:BagAt W g i A m c zs) (hg:g<W.heap.size) (hb:Below W.heap.size W W'):BagAt W' g i A m c zs :=
 ⟨(hb.cell hg).trans h.1,h.2.1.below hb,h.2.2⟩
theorem Bags.below {W W':World} {g:Nat} (h:Bags W g) (hb:Below W.heap.size W W'):Bags W' g :=
 ⟨Nat.lt_of_lt_of_le h.1 hb.size,fun i hi=>by obtain⟨A,m,c,zs,hB⟩:=h.2 i hi;exact⟨A,m,c,zs,hB.below h.1 hb⟩⟩
theorem Numbers.below {W W':World} {g:Nat} (h:Numbers W g) (hb:Below W.heap.size W W'):Numbers W' g :=
 ⟨Nat.lt_of_lt_of_le h.1 hb.size,fun i hi=>by obtain⟨z,hz,hB⟩:=h.2 i hi;exact⟨z,(hb.cell h.1).trans hz,hB⟩⟩
theorem then_all {w:World} {A A':Option Addr} {m m':Nat} (c c':Nat) {ts us:List Tr} (ht:TosV w A m ts) (hu:TosV w A' m' us) (hm:m<=1000000) (hm':m'<=1000000) :
 Calls Tryz.prog 30 #[.slice A m c,.slice A' m' c'] w (ThenPost w ts us):=by
 cases hg:thenArg ts us
 ·exact then_bad c c' ht hu hm hm' hg
 ·exact then_good c c' ht hu hm hm' hg
theorem rthen_all {w:World} {A A':Option Addr} {m m':Nat} (c c':Nat) {ts us:List Tr} (ht:TosV w A m ts) (hu:TosV w A' m' us) (hm:m<=1000000) (hm':m'<=1000000) :
 Calls Tryz.prog 31 #[.slice A m c,.slice A' m' c'] w (ThenPost w ts us):=by
 cases hg:thenArg ts us
 ·exact rthen_bad c c' ht hu hm hm' hg
 ·exact rthen_good c c' ht hu hm hm' hg
theorem own_below {w w':World} {B E s n:Nat} {v:Value} {xs:List Value} (h:w.ownsRow B E s v n xs) (hb:Below w.heap.size w w'):w'.ownsRow B E s v n xs :=
 h.kept (grown_of_below hb none) (by cases h1:v.ownBlock with | none=>exact .inl rfl | some g=>exact .inr (by simp))
theorem thenL_len (ts us:List Tr):(thenL ts us).length<=ts.length:=by
 unfold thenL;split <;> simp
structure Three (w W : World) (vx vy vh : Value) (K : Nat) (ts us : List Tr) (hs : List Int) : Prop where
 x:W.ownsRow w.heap.size 68 3 vx K (tcells ts)
 y:W.ownsRow w.heap.size 68 3 vy 5 (tcells us)
 h:W.ownsRow w.heap.size 3 1 vh K (ints hs)
 xy:∀g,vx.ownBlock=some g->vy.ownBlock≠some g
 xh:∀g,vx.ownBlock=some g->vh.ownBlock≠some g
 yh:∀g,vy.ownBlock=some g->vh.ownBlock≠some g
 below:Below w.heap.size w W
theorem Three.grow {w W W':World} {vx vy vh:Value} {K:Nat} {ts us:List Tr} {hs:List Int} (t:Three w W vx vy vh K ts us hs) (hb:Below W.heap.size W W'):Three w W' vx vy vh K ts us hs :=
 ⟨own_below t.x hb,own_below t.y hb,own_below t.h hb,t.xy,t.xh,t.yh,t.below.trans (hb.mono t.below.size)⟩
def idL (n:Nat):List Tr:=(List.range n).map fun i:Nat=>((i:Int),1,1)
theorem idL_len (n:Nat):(idL n).length=n:=by simp[idL]
theorem idL_next (n:Nat):idL (n+1)=idL n ++ [((n:Int),1,1)]:=by simp[idL,List.range_succ]
def foldT:List Tr->List (List Tr)->List Tr×Int
 | out,[]=>(out,0)
 | out,s :: ss=>if thenE out s=0 then foldT (thenL out s) ss else([],thenE out s)
theorem foldT_bad {out s:List Tr} {ss:List (List Tr)} (h:thenE out s≠0):foldT out (s :: ss)=([],thenE out s):=by simp only[foldT];rw[if_neg h]
theorem foldT_ok {out s:List Tr} {ss:List (List Tr)} (h:thenE out s=0):foldT out (s :: ss)=foldT (thenL out s) ss:=by simp only[foldT];rw[if_pos h]
def betwT (ns:List Nat) (chs:List (List Tr)) (a b:Int):List Tr×Int :=
 if a<0∨(ns.length:Int)<=a∨b<0∨(ns.length:Int)<=b then([],7) else if b<a then([],1) else foldT (idL (ns[a.toNat]?.getD 0)) ((chs.take b.toNat).drop a.toNat)
theorem drop_take_cons {α:Type} {l:List α} {a b:Nat} (h:a<b) (hb:b<=l.length):(l.take b).drop a=(l[a]'(by omega)) :: (l.take b).drop (a+1):=by
 have e:(l.take b).length=b:=by simp;omega
 rw[List.drop_eq_getElem_cons (by omega)];simp
theorem drop_take_nil {α:Type} {l:List α} {a b:Nat} (h:b<=a):(l.take b).drop a=[]:=List.drop_of_length_le (by simp;omega)
theorem rensV_nil (w:World):RensV w none 0 []:=⟨.inl rfl,rfl,by omega,fun k hk=>by omega⟩
theorem add_busy {w:World} {h gc:Nat} {a ax:Addr} {n nx c:Nat} (cx:Nat) {lo ln:List It} {Ah:Option Addr} {ch i:Nat} {hs:List Int} (hH:HistAt w h gc (some a) n c lo) (ho:CatV w (some a) n lo) (hn:CatV w (some ax) nx ln)
 (hh:IntsV w Ah n hs) (hu:unitsB hs=true) (hE:newE lo ln []=0) (hM:missI (newL lo ln []) hs=some i) :
 Calls Tryz.prog 37 #[.pointer (some ⟨h,0,none⟩),catV (some ax) nx cx,.slice none 0 0,.slice Ah n ch] w fun e w'=>e=.returned (.tuple #[.int .i64 (i:Int),.int .i64 13])∧Below w.heap.size w w':=by
 have hb0:Below w.heap.size w (w.alloc (catO (some ax) nx cx)):=(Below.refl _ _).alloc (Nat.le_refl _) _;have hn64:=ho.n64;have HH:=iH hH;have Ho:=iH ho;have Hn:=iH hn;have Hh:=iH hh;have Hu:=iH hu;have HE:=iH hE;have HM:=iH hM;clear hH ho hn hh hu hE hM;have kx:=Bk.new w 28 (catL (some ax) nx cx);have HKX:=iH kx;clear kx;go_enter Tryz.func37,Tryz.ntmps37;go_wp2_with fail;have HH1:=iH (HH.out.grow hb0);have Ho1:=iH (Ho.out.below hb0);have Hn1:=iH (Hn.out.below hb0);have Hh1:=iH (Hh.out.below hb0);generalize w.alloc (catO (some ax) nx cx)=W at *;generalize hgx:w.heap.size=gx at *;have Hgx:=iH hgx;clear hgx HH Ho Hn Hh;have hLs:Hid (∀U:World,Below W.heap.size W U->Calls Tryz.prog 38 #[.pointer (some ⟨h,0,none⟩)] U fun e w'=>e=.returned (.int .i64 (((1:Nat):Int)-1))∧U=w'):=fun U hU=>last_any (by omega) ((HH1.out.grow hU).bh.cell 0)
 have HS:Hid (∀U:World,Below W.heap.size W U->U.cell? ⟨h,0,none⟩=some (.slice (some ⟨gc,0,none⟩) 1 1)∧U.cell? ⟨gc,0,none⟩=some (.slice (some a) n c)∧U.cell? ⟨gc,1,none⟩=some nilS∧U.cell? ⟨gc,2,none⟩=some nilS∧U.cell? ⟨gc,3,none⟩=some nilS):=fun U hU=>by
  have e:=HH1.out.grow hU;exact⟨e.bh.cell 0,e.bc.cell 0,e.bc.cell 1,e.bc.cell 2,e.bc.cell 3⟩
 go_cut [10] (fun x wx=>∃g,x=.pointer (some ⟨g,0,none⟩)∧Bk wx g 28 [.slice (some a) n c,nilS,nilS,nilS]∧Below W.heap.size W wx)
 case first =>
  go_region_held3 (fun U=>U.cell? ⟨h,0,none⟩=some (.slice (some ⟨gc,0,none⟩) 1 1)∧U.cell? ⟨gc,0,none⟩=some (.slice (some a) n c)∧U.cell? ⟨gc,1,none⟩=some nilS∧U.cell? ⟨gc,2,none⟩=some nilS∧U.cell? ⟨gc,3,none⟩=some nilS) (first | exact HS.out _ (Below.refl _ W).drew | exact HS.out _ ((Below.refl _ W).drew.alloc (Nat.le_refl _) _))
   (first | (go_at_call 38;(with_reducible refine(hLs.out _ ?_).mono ?_);(first | exact(Below.refl _ W).drew | exact(Below.refl _ W).drew.alloc (Nat.le_refl _) _);rintro e w' ⟨rfl,rfl⟩))
  all_goals (try go_wp2_with fail)
  all_goals go_meet
  all_goals exact⟨_,rfl,Bk.new _ 28 [.slice (some a) n c,nilS,nilS,nilS],(Below.refl _ W).drew.alloc (Nat.le_refl _) _⟩
 case rest =>
  obtain⟨g,rfl,kg,hbc⟩:=hcut;have kx:=HKX.out.below hbc HKX.out.lt;have p0:=kg.k0;have p1:wc.cell? ⟨g,1,none⟩=some nilS:=kg.cell 1;have p2:wc.cell? ⟨g,2,none⟩=some nilS:=kg.cell 2;have p3:wc.cell? ⟨g,3,none⟩=some nilS:=kg.cell 3;have q0:=kx.k0;have q1:wc.cell? ⟨gx,1,none⟩=some nilS:=kx.cell 1;have q2:wc.cell? ⟨gx,2,none⟩=some nilS:=kx.cell 2;have q3:wc.cell? ⟨gx,3,none⟩=some nilS:=kx.cell 3;have Ho2:=Ho1.out.below hbc;have Hn2:=Hn1.out.below hbc;have KN:=iH (New_valid (w:=wc) (io:=⟨some a,n,c⟩) (ro:=⟨none,0,0⟩) (to_:=⟨none,0,0⟩) (xo:=⟨none,0,0⟩) (ix:=⟨some ax,nx,cx⟩) (rx:=⟨none,0,0⟩) (tx:=⟨none,0,0⟩) (xx:=⟨none,0,0⟩) (R:=⟨none,0,0⟩) (rs:=[]) Ho2.items Hn2.items (rensV_nil wc) (fun V hV=>both_items c cx (Ho2.below hV) (Hn2.below hV)));have Hh2:=iH (Hh1.out.below hbc);have HB:=iH hbc;have KG:=iH kg;clear kx hbc Ho2 Hn2 HS hLs;go_wp2_with fail;refine KN.out.mono ?_;rintro e w1 ⟨A1,c1,rfl,hr1,hb1⟩;rw[HE.out];have kg1:=KG.out.below hb1 KG.out.lt;have r0:=kg1.k0;have KU:=units_any (c:=ch) (Hh2.out.below hb1).row (Hh2.out.below hb1).len (by omega);rw[Hu.out]at KU;have HKU:=iH KU;have en:((n:Int) != (n:Int))=false:=by simp
  have hlen:(newL lo ln []).length<=1000000:=by
   have h1:(newL lo ln []).length<=lo.length:=by unfold newL;split <;> simp
   have:=Ho1.out.items.len;omega
  have KM:=missing_any (c:=c1) (c':=ch) (⟨hr1.row,rfl⟩:TosV w1 A1 (newL lo ln []).length (newL lo ln [])) (Hh2.out.below hb1) hlen (by omega);have HKM:=iH KM;have G1:=HB.out.trans (hb1.mono HB.out.size);clear p0 p1 p2 p3 q0 q1 q2 q3 KN KU KM kg1 hb1 hr1 KG;go_wp2_with fail;refine HKU.out.mono ?_;rintro e w2 ⟨rfl,rfl⟩;go_wp2_with fail;refine HKM.out.mono ?_;rintro e w2 ⟨rfl,rfl⟩;rw[HM.out];simp only[Option.getD_some,Option.isSome_some];go_wp2_with fail;go_ret2;refine⟨rfl,?_⟩;rw[Hgx.out];exact hb0.trans (G1.mono (by have:=HKX.out.lt;omega))
def sOre:ByteArray:=⟨#[111,114,101]⟩
def sWood:ByteArray:=⟨#[119,111,111,100]⟩
def sIron:ByteArray:=⟨#[105,114,111,110]⟩
theorem plain_of_letters (s:ByteArray) (hl:s.size<=16) (h:∀i,i<s.size->kindAt s i=3):PlainName s :=
 ⟨hl,fun p hp=>.inl ⟨h p hp,fun i _ hi=>by rw[h i hi];rfl⟩⟩
theorem plain_ore:PlainName sOre:=by
 refine plain_of_letters sOre (by decide) fun i hi=>?_
 have hi':i<3:=hi;rcases(show i=0∨i=1∨i=2 by omega)with rfl|rfl|rfl <;> decide +kernel
theorem plain_wood:PlainName sWood:=by
 refine plain_of_letters sWood (by decide) fun i hi=>?_
 have hi':i<4:=hi;rcases(show i=0∨i=1∨i=2∨i=3 by omega)with rfl|rfl|rfl|rfl <;> decide +kernel
theorem plain_iron:PlainName sIron:=by
 refine plain_of_letters sIron (by decide) fun i hi=>?_
 have hi':i<4:=hi;rcases(show i=0∨i=1∨i=2∨i=3 by omega)with rfl|rfl|rfl|rfl <;> decide +kernel
def bare (s:ByteArray):It:=⟨s,false,false,false,0,0,0⟩
def oldL:List It:=[bare sOre,bare sWood]
def nextL:List It:=[bare sWood,bare sIron]
def renL:List Ren:=[⟨sOre,sIron,1,2⟩]
theorem good_old:GoodIt oldL:=⟨by decide,by decide +kernel,by decide +kernel,by decide +kernel,by decide +kernel⟩
theorem good_next:GoodIt nextL:=⟨by decide,by decide +kernel,by decide +kernel,by decide +kernel,by decide +kernel⟩
theorem names_old:∀t∈oldL,PlainName t.name:=by
 intro t ht;simp only[oldL,List.mem_cons,List.not_mem_nil,or_false]at ht;rcases ht with rfl|rfl
 ·exact plain_ore
 ·exact plain_wood
theorem names_next:∀t∈nextL,PlainName t.name:=by
 intro t ht;simp only[nextL,List.mem_cons,List.not_mem_nil,or_false]at ht;rcases ht with rfl|rfl
 ·exact plain_wood
 ·exact plain_iron
theorem new_e1:newE oldL nextL renL=0:=by decide +kernel
theorem new_l1:newL oldL nextL renL=[(1,1,2),(0,1,1)]:=by decide +kernel
theorem new_e2:newE oldL nextL []=0:=by decide +kernel
theorem new_l2:newL oldL nextL []=[(-1,0,0),(0,1,1)]:=by decide +kernel
theorem miss_2:missI (newL oldL nextL []) [5,0]=some 0:=by rw[new_l2];decide +kernel
theorem conv_arg:argB [(1,1,2),(0,1,1)] 2 [5,3]=true:=by decide +kernel
theorem conv_e:convE [(1,1,2),(0,1,1)] 2 [5,3]=0:=by decide +kernel
theorem conv_now:nowL [(1,1,2),(0,1,1)] 2 [5,3]=[3,2]:=by decide +kernel
theorem conv_left:leftL [(1,1,2),(0,1,1)] 2 [5,3]=[1,0]:=by decide +kernel
theorem units_50:unitsB [5,0]=true:=by decide +kernel
theorem keep_ok:∀k,k<2->keepErr nextL (itAt oldL k)=0:=by
 intro k hk;rcases(show k=0∨k=1 by omega)with rfl|rfl <;> decide +kernel
structure LvAt (W : World) (n : Nat) : Prop where
 i0:Bk W n 89 (icells oldL)
 c0:Bk W (n+1) 28 [.slice (some ⟨n,0,none⟩) 2 2,nilS,nilS,nilS]
 i1:Bk W (n+2) 89 (icells nextL)
 c1:Bk W (n+3) 28 [.slice (some ⟨n+2,0,none⟩) 2 2,nilS,nilS,nilS]
 tab:Tab W
theorem LvAt.grow {W W':World} {n:Nat} (h:LvAt W n) (hb:Below W.heap.size W W'):LvAt W' n:=⟨h.i0.below hb h.i0.lt,h.c0.below hb h.c0.lt,h.i1.below hb h.i1.lt,h.c1.below hb h.c1.lt,h.tab.below hb h.tab.1⟩
theorem LvAt.old {W:World} {n:Nat} (h:LvAt W n):CatV W (some ⟨n,0,none⟩) 2 oldL:=⟨⟨h.i0.row,rfl,by omega,names_old⟩,good_old,h.tab⟩
theorem LvAt.next {W:World} {n:Nat} (h:LvAt W n):CatV W (some ⟨n+2,0,none⟩) 2 nextL:=⟨⟨h.i1.row,rfl,by omega,names_next⟩,good_next,h.tab⟩
abbrev lvW (w:World):World:=((((w.alloc (.cells #[.string sOre,.bool false,.bool false,.bool false,.int .i64 0,.int .i64 0,.int .i64 0,.string sWood,.bool false,.bool false,.bool false,.int .i64 0,.int .i64 0,.int .i64 0] 89)).alloc (.cells #[.slice (some ⟨w.heap.size,0,none⟩) 2 2,nilS,nilS,nilS] 28)).alloc (.cells #[.string sWood,.bool false,.bool false,.bool false,.int .i64 0,.int .i64 0,.int .i64 0,.string sIron,.bool false,.bool false,.bool false,.int .i64 0,.int .i64 0,.int .i64 0] 89)).alloc (.cells #[.slice (some ⟨w.heap.size+1+1,0,none⟩) 2 2,nilS,nilS,nilS] 28)).alloc (.cells #[.string sOre,.string sIron,.int .i64 1,.int .i64 2] 94)
theorem lives_start (w:World) (hT:Tab w):LvAt (lvW w) w.heap.size∧Below w.heap.size w (lvW w)∧Bk (lvW w) (w.heap.size+4) 94 (rcells renL):=by
 have hB:Below w.heap.size w (lvW w):=(((((Below.refl _ w).alloc (Nat.le_refl _) _).alloc (by simp) _).alloc (by simp;omega) _).alloc (by simp;omega) _).alloc (by simp;omega) _;refine⟨⟨?_,?_,?_,?_,hT.below hB hT.1⟩,hB,?_⟩
 ·exact((((Bk.new w 89 (icells oldL)).alloc _).alloc _).alloc _).alloc _
 ·have:=Bk.new (w.alloc (.cells #[.string sOre,.bool false,.bool false,.bool false,.int .i64 0,.int .i64 0,.int .i64 0,.string sWood,.bool false,.bool false,.bool false,.int .i64 0,.int .i64 0,.int .i64 0] 89)) 28 [.slice (some ⟨w.heap.size,0,none⟩) 2 2,nilS,nilS,nilS];rw[World.size_alloc]at this;exact((this.alloc _).alloc _).alloc _
 ·have:=Bk.new ((w.alloc (.cells #[.string sOre,.bool false,.bool false,.bool false,.int .i64 0,.int .i64 0,.int .i64 0,.string sWood,.bool false,.bool false,.bool false,.int .i64 0,.int .i64 0,.int .i64 0] 89)).alloc (.cells #[.slice (some ⟨w.heap.size,0,none⟩) 2 2,nilS,nilS,nilS] 28)) 89 (icells nextL);rw[World.size_alloc,World.size_alloc]at this;exact(this.alloc _).alloc _
 ·have:=Bk.new (((w.alloc (.cells #[.string sOre,.bool false,.bool false,.bool false,.int .i64 0,.int .i64 0,.int .i64 0,.string sWood,.bool false,.bool false,.bool false,.int .i64 0,.int .i64 0,.int .i64 0] 89)).alloc (.cells #[.slice (some ⟨w.heap.size,0,none⟩) 2 2,nilS,nilS,nilS] 28)).alloc (.cells #[.string sWood,.bool false,.bool false,.bool false,.int .i64 0,.int .i64 0,.int .i64 0,.string sIron,.bool false,.bool false,.bool false,.int .i64 0,.int .i64 0,.int .i64 0] 89)) 28 [.slice (some ⟨w.heap.size+2,0,none⟩) 2 2,nilS,nilS,nilS];rw[World.size_alloc,World.size_alloc,World.size_alloc]at this;exact this.alloc _
 ·have:=Bk.new ((((w.alloc (.cells #[.string sOre,.bool false,.bool false,.bool false,.int .i64 0,.int .i64 0,.int .i64 0,.string sWood,.bool false,.bool false,.bool false,.int .i64 0,.int .i64 0,.int .i64 0] 89)).alloc (.cells #[.slice (some ⟨w.heap.size,0,none⟩) 2 2,nilS,nilS,nilS] 28)).alloc (.cells #[.string sWood,.bool false,.bool false,.bool false,.int .i64 0,.int .i64 0,.int .i64 0,.string sIron,.bool false,.bool false,.bool false,.int .i64 0,.int .i64 0,.int .i64 0] 89)).alloc (.cells #[.slice (some ⟨w.heap.size+2,0,none⟩) 2 2,nilS,nilS,nilS] 28)) 94 (rcells renL);rw[World.size_alloc,World.size_alloc,World.size_alloc,World.size_alloc]at this;exact this
theorem lives_new {W:World} {n:Nat} (h:LvAt W n) (hr:Bk W (n+4) 94 (rcells renL)) :
 Calls Tryz.prog 12 #[catV (some ⟨n,0,none⟩) 2 2,catV (some ⟨n+2,0,none⟩) 2 2,.slice (some ⟨n+4,0,none⟩) 1 1] W fun e w'=>∃A c,e=.returned (.tuple #[.slice A 2 c,.int .i64 0])∧TosV w' A 2 [(1,1,2),(0,1,1)]∧Below W.heap.size W w':=by
 refine(New_valid (w:=W) (io:=⟨some ⟨n,0,none⟩,2,2⟩) (ro:=⟨none,0,0⟩) (to_:=⟨none,0,0⟩) (xo:=⟨none,0,0⟩) (ix:=⟨some ⟨n+2,0,none⟩,2,2⟩) (rx:=⟨none,0,0⟩) (tx:=⟨none,0,0⟩) (xx:=⟨none,0,0⟩) (R:=⟨some ⟨n+4,0,none⟩,1,1⟩) (rs:=renL) h.old.items h.next.items ⟨hr.row,rfl,by dsimp only;omega,fun k hk=>?_⟩ (fun V hV=>both_items 2 2 (h.grow hV).old (h.grow hV).next)).mono ?_
 ·obtain rfl:k=0:=by dsimp only at hk;omega
  exact⟨by unfold maxLen;decide,by unfold maxLen;decide⟩
 ·rintro e w' ⟨A,c,rfl,hrow,hb⟩;rw[new_l1]at hrow⊢;rw[new_e1];exact⟨A,c,rfl,⟨hrow.row,rfl⟩,hb⟩
theorem lives_conv {W:World} {A:Option Addr} {g:Nat} (c:Nat) (h:TosV W A 2 [(1,1,2),(0,1,1)]) (hg:Bk W g 3 (ints [5,3])) :
 Calls Tryz.prog 27 #[.slice A 2 c,.int .i64 2,.slice (some ⟨g,0,none⟩) 2 2] W fun e w'=>∃A1 c1 A2 c2,e=.returned (.tuple #[.slice A1 2 c1,.slice A2 2 c2,.int .i64 0])∧Row w' w'.heap.size A1 (ints [3,2])∧Row w' w'.heap.size A2 (ints [1,0])∧Below W.heap.size W w':=by
 have hi:IntsV W (some ⟨g,0,none⟩) 2 [5,3]:=⟨hg.row,rfl,fun z hz=>by
  simp only[List.mem_cons,List.not_mem_nil,or_false]at hz
  rcases hz with rfl|rfl <;> omega⟩
 refine(conv_good (n:=2) c 2 h hi (by omega) (by omega) (fun e=>by cases e) conv_arg).mono ?_;rintro e w' ⟨A1,c1,A2,c2,rfl,h1,h2,hb⟩;have e1:convE [(1,1,2),(0,1,1)] ((2:Nat):Int) [5,3]=0:=conv_e;have e2:nowL [(1,1,2),(0,1,1)] ((2:Nat):Int) [5,3]=[3,2]:=conv_now;have e3:leftL [(1,1,2),(0,1,1)] ((2:Nat):Int) [5,3]=[1,0]:=conv_left;rw[e2]at h1;rw[e3]at h2;rw[e1,e2,e3];exact⟨A1,c1,A2,c2,rfl,h1,h2,hb⟩
theorem merge_len:(mergeL oldL nextL 2).length=3:=by decide +kernel
theorem merge_2:(itAt (mergeL oldL nextL 2) 2).name=sIron:=by decide +kernel
theorem lives_merge {W:World} {n:Nat} (h:LvAt W n) :
 Calls Tryz.prog 18 #[catV (some ⟨n,0,none⟩) 2 2,catV (some ⟨n+2,0,none⟩) 2 2] W fun e w'=>∃b off c,e=.returned (.tuple #[.agg #[.slice (some ⟨b,off,none⟩) 3 c,nilS,nilS,nilS],.int .i64 0])∧w'.cell? ⟨b,off+14,none⟩=some (.string sIron)∧b<w'.heap.size∧Below W.heap.size W w':=by
 refine(Merge_ok 2 2 h.old h.next keep_ok (by omega) (by omega)).mono ?_;rintro e w' ⟨A,c,rfl,hrow,hb⟩;obtain⟨b,off,rfl,hbb,hc⟩:=hrow.at_ 14 (by rw[icells_length,merge_len];omega);refine⟨b,off,c,by rw[merge_len],?_,hbb,hb⟩;have hg:=icells_get (mergeL oldL nextL 2) 2 0 (by rw[merge_len];omega) (by omega);have:=hc 14 (.string (itAt (mergeL oldL nextL 2) 2).name) hg;rw[merge_2]at this;exact this
theorem lives_any (w:World) (hT:Tab w):Calls Tryz.prog 17 #[] w fun e w'=>e=.returned (.bool true)∧Below w.heap.size w w':=by
 have HL:=iH (lives_start w hT);clear hT;go_enter Tryz.func17,Tryz.ntmps17;go_wp2_with fail;change Calls Tryz.prog 12 #[catV (some ⟨w.heap.size,0,none⟩) 2 2,catV (some ⟨w.heap.size+2,0,none⟩) 2 2,.slice (some ⟨w.heap.size+4,0,none⟩) 1 1] (lvW w) _;obtain⟨L0,B0,R0⟩:=HL.out;refine(lives_new L0 R0).mono ?_;rintro e w1 ⟨A1,c1,rfl,t1,hb1⟩;have L1:=L0.grow hb1;have B1:=B0.trans (hb1.mono B0.size);have HL1:=iH L1;have HT1:=iH t1;have HB1:=iH B1;clear L0 R0 B0 HL L1 B1 t1 hb1;have KV:=iH (lives_conv c1 (HT1.out.below ((Below.refl _ _).alloc (Nat.le_refl _) (.cells #[.int .i64 5,.int .i64 3] 3))) (Bk.new w1 3 (ints [5,3])));generalize hn:w.heap.size=n at *;have Hn:=iH hn;clear hn;go_wp2_with fail;refine KV.out.mono ?_;rintro e w2 ⟨A3,c3,A4,c4,rfl,r3,r4,hb2⟩;have bal:Below w1.heap.size w1 (w1.alloc (.cells #[.int .i64 5,.int .i64 3] 3)):=(Below.refl _ _).alloc (Nat.le_refl _) _;have hb12:Below w1.heap.size w1 w2:=bal.trans (hb2.mono (by simp));have HL2:=iH (HL1.out.grow hb12);have HT2:=iH (HT1.out.below hb12);have HB2:=iH (HB1.out.trans (hb12.mono (by have:=HB1.out.size;rw[Hn.out]at this;exact this)));have HR3:=iH r3;have HR4:=iH r4;clear r3 r4 hb2 bal hb12 KV HL1 HT1 HB1;have a0:=HL2.out.c0.k0;have a1:w2.cell? ⟨n+1,1,none⟩=some nilS:=HL2.out.c0.cell 1;have a2:w2.cell? ⟨n+1,2,none⟩=some nilS:=HL2.out.c0.cell 2;have a3:w2.cell? ⟨n+1,3,none⟩=some nilS:=HL2.out.c0.cell 3;have b0:=HL2.out.c1.k0;have b1:w2.cell? ⟨n+1+1+1,1,none⟩=some nilS:=HL2.out.c1.cell 1;have b2:w2.cell? ⟨n+1+1+1,2,none⟩=some nilS:=HL2.out.c1.cell 2;have b3:w2.cell? ⟨n+1+1+1,3,none⟩=some nilS:=HL2.out.c1.cell 3;go_wp2_with fail;refine(lives_merge HL2.out).mono ?_;rintro e w3 ⟨bm,om,cm,rfl,hm,hbm,hb3⟩;have HL3:=iH (HL2.out.grow hb3);have HT3:=iH (HT2.out.below hb3);have HB3:=iH (HB2.out.trans (hb3.mono (by have:=HB2.out.size;rw[Hn.out]at this;exact this)));have HR33:=iH ((HR3.out.below hb3).more hb3.size);have HR34:=iH ((HR4.out.below hb3).more hb3.size);clear hb3 HL2 HT2 HB2 HR3 HR4 a0 a1 a2 a3 b0 b1 b2 b3;have a0:=HL3.out.c0.k0;have a1:w3.cell? ⟨n+1,1,none⟩=some nilS:=HL3.out.c0.cell 1;have a2:w3.cell? ⟨n+1,2,none⟩=some nilS:=HL3.out.c0.cell 2;have a3:w3.cell? ⟨n+1,3,none⟩=some nilS:=HL3.out.c0.cell 3;have al:=HL3.out.c0.lt;have bal:Below w3.heap.size w3 (w3.alloc (.cells #[.slice (some ⟨bm,om,none⟩) 3 cm,nilS,nilS,nilS] 28)):=(Below.refl _ _).alloc (Nat.le_refl _) _;have KS:=iH (start_items 2 (HL3.out.grow bal).old (by omega));have K9:=iH (Bk.new w3 28 [.slice (some ⟨bm,om,none⟩) 3 cm,nilS,nilS,nilS]);go_wp2_with fail;refine KS.out.mono ?_;rintro e w4 ⟨h,gc,ah,ch,rfl,hH,hb4⟩;have hb34:Below w3.heap.size w3 w4:=bal.trans (hb4.mono (by simp));have HL4:=iH (HL3.out.grow hb34);have HT4:=iH (HT3.out.below hb34);have HB4:=iH (HB3.out.trans (hb34.mono (by have:=HB3.out.size;rw[Hn.out]at this;exact this)));have HR43:=iH ((HR33.out.below hb34).more hb34.size);have HR44:=iH ((HR34.out.below hb34).more hb34.size);have HH4:=iH hH;have hm4:w4.cell? ⟨bm,om+14,none⟩=some (.string sIron):=(hb34.cell (p:=⟨bm,om+14,none⟩) hbm).trans hm;have k9:=(K9.out.below hb4 (by simp)).k0;clear hb34 hb4 bal KS K9 HL3 HT3 HB3 HR33 HR34 a0 a1 a2 a3 hm hH al hbm;have b0:=HL4.out.c1.k0;have b1:w4.cell? ⟨n+1+1+1,1,none⟩=some nilS:=HL4.out.c1.cell 1;have b2:w4.cell? ⟨n+1+1+1,2,none⟩=some nilS:=HL4.out.c1.cell 2;have b3:w4.cell? ⟨n+1+1+1,3,none⟩=some nilS:=HL4.out.c1.cell 3;have es:(!sIron.toList == [105,114,111,110])=false:=by decide +kernel
 have es2:(sIron.toList == [105,114,111,110])=true:=by decide +kernel
 go_wp2_with fail;have bal:Below w4.heap.size w4 (w4.alloc (.cells #[.int .i64 5,.int .i64 0] 3)):=(Below.refl _ _).alloc (Nat.le_refl _) _;have hi5:IntsV (w4.alloc (.cells #[.int .i64 5,.int .i64 0] 3)) (some ⟨w4.heap.size,0,none⟩) 2 [5,0]:=⟨(Bk.new w4 3 (ints [5,0])).row,rfl,fun z hz=>by
  simp only[List.mem_cons,List.not_mem_nil,or_false]at hz
  rcases hz with rfl|rfl <;> omega⟩
 have hH5:=HH4.out.grow bal;refine(add_busy 2 hH5 ⟨hH5.items,good_old,(HL4.out.grow bal).tab⟩ (HL4.out.grow bal).next hi5 units_50 new_e2 miss_2).mono ?_;rintro e w5 ⟨rfl,hb5⟩;have hb45:Below w4.heap.size w4 w5:=bal.trans (hb5.mono (by simp));have HT5:=HT4.out.below hb45;have HB5:=iH (HB4.out.trans (hb45.mono (by have:=HB4.out.size;rw[Hn.out]at this;exact this)));have HR53:=iH ((HR43.out.below hb45).more hb45.size);have HR54:=iH ((HR44.out.below hb45).more hb45.size);obtain⟨b,off,rfl,hbb,hc⟩:=HT5.row.at_ 0 (by decide);have t0:w5.cell? ⟨b,off,none⟩=some (.int .i64 1):=hc 0 _ rfl;have t1:w5.cell? ⟨b,off+1,none⟩=some (.int .i64 1):=hc 1 _ rfl;have t2:w5.cell? ⟨b,off+2,none⟩=some (.int .i64 2):=hc 2 _ rfl;have t3:w5.cell? ⟨b,off+3,none⟩=some (.int .i64 0):=hc 3 _ rfl;have t4:w5.cell? ⟨b,off+3+1,none⟩=some (.int .i64 1):=hc 4 _ rfl;have t5:w5.cell? ⟨b,off+3+2,none⟩=some (.int .i64 1):=hc 5 _ rfl;clear hb45 hb5 bal HT5 hi5 hH5 hc b0 b1 b2 b3 k9 hm4 HL4 HT4 HB4 HR43 HR44 HH4 es es2;have q1:∀W:World,(binOp .eql 64 (.agg #[.int .i64 1,.int .i64 1,.int .i64 2]) (.agg #[.int .i64 1,.int .i64 1,.int .i64 2])).run Tryz.prog W=.ok (.bool true) W:=fun W=>by kernel_rfl
 have q2:∀W:World,(binOp .eql 64 (.agg #[.int .i64 0,.int .i64 1,.int .i64 1]) (.agg #[.int .i64 0,.int .i64 1,.int .i64 1])).run Tryz.prog W=.ok (.bool true) W:=fun W=>by kernel_rfl
 go_wp2_with fail;have K1:=Bk.new w5 3 (ints [3,2]);have ba1:Below w5.heap.size w5 (w5.alloc (.cells #[.int .i64 3,.int .i64 2] 3)):=(Below.refl _ _).alloc (Nat.le_refl _) _;refine(same_any (n:=2) (m:=2) (xs:=[3,2]) (ys:=[3,2]) ((HR53.out.below ba1).more ba1.size) K1.row rfl rfl (by decide)).mono ?_;rintro e w6 ⟨rfl,hb6⟩;rw[show sameB [3,2] [3,2]=true from by decide];have hb56:Below w5.heap.size w5 w6:=ba1.trans (hb6.mono (by simp));have HB6:=iH (HB5.out.trans (hb56.mono (by have:=HB5.out.size;rw[Hn.out]at this;exact this)));have HR64:=iH ((HR54.out.below hb56).more hb56.size);clear hb6 hb56 ba1 K1 HR53 HR54 HB5 t0 t1 t2 t3 t4 t5;go_wp2_with fail;have K2:=Bk.new w6 3 (ints [1,0]);have ba2:Below w6.heap.size w6 (w6.alloc (.cells #[.int .i64 1,.int .i64 0] 3)):=(Below.refl _ _).alloc (Nat.le_refl _) _;refine(same_any (n:=2) (m:=2) (xs:=[1,0]) (ys:=[1,0]) ((HR64.out.below ba2).more ba2.size) K2.row rfl rfl (by decide)).mono ?_;rintro e w7 ⟨rfl,hb7⟩;rw[show sameB [1,0] [1,0]=true from by decide];have hb67:Below w6.heap.size w6 w7:=ba2.trans (hb7.mono (by simp));have HB7:=HB6.out.trans (hb67.mono (by have:=HB6.out.size;rw[Hn.out]at this;exact this));clear hb7 hb67 ba2 K2 HR64 HB6;go_wp2;go_ret;exact⟨rfl,by rw[Hn.out];exact HB7⟩
section
open Go.ChangeAt Go.ChangeShapes Go.WideShapes
theorem ownOff:ownKnob Tryz.prog.godebug=none:=by kernel_rfl
theorem laidOutAll:laidOutB Tryz.prog=true:=by kernel_rfl
theorem gKinds : Tryz.prog.globalNamed "worldmint/lexer.kinds" = some 0 := by kernel_rfl
theorem cellsInt:Tryz.prog.cellsOf 3=1:=by kernel_rfl
theorem hrec22:Tryz.prog.readableRec 22=true:=by kernel_rfl
theorem hlt22:22<Tryz.prog.types.size:=of_decide_eq_true (by kernel_rfl)
theorem ints_opened {H:Type} {enc:TypeId×Value->H} {W:World} {A:Option Addr} {n c:Nat} {d:DataW H} {p:List MemPlace} (h:DataW.Trod enc Tryz.prog W 0 (fun _=>true) true 22 (.slice A n c) d p):∃zs,IntsV W A n zs:=by
 obtain⟨fuel,hf⟩:=h;rcases open_ints Tryz.underlying22 Tryz.underlying3 cellsInt hf with ⟨hcs,hx⟩|⟨a,len,cap,zs,hcs,_,hl,hm,hz,hx,hcell,hwz⟩
 ·change[Value.slice A n c]=_ at hcs;obtain⟨rfl,rfl,rfl⟩:A=none∧n=0∧c=0:=by simpa using hcs
  exact⟨[],.inl rfl,rfl,fun z hz=>by cases hz⟩
 ·change[Value.slice A n c]=_ at hcs;obtain⟨rfl,rfl,rfl⟩:A=some a∧n=len∧c=cap:=by simpa using hcs
  rw[if_pos rfl]at hz;refine⟨zs.take n,?_,by simp;omega,fun z hz'=>?_⟩
  ·by_cases h0:n=0
   ·left;simp[ints,h0]
   ·right;have hc0:=hcell 0 (by omega);have ha:a.add 0=a:=by simp[Addr.add]
    rw[ha]at hc0;obtain⟨b,off,sp⟩:=a;cases sp with
    | some s=>simp[World.cell?]at hc0;split at hc0 <;> simp at hc0
    | none =>
      have hb:b<W.heap.size:=by
       rcases Nat.lt_or_ge b W.heap.size with h|h
       ·exact h
       ·simp[World.cell?,Array.getElem?_eq_none h]at hc0
      refine⟨b,off,rfl,hb,fun j u hu=>?_⟩;have hj:j<n∧j<zs.length:=by
       have:=(List.getElem?_eq_some_iff.1 hu).1;simp[ints]at this;omega
      have hcj:=hcell j hj.2;have e1:(⟨b,off,none⟩:Addr).add j=⟨b,off+j,none⟩:=by
       unfold Addr.add;split
       ·subst_vars;rfl
       ·rfl
      rw[e1]at hcj;rw[hcj,<- hu];simp[ints,hj.1,hj.2]
  ·have:=hwz z (List.mem_of_mem_take hz');have:=bounds_i64 this;omega
theorem kindsType:(Tryz.prog.globals[0]?).map (·.type)=some 245:=by kernel_rfl
theorem kindsU:Tryz.prog.underlying 245=some (.array 128 5):=by kernel_rfl
theorem u8U:Tryz.prog.underlying 5=some (.int .u8):=by kernel_rfl
theorem u8C:Tryz.prog.cellsOf 5=1:=by kernel_rfl
theorem kindsC:Tryz.prog.cellsOf 245=128:=by kernel_rfl
theorem table_of {W : World} (h : laidMetH Tryz.prog [("worldmint/lexer.kinds", Rows.laid_worldmint_lexer_kinds)] W) : Tab W := by
 have ht : Lib.TabIs Tryz.prog W "worldmint/lexer.kinds" .u8 kindL := Lib.tabIs_of_head (rest := []) gKinds kindsType kindsU u8U u8C kindsC h
 have hc:∀i,i<128->W.cell? ⟨0,i,none⟩=some (.int .u8 (kindOf i)):=fun i hi=>by
  have:=ht.cell gKinds i hi;simpa[kindOf]using this
 refine⟨?_,hc⟩;have:=hc 0 (by omega);rcases Nat.lt_or_ge 0 W.heap.size with h|h
 ·exact h
 ·simp[World.cell?,Array.getElem?_eq_none h]at this
noncomputable def laidWorld (os:Os):World :=
 { World.holding Tryz.prog os ⟨#[],#[],[]⟩with heap:=(World.holding Tryz.prog os ⟨#[],#[],[]⟩).heap.modify 0 fun
  | .cells _ t frozen=>.cells (kindL.map (Value.int .u8)).toArray t frozen
  | o=>o }
end
end Go.Proofs.YthjfdfdgbpbanaaGreatDoor
