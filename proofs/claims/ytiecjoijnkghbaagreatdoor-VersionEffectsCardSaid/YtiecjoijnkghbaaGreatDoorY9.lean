/- The contracts of Missing, Last, Start, and of Add where an item without counterpart is held. The contract of Add where an item without counterpart is held. The contract of lives: the example of the section. The walk of lives. Arguments: a slice of integers, opened; the table of kinds from the row's list; what a row's end wants. The reference's Item and alike. The plain law of New: names that differ, renames and their marks. The reference's New on valid catalogs whose names differ. New and the reference's New on any catalogs answer alike. The reference's generator of renames: some renames. The generator of catalogs: its memory, next, some, amounts. The generator of catalogs: amounts and item. The plain law of amounts that come back. -/
import Derived.Test.YtiecjoijnkghbaaGreatDoorY1
import Derived.Test.YtiecjoijnkghbaaGreatDoorY3
import Derived.Test.YtiecjoijnkghbaaGreatDoorY4
import Derived.Test.YtiecjoijnkghbaaGreatDoorY5
import Derived.Test.YtiecjoijnkghbaaGreatDoorY7
import Derived.Test.YtiecjoijnkghbaaGreatDoorY8
import Derived.Test.YtiecjoijnkghbaaGreatDoorCards
import Derived.Test.YtiecjoijnkghbaaGreatDoorTie
import Derived.WalkKit
import Derived.ProofKit
import Derived.OpenShut
import Derived.Deep.DeepHandedRow
import Derived.Lib.LaidTab
import Derived.Deep.CutBlock
import Derived.Deep.DeepCutAuto
import Derived.Deep.RegionHeld3
import Derived.BigQuiet
import Derived.Maps.AppendAt
import Derived.Deep.AppendLies
set_option linter.unusedVariables false
set_option linter.unusedSimpArgs false
set_option maxRecDepth 100000
set_option maxHeartbeats 2000000
open Go.RowKit
namespace Go.Proofs.YtiecjoijnkghbaaGreatDoor
section
open Go.ChangeAt Go.ChangeShapes Go.WideShapes
set_option linter.unusedVariables false
set_option linter.unusedSimpArgs false
def missB (ts:List Tr) (hs:List Int) (i:Nat):Bool:=decide (0<wAt hs i) && (decide (ts.length<=i) || decide (itemAt ts i<0))
def missTo (ts:List Tr) (hs:List Int):Nat->Option Nat
 | 0=>none
 | k+1=>match missTo ts hs k with | some i=>some i | none=>if missB ts hs k=true then some k else none
theorem missTo_stays {ts:List Tr} {hs:List Int} {k i:Nat} (h:missTo ts hs k=some i):∀m,k<=m->missTo ts hs m=some i:=by
 intro m hm
 induction m with
 | zero => obtain rfl : k = 0 := by omega
           exact h
 | succ m ih =>
   by_cases e:k=m+1
   ·subst e;exact h
   ·simp only[missTo,ih (by omega)]
def missI (ts:List Tr) (hs:List Int):Option Nat:=missTo ts hs hs.length
def MissPost (w:World) (ts:List Tr) (hs:List Int) (e:Ending) (w':World):Prop:=e=.returned (.tuple #[.int .i64 (((missI ts hs).getD 0:Nat):Int),.bool (missI ts hs).isSome])∧w=w'
theorem missing_any {w:World} {A A':Option Addr} {m m':Nat} (c c':Nat) {ts:List Tr} {hs:List Int} (ht:TosV w A m ts) (hh:IntsV w A' m' hs) (hm:m<=1000000) (hm':m'<=1000000) :
 Calls Tryz.prog 214 #[.slice A m c,.slice A' m' c'] w (MissPost w ts hs):=by
 have Hlt:=iH ht.len;have Hlh:=iH hh.len;have HT:=iH ht;have HU:=iH hh;clear ht hh;go_enter Tryz.func214,Tryz.ntmps214;go_wp2_with fail
 go_loop [10] (fun i=>∃k:Nat,k<=m'∧i=.int .i64 k∧missTo ts hs k=none) (fun i=>m'-(intOf i).toNat)
 case atStart=>exact⟨0,Nat.zero_le _,rfl,rfl⟩
 case round =>
  obtain⟨k,hk,rfl,hN⟩:=hrel;have HN:=iH hN;clear hN;by_cases hlt:k<m'
  ·obtain⟨b',off',rfl,hbb',hc'⟩:=HU.out.row.at_ k (by rw[ints_length];have:=Hlh.out;omega);have d1:w.cell? ⟨b',off'+k,none⟩=some (.int .i64 (wAt hs k)):=hc' k _ (ints_at hs k (by have:=Hlh.out;omega));have Hno:Hid (missB ts hs k=false->missTo ts hs (k+1)=none):=fun h=>by simp[missTo,HN.out,h]
   have Hyes:Hid (missB ts hs k=true->missI ts hs=some k):=fun h=>by
    have:missTo ts hs (k+1)=some k:=by simp[missTo,HN.out,h]
    exact missTo_stays this _ (by have:=Hlh.out;omega)
   have Hd:Hid (missB ts hs k=(decide (0<wAt hs k) && (decide (m<=k) || decide (itemAt ts k<0)))):=by show missB ts hs k=_;rw[Hlt.out];rfl
   clear hc';by_cases h0:0<wAt hs k
   ·by_cases h1:m<=k
    ·have Hq:=iH (Hyes.out (by rw[Hd.out];simp[h0,h1]));clear Hyes Hno Hd;generalize wAt hs k=x at *;have e1:decide (m<=k)=true:=by simpa using h1
     go_wp2_with fail;go_ret2;exact⟨by rw[Hq.out];rfl,rfl⟩
    ·obtain⟨b,off,rfl,hbb,hc⟩:=HT.out.row.at_ 0 (by rw[tcells_length];have:=Hlt.out;omega);have c1:=hc _ _ (tcells_at ts k (by have:=Hlt.out;omega)).1;have e1:decide (m<=k)=false:=by simpa using h1
     have k0:(0:Int)<=(k:Int):=by omega
     have k1:(k:Int)<(m:Int):=by omega
     clear hc;by_cases h2:itemAt ts k<0
     ·have Hq:=iH (Hyes.out (by rw[Hd.out];simp[h0,h2]));clear Hyes Hno Hd;generalize wAt hs k=x at *;generalize itemAt ts k=y at *;go_wp2_with fail;go_ret2;exact⟨by rw[Hq.out];rfl,rfl⟩
     ·have Hq:=iH (Hno.out (by rw[Hd.out];simp[e1];omega));clear Hyes Hno Hd;generalize wAt hs k=x at *;generalize itemAt ts k=y at *;go_wp2_with fail
      go_round
      case rel=>exact⟨k+1,by omega,by go_num,Hq.out⟩
      case measure=>simp[intOf];omega
   ·have Hq:=iH (Hno.out (by rw[Hd.out];simp[h0]));have e0:decide (0<wAt hs k)=false:=by simpa using h0
    clear Hyes Hno Hd;generalize wAt hs k=x at *;go_wp2_with fail
    go_round
    case rel=>exact⟨k+1,by omega,by go_num,Hq.out⟩
    case measure=>simp[intOf];omega
  ·have hkn:k=hs.length:=by have:=Hlh.out;omega
   have Hq:Hid (missI ts hs=none):=by show missI ts hs=none;unfold missI;rw[<- hkn];exact HN.out
   clear hkn;go_wp2_with fail;go_ret2;exact⟨by rw[Hq.out];rfl,rfl⟩
theorem last_any {w:World} {h n c:Nat} {A:Option Addr} (hn:n<=1000000) (hc:w.cell? ⟨h,0,none⟩=some (.slice A n c)) :
 Calls Tryz.prog 213 #[.pointer (some ⟨h,0,none⟩)] w fun e w'=>e=.returned (.int .i64 ((n:Int)-1))∧w=w':=by
 go_enter Tryz.func213,Tryz.ntmps213;go_wp2;go_ret;exact⟨rfl,rfl⟩
structure HistAt (W : World) (h gc : Nat) (A : Option Addr) (n c : Nat) (l : List It) : Prop where
 bh:Bk W h 300 [.slice (some ⟨gc,0,none⟩) 1 1,nilS]
 bc:Bk W gc 28 [.slice A n c,nilS,nilS,nilS]
 items:ItemsV W A n l
theorem HistAt.grow {W W':World} {h gc:Nat} {A:Option Addr} {n c:Nat} {l:List It} (H:HistAt W h gc A n c l) (hb:Below W.heap.size W W'):HistAt W' h gc A n c l:=⟨H.bh.below hb H.bh.lt,H.bc.below hb H.bc.lt,H.items.below hb⟩
def StartPost (w:World) (n:Nat) (l:List It) (e:Ending) (w':World):Prop:=∃h gc a c,e=.returned (.tuple #[.pointer (some ⟨h,0,none⟩),.int .i64 0])∧HistAt w' h gc (some a) n c l∧Below w.heap.size w w'
theorem start_items {w:World} {a:Addr} {n:Nat} (c:Nat) {l:List It} (h:CatV w (some a) n l) (h1:0<n):Calls Tryz.prog 72 #[catV (some a) n c] w (StartPost w n l):=by
 have hb0:Below w.heap.size w (w.alloc (catO (some a) n c)):=(Below.refl _ _).alloc (Nat.le_refl _) _;have H:=iH h;clear h;go_enter Tryz.func72,Tryz.ntmps72;go_wp2_with fail;refine(valid_items c (H.out.below hb0)).mono ?_;rintro e w1 ⟨rfl,hb1⟩;have k1:Bk w1 w.heap.size 28 (catL (some a) n c):=(Bk.new w 28 (catL (some a) n c)).below hb1 (by simp);have G1:Below w.heap.size w w1:=hb0.trans (hb1.mono (by simp));have KC:=iH (copies_items c (H.out.items.below G1));have s0:=k1.k0;have s1:=k1.k1;have s2:=k1.k2;have s3:=k1.k3;clear hb0 hb1 k1;go_wp2_with fail;refine KC.out.mono ?_;rintro e w2 ⟨v,rfl,ho,hb2⟩;obtain⟨g,cap,rfl⟩:=row_some ho h1;have hit:ItemsV w2 (some ⟨g,0,none⟩) n l:=by
  obtain⟨A,c',e,hr⟩:=row_of_owns ho;cases e;exact⟨hr,H.out.items.len,H.out.items.small,H.out.items.name⟩
 have G2:=G1.trans (hb2.mono G1.size);have Hit:=iH hit;clear s0 s1 s2 s3 hb2 ho hit KC;go_wp2;go_ret2;have kb:=Bk.new (w2.alloc (.cells #[.slice (some ⟨g,0,none⟩) n cap,nilS,nilS,nilS] 28)) 300 [.slice (some ⟨w2.heap.size,0,none⟩) 1 1,nilS];rw[World.size_alloc]at kb;refine⟨w2.heap.size+1,w2.heap.size,⟨g,0,none⟩,cap,rfl,⟨kb,(Bk.new w2 28 [.slice (some ⟨g,0,none⟩) n cap,nilS,nilS,nilS]).alloc _,?_⟩,?_⟩
 ·exact Hit.out.below (((Below.refl _ w2).alloc (Nat.le_refl _) _).alloc (by simp) _)
 ·exact(G2.alloc G2.size _).alloc (by have:=G2.size;simp;omega) _
theorem rensV_nil (w:World):RensV w none 0 []:=⟨.inl rfl,rfl,by omega,fun k hk=>by omega⟩
theorem add_busy {w:World} {h gc:Nat} {a ax:Addr} {n nx c:Nat} (cx:Nat) {lo ln:List It} {Ah:Option Addr} {ch i:Nat} {hs:List Int} (hH:HistAt w h gc (some a) n c lo) (ho:CatV w (some a) n lo) (hn:CatV w (some ax) nx ln)
 (hh:IntsV w Ah n hs) (hu:unitsB hs=true) (hE:newE lo ln []=0) (hM:missI (newL lo ln []) hs=some i) :
 Calls Tryz.prog 73 #[.pointer (some ⟨h,0,none⟩),catV (some ax) nx cx,.slice none 0 0,.slice Ah n ch] w fun e w'=>e=.returned (.tuple #[.int .i64 (i:Int),.int .i64 13])∧Below w.heap.size w w':=by
 have hb0:Below w.heap.size w (w.alloc (catO (some ax) nx cx)):=(Below.refl _ _).alloc (Nat.le_refl _) _;have hn64:=ho.n64;have HH:=iH hH;have Ho:=iH ho;have Hn:=iH hn;have Hh:=iH hh;have Hu:=iH hu;have HE:=iH hE;have HM:=iH hM;clear hH ho hn hh hu hE hM;have kx:=Bk.new w 28 (catL (some ax) nx cx);have HKX:=iH kx;clear kx;go_enter Tryz.func73,Tryz.ntmps73;go_wp2_with fail;have HH1:=iH (HH.out.grow hb0);have Ho1:=iH (Ho.out.below hb0);have Hn1:=iH (Hn.out.below hb0);have Hh1:=iH (Hh.out.below hb0);generalize w.alloc (catO (some ax) nx cx)=W at *;generalize hgx:w.heap.size=gx at *;have Hgx:=iH hgx;clear hgx HH Ho Hn Hh;have hLs:Hid (∀U:World,Below W.heap.size W U->Calls Tryz.prog 213 #[.pointer (some ⟨h,0,none⟩)] U fun e w'=>e=.returned (.int .i64 (((1:Nat):Int)-1))∧U=w'):=fun U hU=>last_any (by omega) ((HH1.out.grow hU).bh.cell 0)
 have HS:Hid (∀U:World,Below W.heap.size W U->U.cell? ⟨h,0,none⟩=some (.slice (some ⟨gc,0,none⟩) 1 1)∧U.cell? ⟨gc,0,none⟩=some (.slice (some a) n c)∧U.cell? ⟨gc,1,none⟩=some nilS∧U.cell? ⟨gc,2,none⟩=some nilS∧U.cell? ⟨gc,3,none⟩=some nilS):=fun U hU=>by
  have e:=HH1.out.grow hU;exact⟨e.bh.cell 0,e.bc.cell 0,e.bc.cell 1,e.bc.cell 2,e.bc.cell 3⟩
 go_cut [10] (fun x wx=>∃g,x=.pointer (some ⟨g,0,none⟩)∧Bk wx g 28 [.slice (some a) n c,nilS,nilS,nilS]∧Below W.heap.size W wx)
 case first =>
  go_region_held3 (fun U=>U.cell? ⟨h,0,none⟩=some (.slice (some ⟨gc,0,none⟩) 1 1)∧U.cell? ⟨gc,0,none⟩=some (.slice (some a) n c)∧U.cell? ⟨gc,1,none⟩=some nilS∧U.cell? ⟨gc,2,none⟩=some nilS∧U.cell? ⟨gc,3,none⟩=some nilS) (first | exact HS.out _ (Below.refl _ W).drew | exact HS.out _ ((Below.refl _ W).drew.alloc (Nat.le_refl _) _))
   (first | (go_at_call 213;(with_reducible refine(hLs.out _ ?_).mono ?_);(first | exact(Below.refl _ W).drew | exact(Below.refl _ W).drew.alloc (Nat.le_refl _) _);rintro e w' ⟨rfl,rfl⟩))
  all_goals (try go_wp2_with fail)
  all_goals go_meet
  all_goals exact⟨_,rfl,Bk.new _ 28 [.slice (some a) n c,nilS,nilS,nilS],(Below.refl _ W).drew.alloc (Nat.le_refl _) _⟩
 case rest =>
  obtain⟨g,rfl,kg,hbc⟩:=hcut;have kx:=HKX.out.below hbc HKX.out.lt;have p0:=kg.k0;have p1:wc.cell? ⟨g,1,none⟩=some nilS:=kg.cell 1;have p2:wc.cell? ⟨g,2,none⟩=some nilS:=kg.cell 2;have p3:wc.cell? ⟨g,3,none⟩=some nilS:=kg.cell 3;have q0:=kx.k0;have q1:wc.cell? ⟨gx,1,none⟩=some nilS:=kx.cell 1;have q2:wc.cell? ⟨gx,2,none⟩=some nilS:=kx.cell 2;have q3:wc.cell? ⟨gx,3,none⟩=some nilS:=kx.cell 3;have Ho2:=Ho1.out.below hbc;have Hn2:=Hn1.out.below hbc;have KN:=iH (New_valid (w:=wc) (io:=⟨some a,n,c⟩) (ro:=⟨none,0,0⟩) (to_:=⟨none,0,0⟩) (xo:=⟨none,0,0⟩) (ix:=⟨some ax,nx,cx⟩) (rx:=⟨none,0,0⟩) (tx:=⟨none,0,0⟩) (xx:=⟨none,0,0⟩) (R:=⟨none,0,0⟩) (rs:=[]) Ho2.items Hn2.items (rensV_nil wc) (fun V hV=>both_items c cx (Ho2.below hV) (Hn2.below hV)));have Hh2:=iH (Hh1.out.below hbc);have HB:=iH hbc;have KG:=iH kg;clear kx hbc Ho2 Hn2 HS hLs;go_wp2_with fail;refine KN.out.mono ?_;rintro e w1 ⟨A1,c1,rfl,hr1,hb1⟩;rw[HE.out];have kg1:=KG.out.below hb1 KG.out.lt;have r0:=kg1.k0;have KU:=units_any (c:=ch) (Hh2.out.below hb1).row (Hh2.out.below hb1).len (by omega);rw[Hu.out]at KU;have HKU:=iH KU;have en:((n:Int) != (n:Int))=false:=by simp
  have hlen:(newL lo ln []).length<=1000000:=by
   have h1:(newL lo ln []).length<=lo.length:=by unfold newL;split <;> simp
   have:=Ho1.out.items.len;omega
  have KM:=missing_any (c:=c1) (c':=ch) (⟨hr1.row,rfl⟩:TosV w1 A1 (newL lo ln []).length (newL lo ln [])) (Hh2.out.below hb1) hlen (by omega);have HKM:=iH KM;have G1:=HB.out.trans (hb1.mono HB.out.size);clear p0 p1 p2 p3 q0 q1 q2 q3 KN KU KM kg1 hb1 hr1 KG;go_wp2_with fail;refine HKU.out.mono ?_;rintro e w2 ⟨rfl,rfl⟩;go_wp2_with fail;refine HKM.out.mono ?_;rintro e w2 ⟨rfl,rfl⟩;rw[HM.out];simp only[Option.getD_some,Option.isSome_some];go_wp2_with fail;go_ret2;refine⟨rfl,?_⟩;rw[Hgx.out];exact hb0.trans (G1.mono (by have:=HKX.out.lt;omega))
def sOre:ByteArray:=⟨#[111,114,101]⟩
def sWood:ByteArray:=⟨#[119,111,111,100]⟩
def sIron:ByteArray:=⟨#[105,114,111,110]⟩
theorem plain_of_letters (s:ByteArray) (hl:s.size<=16) (h:∀i,i<s.size->kindAt s i=3):PlainName s :=
 ⟨hl,fun p hp=>.inl ⟨h p hp,fun i _ hi=>by rw[h i hi];rfl⟩⟩
theorem plain_ore:PlainName sOre:=by
 refine plain_of_letters sOre (by decide) fun i hi=>?_
 have hi':i<3:=hi;rcases(show i=0∨i=1∨i=2 by omega)with rfl|rfl|rfl <;> decide +kernel
theorem plain_wood:PlainName sWood:=by
 refine plain_of_letters sWood (by decide) fun i hi=>?_
 have hi':i<4:=hi;rcases(show i=0∨i=1∨i=2∨i=3 by omega)with rfl|rfl|rfl|rfl <;> decide +kernel
theorem plain_iron:PlainName sIron:=by
 refine plain_of_letters sIron (by decide) fun i hi=>?_
 have hi':i<4:=hi;rcases(show i=0∨i=1∨i=2∨i=3 by omega)with rfl|rfl|rfl|rfl <;> decide +kernel
def bare (s:ByteArray):It:=⟨s,false,false,false,0,0,0⟩
def oldL:List It:=[bare sOre,bare sWood]
def nextL:List It:=[bare sWood,bare sIron]
def renL:List Ren:=[⟨sOre,sIron,1,2⟩]
theorem good_old:GoodIt oldL:=⟨by decide,by decide +kernel,by decide +kernel,by decide +kernel,by decide +kernel⟩
theorem good_next:GoodIt nextL:=⟨by decide,by decide +kernel,by decide +kernel,by decide +kernel,by decide +kernel⟩
theorem names_old:∀t∈oldL,PlainName t.name:=by
 intro t ht;simp only[oldL,List.mem_cons,List.not_mem_nil,or_false]at ht;rcases ht with rfl|rfl
 ·exact plain_ore
 ·exact plain_wood
theorem names_next:∀t∈nextL,PlainName t.name:=by
 intro t ht;simp only[nextL,List.mem_cons,List.not_mem_nil,or_false]at ht;rcases ht with rfl|rfl
 ·exact plain_wood
 ·exact plain_iron
theorem new_e1:newE oldL nextL renL=0:=by decide +kernel
theorem new_l1:newL oldL nextL renL=[(1,1,2),(0,1,1)]:=by decide +kernel
theorem new_e2:newE oldL nextL []=0:=by decide +kernel
theorem new_l2:newL oldL nextL []=[(-1,0,0),(0,1,1)]:=by decide +kernel
theorem miss_2:missI (newL oldL nextL []) [5,0]=some 0:=by rw[new_l2];decide +kernel
theorem conv_arg:argB [(1,1,2),(0,1,1)] 2 [5,3]=true:=by decide +kernel
theorem conv_e:convE [(1,1,2),(0,1,1)] 2 [5,3]=0:=by decide +kernel
theorem conv_now:nowL [(1,1,2),(0,1,1)] 2 [5,3]=[3,2]:=by decide +kernel
theorem conv_left:leftL [(1,1,2),(0,1,1)] 2 [5,3]=[1,0]:=by decide +kernel
theorem units_50:unitsB [5,0]=true:=by decide +kernel
theorem keep_ok:∀k,k<2->keepErr nextL (itAt oldL k)=0:=by
 intro k hk;rcases(show k=0∨k=1 by omega)with rfl|rfl <;> decide +kernel
structure LvAt (W : World) (n : Nat) : Prop where
 i0:Bk W n 42 (icells oldL)
 c0:Bk W (n+1) 28 [.slice (some ⟨n,0,none⟩) 2 2,nilS,nilS,nilS]
 i1:Bk W (n+2) 42 (icells nextL)
 c1:Bk W (n+3) 28 [.slice (some ⟨n+2,0,none⟩) 2 2,nilS,nilS,nilS]
 tab:Tab W
theorem LvAt.grow {W W':World} {n:Nat} (h:LvAt W n) (hb:Below W.heap.size W W'):LvAt W' n:=⟨h.i0.below hb h.i0.lt,h.c0.below hb h.c0.lt,h.i1.below hb h.i1.lt,h.c1.below hb h.c1.lt,h.tab.below hb h.tab.1⟩
theorem LvAt.old {W:World} {n:Nat} (h:LvAt W n):CatV W (some ⟨n,0,none⟩) 2 oldL:=⟨⟨h.i0.row,rfl,by omega,names_old⟩,good_old,h.tab⟩
theorem LvAt.next {W:World} {n:Nat} (h:LvAt W n):CatV W (some ⟨n+2,0,none⟩) 2 nextL:=⟨⟨h.i1.row,rfl,by omega,names_next⟩,good_next,h.tab⟩
abbrev lvW (w:World):World:=((((w.alloc (.cells #[.string sOre,.bool false,.bool false,.bool false,.int .i64 0,.int .i64 0,.int .i64 0,.string sWood,.bool false,.bool false,.bool false,.int .i64 0,.int .i64 0,.int .i64 0] 42)).alloc (.cells #[.slice (some ⟨w.heap.size,0,none⟩) 2 2,nilS,nilS,nilS] 28)).alloc (.cells #[.string sWood,.bool false,.bool false,.bool false,.int .i64 0,.int .i64 0,.int .i64 0,.string sIron,.bool false,.bool false,.bool false,.int .i64 0,.int .i64 0,.int .i64 0] 42)).alloc (.cells #[.slice (some ⟨w.heap.size+1+1,0,none⟩) 2 2,nilS,nilS,nilS] 28)).alloc (.cells #[.string sOre,.string sIron,.int .i64 1,.int .i64 2] 124)
theorem lives_start (w:World) (hT:Tab w):LvAt (lvW w) w.heap.size∧Below w.heap.size w (lvW w)∧Bk (lvW w) (w.heap.size+4) 124 (rcells renL):=by
 have hB:Below w.heap.size w (lvW w):=(((((Below.refl _ w).alloc (Nat.le_refl _) _).alloc (by simp) _).alloc (by simp;omega) _).alloc (by simp;omega) _).alloc (by simp;omega) _;refine⟨⟨?_,?_,?_,?_,hT.below hB hT.1⟩,hB,?_⟩
 ·exact((((Bk.new w 42 (icells oldL)).alloc _).alloc _).alloc _).alloc _
 ·have:=Bk.new (w.alloc (.cells #[.string sOre,.bool false,.bool false,.bool false,.int .i64 0,.int .i64 0,.int .i64 0,.string sWood,.bool false,.bool false,.bool false,.int .i64 0,.int .i64 0,.int .i64 0] 42)) 28 [.slice (some ⟨w.heap.size,0,none⟩) 2 2,nilS,nilS,nilS];rw[World.size_alloc]at this;exact((this.alloc _).alloc _).alloc _
 ·have:=Bk.new ((w.alloc (.cells #[.string sOre,.bool false,.bool false,.bool false,.int .i64 0,.int .i64 0,.int .i64 0,.string sWood,.bool false,.bool false,.bool false,.int .i64 0,.int .i64 0,.int .i64 0] 42)).alloc (.cells #[.slice (some ⟨w.heap.size,0,none⟩) 2 2,nilS,nilS,nilS] 28)) 42 (icells nextL);rw[World.size_alloc,World.size_alloc]at this;exact(this.alloc _).alloc _
 ·have:=Bk.new (((w.alloc (.cells #[.string sOre,.bool false,.bool false,.bool false,.int .i64 0,.int .i64 0,.int .i64 0,.string sWood,.bool false,.bool false,.bool false,.int .i64 0,.int .i64 0,.int .i64 0] 42)).alloc (.cells #[.slice (some ⟨w.heap.size,0,none⟩) 2 2,nilS,nilS,nilS] 28)).alloc (.cells #[.string sWood,.bool false,.bool false,.bool false,.int .i64 0,.int .i64 0,.int .i64 0,.string sIron,.bool false,.bool false,.bool false,.int .i64 0,.int .i64 0,.int .i64 0] 42)) 28 [.slice (some ⟨w.heap.size+2,0,none⟩) 2 2,nilS,nilS,nilS];rw[World.size_alloc,World.size_alloc,World.size_alloc]at this;exact this.alloc _
 ·have:=Bk.new ((((w.alloc (.cells #[.string sOre,.bool false,.bool false,.bool false,.int .i64 0,.int .i64 0,.int .i64 0,.string sWood,.bool false,.bool false,.bool false,.int .i64 0,.int .i64 0,.int .i64 0] 42)).alloc (.cells #[.slice (some ⟨w.heap.size,0,none⟩) 2 2,nilS,nilS,nilS] 28)).alloc (.cells #[.string sWood,.bool false,.bool false,.bool false,.int .i64 0,.int .i64 0,.int .i64 0,.string sIron,.bool false,.bool false,.bool false,.int .i64 0,.int .i64 0,.int .i64 0] 42)).alloc (.cells #[.slice (some ⟨w.heap.size+2,0,none⟩) 2 2,nilS,nilS,nilS] 28)) 124 (rcells renL);rw[World.size_alloc,World.size_alloc,World.size_alloc,World.size_alloc]at this;exact this
theorem lives_new {W:World} {n:Nat} (h:LvAt W n) (hr:Bk W (n+4) 124 (rcells renL)) :
 Calls Tryz.prog 64 #[catV (some ⟨n,0,none⟩) 2 2,catV (some ⟨n+2,0,none⟩) 2 2,.slice (some ⟨n+4,0,none⟩) 1 1] W fun e w'=>∃A c,e=.returned (.tuple #[.slice A 2 c,.int .i64 0])∧TosV w' A 2 [(1,1,2),(0,1,1)]∧Below W.heap.size W w':=by
 refine(New_valid (w:=W) (io:=⟨some ⟨n,0,none⟩,2,2⟩) (ro:=⟨none,0,0⟩) (to_:=⟨none,0,0⟩) (xo:=⟨none,0,0⟩) (ix:=⟨some ⟨n+2,0,none⟩,2,2⟩) (rx:=⟨none,0,0⟩) (tx:=⟨none,0,0⟩) (xx:=⟨none,0,0⟩) (R:=⟨some ⟨n+4,0,none⟩,1,1⟩) (rs:=renL) h.old.items h.next.items ⟨hr.row,rfl,by dsimp only;omega,fun k hk=>?_⟩ (fun V hV=>both_items 2 2 (h.grow hV).old (h.grow hV).next)).mono ?_
 ·obtain rfl:k=0:=by dsimp only at hk;omega
  exact⟨by unfold maxLen;decide,by unfold maxLen;decide⟩
 ·rintro e w' ⟨A,c,rfl,hrow,hb⟩;rw[new_l1]at hrow⊢;rw[new_e1];exact⟨A,c,rfl,⟨hrow.row,rfl⟩,hb⟩
theorem lives_conv {W:World} {A:Option Addr} {g:Nat} (c:Nat) (h:TosV W A 2 [(1,1,2),(0,1,1)]) (hg:Bk W g 3 (ints [5,3])) :
 Calls Tryz.prog 71 #[.slice A 2 c,.int .i64 2,.slice (some ⟨g,0,none⟩) 2 2] W fun e w'=>∃A1 c1 A2 c2,e=.returned (.tuple #[.slice A1 2 c1,.slice A2 2 c2,.int .i64 0])∧Row w' w'.heap.size A1 (ints [3,2])∧Row w' w'.heap.size A2 (ints [1,0])∧Below W.heap.size W w':=by
 have hi:IntsV W (some ⟨g,0,none⟩) 2 [5,3]:=⟨hg.row,rfl,fun z hz=>by
  simp only[List.mem_cons,List.not_mem_nil,or_false]at hz
  rcases hz with rfl|rfl <;> omega⟩
 refine(conv_good (n:=2) c 2 h hi (by omega) (by omega) (fun e=>by cases e) conv_arg).mono ?_;rintro e w' ⟨A1,c1,A2,c2,rfl,h1,h2,hb⟩;have e1:convE [(1,1,2),(0,1,1)] ((2:Nat):Int) [5,3]=0:=conv_e;have e2:nowL [(1,1,2),(0,1,1)] ((2:Nat):Int) [5,3]=[3,2]:=conv_now;have e3:leftL [(1,1,2),(0,1,1)] ((2:Nat):Int) [5,3]=[1,0]:=conv_left;rw[e2]at h1;rw[e3]at h2;rw[e1,e2,e3];exact⟨A1,c1,A2,c2,rfl,h1,h2,hb⟩
theorem merge_len:(mergeL oldL nextL 2).length=3:=by decide +kernel
theorem merge_2:(itAt (mergeL oldL nextL 2) 2).name=sIron:=by decide +kernel
theorem lives_merge {W:World} {n:Nat} (h:LvAt W n) :
 Calls Tryz.prog 14 #[catV (some ⟨n,0,none⟩) 2 2,catV (some ⟨n+2,0,none⟩) 2 2] W fun e w'=>∃b off c,e=.returned (.tuple #[.agg #[.slice (some ⟨b,off,none⟩) 3 c,nilS,nilS,nilS],.int .i64 0])∧w'.cell? ⟨b,off+14,none⟩=some (.string sIron)∧b<w'.heap.size∧Below W.heap.size W w':=by
 refine(Merge_ok 2 2 h.old h.next keep_ok (by omega) (by omega)).mono ?_;rintro e w' ⟨A,c,rfl,hrow,hb⟩;obtain⟨b,off,rfl,hbb,hc⟩:=hrow.at_ 14 (by rw[icells_length,merge_len];omega);refine⟨b,off,c,by rw[merge_len],?_,hbb,hb⟩;have hg:=icells_get (mergeL oldL nextL 2) 2 0 (by rw[merge_len];omega) (by omega);have:=hc 14 (.string (itAt (mergeL oldL nextL 2) 2).name) hg;rw[merge_2]at this;exact this
theorem lives_any (w:World) (hT:Tab w):Calls Tryz.prog 15 #[] w fun e w'=>e=.returned (.bool true)∧Below w.heap.size w w':=by
 have HL:=iH (lives_start w hT);clear hT;go_enter Tryz.func15,Tryz.ntmps15;go_wp2_with fail;change Calls Tryz.prog 64 #[catV (some ⟨w.heap.size,0,none⟩) 2 2,catV (some ⟨w.heap.size+2,0,none⟩) 2 2,.slice (some ⟨w.heap.size+4,0,none⟩) 1 1] (lvW w) _;obtain⟨L0,B0,R0⟩:=HL.out;refine(lives_new L0 R0).mono ?_;rintro e w1 ⟨A1,c1,rfl,t1,hb1⟩;have L1:=L0.grow hb1;have B1:=B0.trans (hb1.mono B0.size);have HL1:=iH L1;have HT1:=iH t1;have HB1:=iH B1;clear L0 R0 B0 HL L1 B1 t1 hb1;have KV:=iH (lives_conv c1 (HT1.out.below ((Below.refl _ _).alloc (Nat.le_refl _) (.cells #[.int .i64 5,.int .i64 3] 3))) (Bk.new w1 3 (ints [5,3])));generalize hn:w.heap.size=n at *;have Hn:=iH hn;clear hn;go_wp2_with fail;refine KV.out.mono ?_;rintro e w2 ⟨A3,c3,A4,c4,rfl,r3,r4,hb2⟩;have bal:Below w1.heap.size w1 (w1.alloc (.cells #[.int .i64 5,.int .i64 3] 3)):=(Below.refl _ _).alloc (Nat.le_refl _) _;have hb12:Below w1.heap.size w1 w2:=bal.trans (hb2.mono (by simp));have HL2:=iH (HL1.out.grow hb12);have HT2:=iH (HT1.out.below hb12);have HB2:=iH (HB1.out.trans (hb12.mono (by have:=HB1.out.size;rw[Hn.out]at this;exact this)));have HR3:=iH r3;have HR4:=iH r4;clear r3 r4 hb2 bal hb12 KV HL1 HT1 HB1;have a0:=HL2.out.c0.k0;have a1:w2.cell? ⟨n+1,1,none⟩=some nilS:=HL2.out.c0.cell 1;have a2:w2.cell? ⟨n+1,2,none⟩=some nilS:=HL2.out.c0.cell 2;have a3:w2.cell? ⟨n+1,3,none⟩=some nilS:=HL2.out.c0.cell 3;have b0:=HL2.out.c1.k0;have b1:w2.cell? ⟨n+1+1+1,1,none⟩=some nilS:=HL2.out.c1.cell 1;have b2:w2.cell? ⟨n+1+1+1,2,none⟩=some nilS:=HL2.out.c1.cell 2;have b3:w2.cell? ⟨n+1+1+1,3,none⟩=some nilS:=HL2.out.c1.cell 3;go_wp2_with fail;refine(lives_merge HL2.out).mono ?_;rintro e w3 ⟨bm,om,cm,rfl,hm,hbm,hb3⟩;have HL3:=iH (HL2.out.grow hb3);have HT3:=iH (HT2.out.below hb3);have HB3:=iH (HB2.out.trans (hb3.mono (by have:=HB2.out.size;rw[Hn.out]at this;exact this)));have HR33:=iH ((HR3.out.below hb3).more hb3.size);have HR34:=iH ((HR4.out.below hb3).more hb3.size);clear hb3 HL2 HT2 HB2 HR3 HR4 a0 a1 a2 a3 b0 b1 b2 b3;have a0:=HL3.out.c0.k0;have a1:w3.cell? ⟨n+1,1,none⟩=some nilS:=HL3.out.c0.cell 1;have a2:w3.cell? ⟨n+1,2,none⟩=some nilS:=HL3.out.c0.cell 2;have a3:w3.cell? ⟨n+1,3,none⟩=some nilS:=HL3.out.c0.cell 3;have al:=HL3.out.c0.lt;have bal:Below w3.heap.size w3 (w3.alloc (.cells #[.slice (some ⟨bm,om,none⟩) 3 cm,nilS,nilS,nilS] 28)):=(Below.refl _ _).alloc (Nat.le_refl _) _;have KS:=iH (start_items 2 (HL3.out.grow bal).old (by omega));have K9:=iH (Bk.new w3 28 [.slice (some ⟨bm,om,none⟩) 3 cm,nilS,nilS,nilS]);go_wp2_with fail;refine KS.out.mono ?_;rintro e w4 ⟨h,gc,ah,ch,rfl,hH,hb4⟩;have hb34:Below w3.heap.size w3 w4:=bal.trans (hb4.mono (by simp));have HL4:=iH (HL3.out.grow hb34);have HT4:=iH (HT3.out.below hb34);have HB4:=iH (HB3.out.trans (hb34.mono (by have:=HB3.out.size;rw[Hn.out]at this;exact this)));have HR43:=iH ((HR33.out.below hb34).more hb34.size);have HR44:=iH ((HR34.out.below hb34).more hb34.size);have HH4:=iH hH;have hm4:w4.cell? ⟨bm,om+14,none⟩=some (.string sIron):=(hb34.cell (p:=⟨bm,om+14,none⟩) hbm).trans hm;have k9:=(K9.out.below hb4 (by simp)).k0;clear hb34 hb4 bal KS K9 HL3 HT3 HB3 HR33 HR34 a0 a1 a2 a3 hm hH al hbm;have b0:=HL4.out.c1.k0;have b1:w4.cell? ⟨n+1+1+1,1,none⟩=some nilS:=HL4.out.c1.cell 1;have b2:w4.cell? ⟨n+1+1+1,2,none⟩=some nilS:=HL4.out.c1.cell 2;have b3:w4.cell? ⟨n+1+1+1,3,none⟩=some nilS:=HL4.out.c1.cell 3;have es:(!sIron.toList == [105,114,111,110])=false:=by decide +kernel
 have es2:(sIron.toList == [105,114,111,110])=true:=by decide +kernel
 go_wp2_with fail;have bal:Below w4.heap.size w4 (w4.alloc (.cells #[.int .i64 5,.int .i64 0] 3)):=(Below.refl _ _).alloc (Nat.le_refl _) _;have hi5:IntsV (w4.alloc (.cells #[.int .i64 5,.int .i64 0] 3)) (some ⟨w4.heap.size,0,none⟩) 2 [5,0]:=⟨(Bk.new w4 3 (ints [5,0])).row,rfl,fun z hz=>by
  simp only[List.mem_cons,List.not_mem_nil,or_false]at hz
  rcases hz with rfl|rfl <;> omega⟩
 have hH5:=HH4.out.grow bal;refine(add_busy 2 hH5 ⟨hH5.items,good_old,(HL4.out.grow bal).tab⟩ (HL4.out.grow bal).next hi5 units_50 new_e2 miss_2).mono ?_;rintro e w5 ⟨rfl,hb5⟩;have hb45:Below w4.heap.size w4 w5:=bal.trans (hb5.mono (by simp));have HT5:=HT4.out.below hb45;have HB5:=iH (HB4.out.trans (hb45.mono (by have:=HB4.out.size;rw[Hn.out]at this;exact this)));have HR53:=iH ((HR43.out.below hb45).more hb45.size);have HR54:=iH ((HR44.out.below hb45).more hb45.size);obtain⟨b,off,rfl,hbb,hc⟩:=HT5.row.at_ 0 (by decide);have t0:w5.cell? ⟨b,off,none⟩=some (.int .i64 1):=hc 0 _ rfl;have t1:w5.cell? ⟨b,off+1,none⟩=some (.int .i64 1):=hc 1 _ rfl;have t2:w5.cell? ⟨b,off+2,none⟩=some (.int .i64 2):=hc 2 _ rfl;have t3:w5.cell? ⟨b,off+3,none⟩=some (.int .i64 0):=hc 3 _ rfl;have t4:w5.cell? ⟨b,off+3+1,none⟩=some (.int .i64 1):=hc 4 _ rfl;have t5:w5.cell? ⟨b,off+3+2,none⟩=some (.int .i64 1):=hc 5 _ rfl;clear hb45 hb5 bal HT5 hi5 hH5 hc b0 b1 b2 b3 k9 hm4 HL4 HT4 HB4 HR43 HR44 HH4 es es2;have q1:∀W:World,(binOp .eql 115 (.agg #[.int .i64 1,.int .i64 1,.int .i64 2]) (.agg #[.int .i64 1,.int .i64 1,.int .i64 2])).run Tryz.prog W=.ok (.bool true) W:=fun W=>by kernel_rfl
 have q2:∀W:World,(binOp .eql 115 (.agg #[.int .i64 0,.int .i64 1,.int .i64 1]) (.agg #[.int .i64 0,.int .i64 1,.int .i64 1])).run Tryz.prog W=.ok (.bool true) W:=fun W=>by kernel_rfl
 go_wp2_with fail;have K1:=Bk.new w5 3 (ints [3,2]);have ba1:Below w5.heap.size w5 (w5.alloc (.cells #[.int .i64 3,.int .i64 2] 3)):=(Below.refl _ _).alloc (Nat.le_refl _) _;refine(same_any (n:=2) (m:=2) (xs:=[3,2]) (ys:=[3,2]) ((HR53.out.below ba1).more ba1.size) K1.row rfl rfl (by decide)).mono ?_;rintro e w6 ⟨rfl,hb6⟩;rw[show sameB [3,2] [3,2]=true from by decide];have hb56:Below w5.heap.size w5 w6:=ba1.trans (hb6.mono (by simp));have HB6:=iH (HB5.out.trans (hb56.mono (by have:=HB5.out.size;rw[Hn.out]at this;exact this)));have HR64:=iH ((HR54.out.below hb56).more hb56.size);clear hb6 hb56 ba1 K1 HR53 HR54 HB5 t0 t1 t2 t3 t4 t5;go_wp2_with fail;have K2:=Bk.new w6 3 (ints [1,0]);have ba2:Below w6.heap.size w6 (w6.alloc (.cells #[.int .i64 1,.int .i64 0] 3)):=(Below.refl _ _).alloc (Nat.le_refl _) _;refine(same_any (n:=2) (m:=2) (xs:=[1,0]) (ys:=[1,0]) ((HR64.out.below ba2).more ba2.size) K2.row rfl rfl (by decide)).mono ?_;rintro e w7 ⟨rfl,hb7⟩;rw[show sameB [1,0] [1,0]=true from by decide];have hb67:Below w6.heap.size w6 w7:=ba2.trans (hb7.mono (by simp));have HB7:=HB6.out.trans (hb67.mono (by have:=HB6.out.size;rw[Hn.out]at this;exact this));clear hb7 hb67 ba2 K2 HR64 HB6;go_wp2;go_ret;exact⟨rfl,by rw[Hn.out];exact HB7⟩
section
theorem ownOff:ownKnob Tryz.prog.godebug=none:=by kernel_rfl
theorem laidOutAll:laidOutB Tryz.prog=true:=by kernel_rfl
theorem gKinds : Tryz.prog.globalNamed "worldmint/lexer.kinds" = some 3 := by kernel_rfl
theorem cellsInt:Tryz.prog.cellsOf 3=1:=by kernel_rfl
theorem hrec22:Tryz.prog.readableRec 22=true:=by kernel_rfl
theorem hlt22:22<Tryz.prog.types.size:=of_decide_eq_true (by kernel_rfl)
theorem ints_opened {H:Type} {enc:TypeId×Value->H} {W:World} {A:Option Addr} {n c:Nat} {d:DataW H} {p:List MemPlace} (h:DataW.Trod enc Tryz.prog W 0 (fun _=>true) true 22 (.slice A n c) d p):∃zs,IntsV W A n zs:=by
 obtain⟨fuel,hf⟩:=h;rcases open_ints Tryz.underlying22 Tryz.underlying3 cellsInt hf with ⟨hcs,hx⟩|⟨a,len,cap,zs,hcs,_,hl,hm,hz,hx,hcell,hwz⟩
 ·change[Value.slice A n c]=_ at hcs;obtain⟨rfl,rfl,rfl⟩:A=none∧n=0∧c=0:=by simpa using hcs
  exact⟨[],.inl rfl,rfl,fun z hz=>by cases hz⟩
 ·change[Value.slice A n c]=_ at hcs;obtain⟨rfl,rfl,rfl⟩:A=some a∧n=len∧c=cap:=by simpa using hcs
  rw[if_pos rfl]at hz;refine⟨zs.take n,?_,by simp;omega,fun z hz'=>?_⟩
  ·by_cases h0:n=0
   ·left;simp[ints,h0]
   ·right;have hc0:=hcell 0 (by omega);have ha:a.add 0=a:=by simp[Addr.add]
    rw[ha]at hc0;obtain⟨b,off,sp⟩:=a;cases sp with
    | some s=>simp[World.cell?]at hc0;split at hc0 <;> simp at hc0
    | none =>
      have hb:b<W.heap.size:=by
       rcases Nat.lt_or_ge b W.heap.size with h|h
       ·exact h
       ·simp[World.cell?,Array.getElem?_eq_none h]at hc0
      refine⟨b,off,rfl,hb,fun j u hu=>?_⟩;have hj:j<n∧j<zs.length:=by
       have:=(List.getElem?_eq_some_iff.1 hu).1;simp[ints]at this;omega
      have hcj:=hcell j hj.2;have e1:(⟨b,off,none⟩:Addr).add j=⟨b,off+j,none⟩:=by
       unfold Addr.add;split
       ·subst_vars;rfl
       ·rfl
      rw[e1]at hcj;rw[hcj,<- hu];simp[ints,hj.1,hj.2]
  ·have:=hwz z (List.mem_of_mem_take hz');have:=bounds_i64 this;omega
theorem kindsType:(Tryz.prog.globals[3]?).map (·.type)=some 449:=by kernel_rfl
theorem kindsU:Tryz.prog.underlying 449=some (.array 128 5):=by kernel_rfl
theorem u8U:Tryz.prog.underlying 5=some (.int .u8):=by kernel_rfl
theorem u8C:Tryz.prog.cellsOf 5=1:=by kernel_rfl
theorem kindsC:Tryz.prog.cellsOf 449=128:=by kernel_rfl
theorem table_of {W : World} (h : laidMetH Tryz.prog [("worldmint/lexer.kinds", Rows.laid_worldmint_lexer_kinds)] W) : Tab W := by
 have ht : Lib.TabIs Tryz.prog W "worldmint/lexer.kinds" .u8 kindL := Lib.tabIs_of_head (rest := []) gKinds kindsType kindsU u8U u8C kindsC h
 have hc:∀i,i<128->W.cell? ⟨3,i,none⟩=some (.int .u8 (kindOf i)):=fun i hi=>by
  have:=ht.cell gKinds i hi;simpa[kindOf]using this
 refine⟨?_,hc⟩;have:=hc 0 (by omega);rcases Nat.lt_or_ge 3 W.heap.size with h|h
 ·exact h
 ·simp[World.cell?,Array.getElem?_eq_none h]at this
noncomputable def laidWorld (os:Os):World :=
 { World.holding Tryz.prog os ⟨#[],#[],[]⟩with heap:=(World.holding Tryz.prog os ⟨#[],#[],[]⟩).heap.modify 3 fun
  | .cells _ t frozen=>.cells (kindL.map (Value.int .u8)).toArray t frozen
  | o=>o }
end
end
section
set_option linter.unusedVariables false
set_option linter.unusedSimpArgs false
def fstTo (l:List It) (s:ByteArray):Nat->Option Nat
 | 0=>none
 | k + 1 => match fstTo l s k with
   | some i=>some i
   | none=>if(itAt l k).name=s then some k else none
def fstI (l:List It) (s:ByteArray):Option Nat:=fstTo l s l.length
def Dist (l:List It):Prop:=∀i j,i<l.length->j<l.length->(itAt l i).name=(itAt l j).name->i=j
def xTo (lo ln:List It) (rs:List Ren) (i:Nat):Nat->Tr
 | 0=>keepT ln (itAt lo i)
 | k+1=>if(renAt rs k).old=(itAt lo i).name then((((fstI ln (renAt rs k).new).getD 0:Nat):Int),(renAt rs k).num,(renAt rs k).den) else xTo lo ln rs i k
section
structure RnAt (w V : World) (io ro to_ xo ix rx tx xx R : Sl) (lo ln : List It) (rs : List Ren) : Prop where
 b1:Bk V w.heap.size 28 (catSL io ro to_ xo)
 b2:Bk V (w.heap.size+1) 28 (catSL ix rx tx xx)
 li:ItsR V io.A io.n lo
 lx:ItsR V ix.A ix.n ln
 lr:RensV V R.A R.n rs
 bel:Below w.heap.size w V
theorem RnAt.below {w V V':World} {io ro to_ xo ix rx tx xx R:Sl} {lo ln:List It} {rs:List Ren} (h:RnAt w V io ro to_ xo ix rx tx xx R lo ln rs) (hb:Below V.heap.size V V'):RnAt w V' io ro to_ xo ix rx tx xx R lo ln rs :=
 ⟨h.b1.below hb h.b1.lt,h.b2.below hb h.b2.lt,h.li.below hb,h.lx.below hb,h.lr.below hb,h.bel.trans (hb.mono h.bel.size)⟩
def xL (lo ln:List It) (rs:List Ren) (k:Nat):List Tr:=(List.range k).map fun i=>xTo lo ln rs i rs.length
@[simp] theorem xL_length (lo ln : List It) (rs : List Ren) (k : Nat) : (xL lo ln rs k).length = k := by simp [xL]
end
def newCE (a b:CatM) (rs:List Ren):Int:=if codeBoth a b≠0 then codeBoth a b else newE a.items b.items rs
def newCL (a b:CatM) (rs:List Ren):List Tr:=if codeBoth a b≠0 then[] else newL a.items b.items rs
def NewC (w:World) (a b:CatM) (rs:List Ren) (e:Ending) (w':World):Prop :=
 ∃A c,e=.returned (.tuple #[.slice A (newCL a b rs).length c,.int .i64 (newCE a b rs)])∧FR w w' A (tcells (newCL a b rs))∧Below w.heap.size w w'
theorem NewC.bad {w w':World} {a b:CatM} {rs:List Ren} {q:Int} (hq:codeBoth a b=q) (h:q≠0) (hb:Below w.heap.size w w'):NewC w a b rs (.returned (.tuple #[.slice none 0 0,.int .i64 q])) w':=by
 have e1:newCL a b rs=[]:=by unfold newCL;rw[if_pos (by rw[hq];exact h)]
 have e2:newCE a b rs=q:=by unfold newCE;rw[if_pos (by rw[hq];exact h),hq]
 exact⟨none,0,by rw[e1,e2];rfl,by rw[e1];exact .inl rfl,hb⟩
theorem NewC.good {w w':World} {a b:CatM} {rs:List Ren} {e:Ending} (hq:codeBoth a b=0) (h:NewPost w a.items b.items rs e w'):NewC w a b rs e w':=by
 have e1:newCL a b rs=newL a.items b.items rs:=by unfold newCL;rw[if_neg (by rw[hq];simp)]
 have e2:newCE a b rs=newE a.items b.items rs:=by unfold newCE;rw[if_neg (by rw[hq];simp)]
 unfold NewC;rw[e1,e2];exact h
theorem codeBoth_zero {a b:CatM} (h:codeBoth a b=0):codeC a=0∧codeC b=0:=by
 unfold codeBoth at h;by_cases e:codeC a≠0
 ·rw[if_pos e]at h;exact absurd h e
 ·rw[if_neg e]at h;exact⟨by omega,h⟩
theorem code_parts {m:CatM} (h:codeC m=0):limC m=true∧fitB m=true∧diffC m=true∧wfC m=true∧rgC m=true:=by
 unfold codeC codeOf at h;cases h1:limC m
 ·rw[h1]at h;simp at h
 cases h2:fitB m
 ·rw[h1,h2]at h;simp at h
 cases h3:diffC m
 ·rw[h1,h2,h3]at h;simp at h
 cases h4:wfC m
 ·rw[h1,h2,h3,h4]at h;simp at h
 cases h5:rgC m
 ·rw[h1,h2,h3,h4,h5]at h;simp at h
 exact⟨rfl,rfl,rfl,rfl,rfl⟩
section
def GOk (w:World) (g:Nat):Prop:=∃(A:Option Addr) (n c:Nat) (zs:List Int) (i:Int),Bk w g 180 [.slice A n c,.int .i64 i]∧IntsV w A n zs∧(∀b off,A=some ⟨b,off,none⟩->b<g)∧In64 i
section
variable {w w' V W W' X : World} {g : Nat}
theorem GOk.lt (h:GOk w g):g<w.heap.size:=by obtain⟨A,n,c,zs,i,h1,_⟩:=h;exact h1.lt
theorem GOk.below (h:GOk w g) (hb:Below w.heap.size w w'):GOk w' g:=by
 obtain⟨A,n,c,zs,i,h1,h2,h3,h4⟩:=h;exact⟨A,n,c,zs,i,h1.below hb h1.lt,h2.below hb,h3,h4⟩
theorem row_far {A:Option Addr} {xs:List Value} {b B:Nat} (h:Row w B A xs) (hg:w.grownBy w' (some b)) (hf:∀b' off,A=some ⟨b',off,none⟩->b'≠b) (hB:B<=w.heap.size):Row w' B A xs:=by
 rcases h with rfl|⟨b',off,rfl,hb,hc⟩
 ·exact .inl rfl
 ·exact .inr ⟨b',off,rfl,hb,fun j u hu=>(World.cell?_of_block (w:=w) (hg.block b' (by omega) (fun e=>hf b' off rfl (Option.some.inj e)))).trans (hc j u hu)⟩
theorem GOk.keep {b:Nat} (h:GOk w g) (hg:w.grownBy w' (some b)) (hb:g<b):GOk w' g:=by
 obtain⟨A,n,c,zs,i,h1,h2,h3,h4⟩:=h;exact⟨A,n,c,zs,i,h1.grown hg (by simp;omega),⟨(row_far h2.row hg (fun b' off e=>by have:=h3 b' off e;omega) (Nat.le_refl _)).more hg.size,h2.len,h2.wf⟩,h3,h4⟩
theorem GOk.row {v:Value} (h:GOk w g) (hg:w.grownBy w' v.ownBlock) (hb:∀b,v.ownBlock=some b->g<b):GOk w' g:=by
 cases hv:v.ownBlock with
 | none=>rw[hv]at hg;exact h.below ⟨hg.os,hg.tape,hg.output,hg.size,fun b hb=>hg.block b hb (by simp)⟩
 | some b=>rw[hv]at hg;exact h.keep hg (hb b hv)
theorem grown_trans {a b c:World} {row:Option Nat} (h:a.grownBy b row) (k:b.grownBy c row):a.grownBy c row :=
 ⟨k.os.trans h.os,k.tape.trans h.tape,k.output.trans h.output,Nat.le_trans h.size k.size,fun i hi hne=>(k.block i (Nat.lt_of_lt_of_le hi h.size) hne).trans (h.block i hi hne)⟩
structure GSt (V W : World) (g : Nat) : Prop where
 gr:V.grownBy W (some g)
 ok:GOk W g
 lt:g<V.heap.size
theorem GSt.refl (h:GOk V g):GSt V V g:=⟨⟨rfl,rfl,rfl,Nat.le_refl _,fun _ _ _=>rfl⟩,h,h.lt⟩
theorem GSt.trans (h:GSt V W g) (k:GSt W X g):GSt V X g:=⟨grown_trans h.gr k.gr,k.ok,h.lt⟩
theorem GSt.size (h:GSt V W g):V.heap.size<=W.heap.size:=h.gr.size
theorem GSt.below (h:GSt V W g) (hb:Below W.heap.size W W'):GSt V W' g:=⟨grown_trans h.gr (grown_of_below hb _),h.ok.below hb,h.lt⟩
theorem GSt.alloc (h:GSt V W g) (o:Obj):GSt V (W.alloc o) g:=h.below ((Below.refl _ _).alloc (Nat.le_refl _) o)
theorem GSt.grow {row:Option Nat} (h:GSt V W g) (hg:W.grownBy W' row) (hr:∀b,row=some b->V.heap.size<=b):GSt V W' g:=by
 have hlt:=h.lt;refine⟨⟨hg.os.trans h.gr.os,hg.tape.trans h.gr.tape,hg.output.trans h.gr.output,Nat.le_trans h.gr.size hg.size,fun i hi hne=>(hg.block i (Nat.lt_of_lt_of_le hi h.gr.size) (fun e=>?_)).trans (h.gr.block i hi hne)⟩,?_,hlt⟩
 ·have:=hr i e.symm;omega
 ·cases row with
  | none=>exact h.ok.below ⟨hg.os,hg.tape,hg.output,hg.size,fun b hb=>hg.block b hb (by simp)⟩
  | some b=>exact h.ok.keep hg (by have:=hr b rfl;omega)
theorem GSt.set (h:GSt V W g) (b k:Nat) (u:Value) (hb:V.heap.size<=b):GSt V (W.setCell ⟨b,k,none⟩ u) g:=h.grow (grown_setCell W b k u) (fun b' e=>by cases e;exact hb)
theorem GSt.bk (h:GSt V W g) {b:Nat} {t:TypeId} {xs:List Value} (k:Bk V b t xs) (hne:b≠g):Bk W b t xs:=k.grown h.gr (by simpa using hne)
theorem GSt.keep (h:GSt V W g) (hg:GOk V g) (t:TypeId) (ht:t≠180):Keep t V W:=by
 obtain⟨A,n,c,zs,i,h1,_⟩:=hg;refine .grown h.gr fun cur fl e=>?_
 unfold Bk at h1;rw[h1]at e;cases e;exact ht rfl
theorem GSt.own (h:GSt V W g) {base e size n:Nat} {v:Value} {xs:List Value} (k:V.ownsRow base e size v n xs) (hne:v.ownBlock≠some g):W.ownsRow base e size v n xs:=k.kept h.gr (.inr hne)
def NextG (V:World) (g:Nat) (m:Int) (e:Ending) (W:World):Prop:=∃x,e=.returned (.int .i64 x)∧0<=x∧x<m∧GSt V W g
theorem in64_wrap (x:Int):In64 (IntKind.i64.wrap x):=by rw[IntKind.wrap_i64];unfold In64;omega
theorem pick_q {A:Option Addr} {n c:Nat} {zs:List Int} (i m:Int) (h:IntsV w A n zs) (hi:In64 i) (hm:1<=m) (hm2:m<=9223372036854775807) (k:Nat) :
 Calls Tryz.prog 17 #[.slice A n c,.int .i64 i,.int .i64 m] (w.drewN k) fun e w'=>e=.returned (.int .i64 (pick zs i m))∧w'=w.drewN k :=
 (pick_any A n c zs _ i m (w.drewN k) h.row h.len h.wf hi.1 hi.2 hm hm2).mono fun _ _ ⟨a,b⟩=>⟨a,b.symm⟩
theorem next_g (m:Int) (h:GOk w g) (m0:1<=m) (m1:m<=9223372036854775807):Calls Tryz.prog 96 #[.pointer (some ⟨g,0,none⟩),.int .i64 m] w (NextG w g m):=by
 obtain⟨A,n,c,zs,i,h1,h2,h3,h4⟩:=h;have hlt:=h1.lt;have c0:=h1.k0;have c1:=h1.k1;have f1:=h1.frozen 1;obtain⟨i2,hi2⟩:∃i2,IntKind.i64.wrap (i+1)=i2:=⟨_,rfl⟩;obtain⟨i3,hi3⟩:∃i3,IntKind.i64.wrap (i2-1)=i3:=⟨_,rfl⟩;have in3:In64 i3:=by rw[<- hi3];exact in64_wrap _
 have hg:=grown_setCell w g 1 (.int .i64 i2);have hI:IntsV (w.setCell ⟨g,1,none⟩ (.int .i64 i2)) A n zs:=⟨(row_far h2.row hg (fun b' off e=>by have:=h3 b' off e;omega) (Nat.le_refl _)).more hg.size,h2.len,h2.wf⟩;have HG:Hid (GSt w (w.setCell ⟨g,1,none⟩ (.int .i64 i2)) g):=⟨hg,⟨A,n,c,zs,i2,h1.set 1 _,hI,h3,by rw[<- hi2];exact in64_wrap _⟩,hlt⟩;have HK:Hid (Bk (w.setCell ⟨g,1,none⟩ (.int .i64 i2)) g 180 [.slice A n c,.int .i64 i2]):=h1.set 1 _;have HI:=iH hI;have Hin:=iH in3;clear h1 h2 h3 h4 hg hI in3;go_enter Tryz.func96,Tryz.ntmps96;go_wp2_with fail;obtain⟨W,hW⟩:∃W,w.setCell ⟨g,1,none⟩ (.int .i64 i2)=W:=⟨_,rfl⟩;rw[hW]at HG HK HI⊢;clear hW c0 c1 f1;have d0:=HK.out.k0;have d1:=HK.out.k1;have K:=iH (fun q=>pick_q (c:=c) i3 m HI.out Hin.out m0 m1 q);have p0:=pick_lo zs i3 m m0;have p1:=pick_hi zs i3 m m0;generalize pick zs i3 m=x at *;go_quiet ((go_at_call 17;exact Calls.quiet_of_same (K.out _)));go_wp2;go_ret;exact⟨x,rfl,p0,p1,HG.out.below (bel_drewN (Below.refl _ _) _)⟩
def poolN (pool:List ByteArray) (turn n:Nat):List ByteArray:=(List.range n).map fun i=>pool[(i+turn) % pool.length]?.getD ⟨#[]⟩
theorem poolN_succ (pool:List ByteArray) (turn n:Nat):poolN pool turn (n+1)=poolN pool turn n ++ [pool[(n+turn) % pool.length]?.getD ⟨#[]⟩]:=by simp[poolN,List.range_succ]
@[simp] theorem poolN_length (pool : List ByteArray) (turn n : Nat) : (poolN pool turn n).length = n := by simp [poolN]
def SomeG (V:World) (g:Nat) (pool:List ByteArray) (most:Nat) (e:Ending) (W:World):Prop :=
 ∃v turn n,e=.returned v∧turn<pool.length∧1<=n∧n<=most∧W.ownsRow V.heap.size 9 1 v n (strs (poolN pool turn n))∧GSt V W g
theorem some_g {b:Nat} (c:Nat) {pool:List ByteArray} (most:Nat) (h:GOk w g) (hp:Bk w b 9 (strs pool)) (hb:b≠g) (h0:0<pool.length) (h1:pool.length<=1000) (m0:1<=most) (m1:most<=1000) :
 Calls Tryz.prog 92 #[.pointer (some ⟨g,0,none⟩),.slice (some ⟨b,0,none⟩) pool.length c,.int .i64 most] w (SomeG w g pool most):=by
 obtain⟨i0,hinf,hz0,hz1,hz2⟩:=info_parts info9;obtain⟨np,hnp⟩:∃np,pool.length=np:=⟨_,rfl⟩;have Hnp:=iH hnp;rw[hnp]at h0 h1⊢;have H:=iH h;have HP:=iH hp;clear h hp hnp;go_enter Tryz.func92,Tryz.ntmps92;go_wp2_with fail;(with_reducible refine(next_g (np:Int) H.out (by omega) (by omega)).mono ?_);rintro e w1 ⟨x,rfl,x0,x1,hs1⟩;obtain⟨turn,rfl⟩:=Int.eq_ofNat_of_zero_le x0;have HS1:=iH hs1;clear hs1 x0;go_wp2_with fail;(with_reducible refine(next_g (most:Int) HS1.out.ok (by omega) (by omega)).mono ?_);rintro e w2 ⟨y,rfl,y0,y1,hs2⟩;obtain⟨y,rfl⟩:=Int.eq_ofNat_of_zero_le y0;have HS2:=iH (HS1.out.trans hs2);clear hs2 HS1 y0;have HP2:=iH (HS2.out.bk HP.out hb);go_wp2_with fail;go_loopw [9,10] (fun v i wr=>∃k:Nat,k<=1+y∧i=.int .i64 k∧wr.ownsRow w.heap.size 9 1 v k (strs (poolN pool turn k))∧Bk wr b 9 (strs pool)∧GSt w wr g) (fun _ i _=>1+y-(intOf i).toNat)
 case atStart=>exact⟨0,by omega,rfl,World.ownsRow_nil _ _ _ _,HP2.out,HS2.out⟩
 case round =>
  obtain⟨k,hk,rfl,hown,hbk,hst⟩:=hrel;have HO:=iH hown;have HB:=iH hbk;have HS:=iH hst;have hsz:=hst.size;have hbl:=HP.out.lt;clear hown hbk hst;by_cases hlt:k<1+y
  ·obtain⟨j,hj⟩:∃j,(k+turn) % np=j:=⟨_,rfl⟩;have hjn:j<np:=by rw[<- hj];exact Nat.mod_lt _ h0
   have e1:((k:Int)+(turn:Int)) % (np:Int)=(j:Int):=by rw[<- hj];simp
   have HT:=iH (poolN_succ pool turn k);rw[Hnp.out,hj]at HT;have hjp:j<pool.length:=by rw[Hnp.out];exact hjn
   have c0:wr.cell? ⟨b,j,none⟩=some (.string pool[j]):=(HB.out.cell j).trans (by simp[strs,hjp]);have e2:pool[j]?.getD ⟨#[]⟩=pool[j]:=by simp[hjp]
   rw[e2]at HT;generalize pool[j]=s at *;have hbw:=HB.out.lt;clear hj hjp e2;go_wp2_with(at_builtin;refine wpList_append_own_at _ rfl _ _ 53 rfl w.heap.size 9 i0 (.string ⟨#[]⟩) 1 16 Tryz.underlying53 hinf hz0 hz1 hz2 rfl (by decide) _ k (strs (poolN pool turn k)) rfl (HO.out.alloc _) ⟨wr.heap.size,0,none⟩ 1 1 [.string s] rfl rfl (new1 _ _ _) (one1s _) (by unfold maxLen;omega) (by omega) (by simp;omega) ?_);intro v' w3 hown' hgrow _ _;have hbase:=row_base HO.out;have HB3:=iH ((HB.out.alloc (.cells #[.string s] 9)).grown hgrow (fun e=>by have:=hbase b e.symm;omega));have HS3:=iH ((HS.out.alloc (.cells #[.string s] 9)).grow hgrow hbase);have HO3:=iH hown';clear hown' hgrow;go_wp2;go_roundw
   case rel=>exact⟨k+1,by omega,by go_num,by rw[HT.out,strs_snoc];exact HO3.out,HB3.out,HS3.out⟩
   case measure=>simp[intOf];omega
  ·obtain rfl:1+y=k:=by omega
   have ht:turn<pool.length:=by rw[Hnp.out];omega
   go_wp2;go_ret;exact⟨_,turn,1+y,rfl,ht,by omega,by omega,HO.out,HS.out⟩
end
end
section
def Am (n:Nat) (l:List P2):Prop:=l.Pairwise (fun a b=>a.1<b.1)∧∀p∈l,0<=p.1∧p.1<n∧1<=p.2∧p.2<=4
theorem Am.snoc {k:Nat} {l:List P2} (h:Am k l) {x:Int} (h1:1<=x) (h2:x<=4):Am (k+1) (l ++ [((k:Int),x)]):=by
 refine⟨List.pairwise_append.2 ⟨h.1,by simp,fun a ha b hb=>?_⟩,fun p hp=>?_⟩
 ·rw[List.mem_singleton.1 hb];have:=h.2 a ha;dsimp only;omega
 ·rcases List.mem_append.1 hp with hp | hp
  ·have:=h.2 p hp;omega
  ·rw[List.mem_singleton.1 hp];dsimp only;omega
theorem Am.mono {k n:Nat} {l:List P2} (h:Am k l) (hkn:k<=n):Am n l:=⟨h.1,fun p hp=>by have:=h.2 p hp;omega⟩
theorem Am.sort {n:Nat} {l:List P2} (h:Am n l):sortB n l=true:=by
 have key : ∀ k, k <= l.length -> sortTo n l k = true := by
  intro k
  induction k with
  | zero=>intro _;rfl
  | succ k ih =>
    intro hk;have hkl:k<l.length:=by omega
    have e1:itemK l k=l[k].1:=by simp[itemK,hkl]
    have hm:=h.2 l[k] (List.getElem_mem hkl);have e2:lastAt l k<itemK l k:=by
     rw[e1];unfold lastAt;split
     ·omega
     ·have:=List.pairwise_iff_getElem.1 h.1 (k-1) k (by omega) hkl (by omega);simpa[show k-1<l.length by omega]using this
    simp only[sortTo,ih (by omega),decide_eq_true e2];rw[e1,decide_eq_true hm.2.1];rfl
 exact key _ (Nat.le_refl _)
theorem Am.units {n:Nat} {l:List P2} (h:Am n l):l.all unitP=true:=by
 rw[List.all_eq_true];intro p hp;have:=h.2 p hp;simp only[unitP,Bool.and_eq_true,decide_eq_true_eq];omega
theorem info151:(Tryz.prog.info? 151).map (fun i=>(i.zero,i.size,i.bytes))=some (some (.agg #[.int .i64 0,.int .i64 0]),2,16):=by kernel_rfl
theorem new2 (w:World) (t:TypeId) (a b:Value):∀j u,([a,b]:List Value)[j]? = some u->(w.alloc (.cells #[a,b] t)).cell? ((⟨w.heap.size,0,none⟩:Addr).add j)=some u:=by
 intro j u hj
 match j,hj with
 | 0,hj=>simp at hj;subst hj;simp[Addr.add]
 | 1,hj=>simp at hj;subst hj;simp[Addr.add]
 | j+2,hj=>simp at hj
theorem one2 (x y:Int):∀u∈([.int .i64 x,.int .i64 y]:List Value),u.oneCell'=true:=by
 intro u hu;simp only[List.mem_cons,List.not_mem_nil,or_false]at hu;rcases hu with rfl|rfl <;> rfl
def AmtsG (V:World) (g n most:Nat) (e:Ending) (W:World):Prop :=
 ∃v l,e=.returned v∧W.ownsRow V.heap.size 151 2 v l.length (pcells l)∧Am n l∧l.length<=most∧GSt V W g
theorem amounts_g {w : World} {g : Nat} (n most : Nat) (h : GOk w g) (hn : n <= 1000) (hm : most <= 1000) :
 Calls Tryz.prog 95 #[.pointer (some ⟨g,0,none⟩),.int .i64 n,.int .i64 most] w (AmtsG w g n most):=by
 obtain⟨i0,hinf,hz0,hz1,hz2⟩:=info_parts info151;have H:=iH h;clear h;go_enter Tryz.func95,Tryz.ntmps95;go_wp2_with fail;go_loopw [7,8,9] (fun v lf i wr=>∃(k:Nat) (l:List P2),k<=n∧l.length<=most∧i=.int .i64 k∧lf=.int .i64 ((most-l.length:Nat):Int)∧wr.ownsRow w.heap.size 151 2 v l.length (pcells l)∧Am k l∧GSt w wr g) (fun _ _ i _=>n-(intOf i).toNat)
 case atStart=>exact⟨0,[],by omega,by simp,rfl,by simp,World.ownsRow_nil _ _ _ _,⟨by simp,by simp⟩,GSt.refl H.out⟩
 case round =>
  obtain⟨k,l,hk,hl,rfl,rfl,hown,hA,hst⟩:=hrel;have HO:=iH hown;have HA:=iH hA;have HS:=iH hst;have hsz:=hst.size;clear hown hA hst;obtain⟨m,hm2⟩:∃m,l.length=m:=⟨_,rfl⟩;have Hm:=iH hm2;rw[hm2]at hl HO⊢;clear hm2;obtain⟨lf,hlf⟩:∃lf,most-m=lf:=⟨_,rfl⟩;have Hlf:=iH hlf;rw[hlf];have hlf2:lf<=1000:=by omega
  clear hlf;by_cases hlt:k<n
  ·by_cases hpos:0<lf
   ·have a1:decide ((0:Int)<(lf:Int))=true:=decide_eq_true (by omega);go_wp2_with fail;(with_reducible refine(next_g 3 HS.out.ok (by omega) (by omega)).mono ?_);rintro e w1 ⟨x,rfl,x0,x1,hs1⟩;have HS1:=iH (HS.out.trans hs1);have hgne:u7.ownBlock≠some g:=fun e=>by have h1:=row_base HO.out g e;have h2:=HS.out.lt;omega
    have HO1:=iH (hs1.own HO.out hgne);clear hs1;by_cases hx:x=0
    ·subst hx;go_wp2_with fail;(with_reducible refine(next_g 4 HS1.out.ok (by omega) (by omega)).mono ?_);rintro e w2 ⟨y,rfl,y0,y1,hs2⟩;have HS2:=iH (HS1.out.trans hs2);have HO2:=iH (hs2.own HO1.out hgne);have hsz2:=HS2.out.size;clear hs2;go_wp2_with(at_builtin;refine wpList_append_own_at _ rfl _ _ 147 rfl w.heap.size 151 i0 (.agg #[.int .i64 0,.int .i64 0]) 2 16 Tryz.underlying147 hinf hz0 hz1 hz2 rfl (by decide) _ m (pcells l) rfl (HO2.out.alloc _) ⟨w2.heap.size,0,none⟩ 1 1 [.int .i64 (k:Int),.int .i64 (1+y)] rfl rfl (new2 _ _ _ _) (one2 _ _) (by unfold maxLen;omega) (by omega) (by simp;omega) ?_);intro v' w3 hown' hgrow _ _;have HS3:=iH ((HS2.out.alloc (.cells #[.int .i64 (k:Int),.int .i64 (1+y)] 151)).grow hgrow (row_base HO2.out));have HO3:=iH hown';clear hown' hgrow;have e1:(lf:Int)-1=((lf-1:Nat):Int):=by omega
     go_wp2;go_roundw
     case rel =>
      refine⟨k+1,l ++ [((k:Int),1+y)],by omega,?_,by go_num,?_,?_,HA.out.snoc (by omega) (by omega),HS3.out⟩
      ·have:=Hm.out;have:=Hlf.out;simp;omega
      ·have h1:=Hm.out;have h2:=Hlf.out
       first
        | (congr 2;simp;omega)
        | (simp;omega)
      ·have h1:=Hm.out;rw[pcells_snoc,List.length_append,h1];exact HO3.out
     case measure=>simp[intOf];omega
    ·have e1:(x == 0)=false:=by simpa using hx
     go_wp2;go_roundw
     case rel=>exact⟨k+1,l,by omega,by have:=Hm.out;omega,by go_num,by rw[Hm.out,Hlf.out],by rw[Hm.out];exact HO1.out,HA.out.mono (by omega),HS1.out⟩
     case measure=>simp[intOf];omega
   ·have a1:decide ((0:Int)<(lf:Int))=false:=decide_eq_false (by omega);have a2:decide (0<lf)=false:=decide_eq_false hpos;go_wp2;go_ret;exact⟨_,l,rfl,by rw[Hm.out];exact HO.out,HA.out.mono hk,by have:=Hm.out;omega,HS.out⟩
  ·go_wp2;go_ret;exact⟨_,l,rfl,by rw[Hm.out];exact HO.out,HA.out.mono hk,by have:=Hm.out;omega,HS.out⟩
def ItemG (V:World) (g:Nat) (nm:ByteArray) (e:Ending) (W:World):Prop :=
 ∃t:It,e=.returned t.val∧t.name=nm∧itFormedB t=true∧itRangeB t=true∧GSt V W g
structure ItAt (V W : World) (g : Nat) (t : It) : Prop where
 st:GSt V W g
 res:Bk W V.heap.size 42 [.string ⟨#[]⟩,.bool false,.bool false,.bool false,.int .i64 0,.int .i64 0,.int .i64 0]
 bx:Bk W (V.heap.size+1) 42 t.cells
section
variable {V W W' : World} {g : Nat} {t t' : It}
theorem ItAt.next (h:ItAt V W g t) (k:GSt W W' g):ItAt V W' g t:=by
 have:=h.st.lt;exact⟨h.st.trans k,k.bk h.res (by omega),k.bk h.bx (by omega)⟩
theorem ItAt.set (h:ItAt V W g t) (j:Nat) (u:Value) (hu:t.cells.set j u=t'.cells):ItAt V (W.setCell ⟨V.heap.size+1,j,none⟩ u) g t' :=
 ⟨h.st.set _ _ _ (by omega),h.res.far (by simp) _,by rw[<- hu];exact h.bx.set j u⟩
end
theorem ItAt.done {V W:World} {g:Nat} {t:It} (h:ItAt V W g t) (f:itFormedB t=true) (r:itRangeB t=true) :
 ItemG V g t.name (.returned t.val) (((((((W.setCell ⟨V.heap.size,0,none⟩ (.string t.name)).setCell ⟨V.heap.size,1,none⟩ (.bool t.object)).setCell ⟨V.heap.size,2,none⟩ (.bool t.mixed)).setCell ⟨V.heap.size,3,none⟩ (.bool t.coin)).setCell ⟨V.heap.size,4,none⟩ (.int .i64 t.wear)).setCell ⟨V.heap.size,5,none⟩ (.int .i64 t.bnd)).setCell ⟨V.heap.size,6,none⟩ (.int .i64 t.level)) ∧
 (((((((W.setCell ⟨V.heap.size,0,none⟩ (.string t.name)).setCell ⟨V.heap.size,1,none⟩ (.bool t.object)).setCell ⟨V.heap.size,2,none⟩ (.bool t.mixed)).setCell ⟨V.heap.size,3,none⟩ (.bool t.coin)).setCell ⟨V.heap.size,4,none⟩ (.int .i64 t.wear)).setCell ⟨V.heap.size,5,none⟩ (.int .i64 t.bnd)).setCell ⟨V.heap.size,6,none⟩ (.int .i64 t.level)).heap[V.heap.size]? = some (.cells #[.string t.name,.bool t.object,.bool t.mixed,.bool t.coin,.int .i64 t.wear,.int .i64 t.bnd,.int .i64 t.level] 42 (0,0)):=by
 refine⟨⟨t,rfl,rfl,f,r,?_⟩,?_⟩
 ·exact((((((h.st.set _ _ _ (by omega)).set _ _ _ (by omega)).set _ _ _ (by omega)).set _ _ _ (by omega)).set _ _ _ (by omega)).set _ _ _ (by omega)).set _ _ _ (by omega)
 ·exact((((((h.res.set 0 _).set 1 _).set 2 _).set 3 _).set 4 _).set 5 _).set 6 _
theorem item_g {w:World} {g:Nat} (nm:ByteArray) (i:Nat) (h:GOk w g) (hi:i<=1000):Calls Tryz.prog 93 #[.pointer (some ⟨g,0,none⟩),.string nm,.int .i64 i] w (ItemG w g nm):=by
 have hA:ItAt w ((w.alloc (.cells #[.string ⟨#[]⟩,.bool false,.bool false,.bool false,.int .i64 0,.int .i64 0,.int .i64 0] 42)).alloc (.cells #[.string nm,.bool false,.bool false,.bool false,.int .i64 0,.int .i64 0,.int .i64 0] 42)) g ⟨nm,false,false,false,0,0,0⟩:=by
  have kx:=Bk.new (w.alloc (.cells #[.string ⟨#[]⟩,.bool false,.bool false,.bool false,.int .i64 0,.int .i64 0,.int .i64 0] 42)) 42 [.string nm,.bool false,.bool false,.bool false,.int .i64 0,.int .i64 0,.int .i64 0];rw[World.size_alloc]at kx;exact⟨((GSt.refl h).alloc _).alloc _,(Bk.new w 42 [.string ⟨#[]⟩,.bool false,.bool false,.bool false,.int .i64 0,.int .i64 0,.int .i64 0]).alloc _,kx⟩
 have HA:=iH hA;clear h hA;go_enter Tryz.func93,Tryz.ntmps93;go_wp2_with fail;(with_reducible refine(next_g 5 HA.out.st.ok (by omega) (by omega)).mono ?_);rintro e w1 ⟨x,rfl,x0,x1,hs1⟩;have HA1:=iH (HA.out.next hs1);clear hs1 HA;by_cases hx0:x=0
 ·subst hx0;have x:=HA1.out.bx.k2;have y:=HA1.out.bx.frozen 2;have z:=HA1.out.bx.lt;have HA2:=iH (HA1.out.set (t':=⟨nm,false,true,false,0,0,0⟩) 2 (.bool true) rfl);go_upto_region 11 with fail;obtain⟨W2,hW2⟩:∃W2,w1.setCell ⟨w.heap.size+1,2,none⟩ (.bool true)=W2:=⟨_,rfl⟩;rw[hW2]at HA2⊢;clear hW2 x y z HA1;have x:=HA2.out.bx.k3;have y:=HA2.out.bx.frozen 3;have z:=HA2.out.bx.lt;have HA9:=iH (HA2.out.set (t':=⟨nm,false,true,((i:Int) == 0),0,0,0⟩) 3 (.bool ((i:Int) == 0)) rfl);go_upto_region 12 with fail;obtain⟨W9,hW9⟩:∃W9,W2.setCell ⟨w.heap.size+1,3,none⟩ (.bool ((i:Int) == 0))=W9:=⟨_,rfl⟩;rw[hW9]at HA9⊢;clear hW9 x y z HA2;have x0:=HA9.out.bx.k0;have r0:=HA9.out.res.k0;have f0:=HA9.out.res.frozen 0;have x1:=HA9.out.bx.k1;have r1:=HA9.out.res.k1;have f1:=HA9.out.res.frozen 1;have x2:=HA9.out.bx.k2;have r2:=HA9.out.res.k2;have f2:=HA9.out.res.frozen 2;have x3:=HA9.out.bx.k3;have r3:=HA9.out.res.k3;have f3:=HA9.out.res.frozen 3;have x4:=HA9.out.bx.k4;have r4:=HA9.out.res.k4;have f4:=HA9.out.res.frozen 4;have x5:=HA9.out.bx.k5;have r5:=HA9.out.res.k5;have f5:=HA9.out.res.frozen 5;have x6:=HA9.out.bx.k6;have r6:=HA9.out.res.k6;have f6:=HA9.out.res.frozen 6;have hl9:=HA9.out.bx.lt;have HD:=iH (HA9.out.done (by rfl) (by rfl));generalize((i:Int) == 0)=ci at *;go_wp2;have t1:=HD.out.2;refine bodyPost_ret (v:=.agg #[.string nm,.bool false,.bool true,.bool ci,.int .i64 0,.int .i64 0,.int .i64 0]) (by simp[results,Tryz.results93,go_sem,World.cell?,t1]) rfl HD.out.1
 have e0:(x == 0)=false:=by simpa using hx0
 by_cases hx1:x=1;rotate_left
 ·have e1:(x == 1)=false:=by simpa using hx1
  go_upto_region 11 with fail;have x:=HA1.out.bx.k3;have y:=HA1.out.bx.frozen 3;have z:=HA1.out.bx.lt;have HA9:=iH (HA1.out.set (t':=⟨nm,false,false,((i:Int) == 0),0,0,0⟩) 3 (.bool ((i:Int) == 0)) rfl);go_upto_region 12 with fail;obtain⟨W9,hW9⟩:∃W9,w1.setCell ⟨w.heap.size+1,3,none⟩ (.bool ((i:Int) == 0))=W9:=⟨_,rfl⟩;rw[hW9]at HA9⊢;clear hW9 x y z HA1;have x0:=HA9.out.bx.k0;have r0:=HA9.out.res.k0;have f0:=HA9.out.res.frozen 0;have x1:=HA9.out.bx.k1;have r1:=HA9.out.res.k1;have f1:=HA9.out.res.frozen 1;have x2:=HA9.out.bx.k2;have r2:=HA9.out.res.k2;have f2:=HA9.out.res.frozen 2;have x3:=HA9.out.bx.k3;have r3:=HA9.out.res.k3;have f3:=HA9.out.res.frozen 3;have x4:=HA9.out.bx.k4;have r4:=HA9.out.res.k4;have f4:=HA9.out.res.frozen 4;have x5:=HA9.out.bx.k5;have r5:=HA9.out.res.k5;have f5:=HA9.out.res.frozen 5;have x6:=HA9.out.bx.k6;have r6:=HA9.out.res.k6;have f6:=HA9.out.res.frozen 6;have hl9:=HA9.out.bx.lt;have HD:=iH (HA9.out.done (by rfl) (by rfl));generalize((i:Int) == 0)=ci at *;go_wp2;have t1:=HD.out.2;refine bodyPost_ret (v:=.agg #[.string nm,.bool false,.bool false,.bool ci,.int .i64 0,.int .i64 0,.int .i64 0]) (by simp[results,Tryz.results93,go_sem,World.cell?,t1]) rfl HD.out.1
 subst hx1;by_cases hi0:0<i;rotate_left
 ·have e1:decide ((0:Int)<(i:Int))=false:=decide_eq_false (by omega);have e2:decide (0<i)=false:=decide_eq_false hi0;have x:=HA1.out.bx.k1;have y:=HA1.out.bx.frozen 1;have z:=HA1.out.bx.lt;have HA2:=iH (HA1.out.set (t':=⟨nm,false,false,false,0,0,0⟩) 1 (.bool false) rfl);go_upto_region 7 with fail;obtain⟨W2,hW2⟩:∃W2,w1.setCell ⟨w.heap.size+1,1,none⟩ (.bool false)=W2:=⟨_,rfl⟩;rw[hW2]at HA2⊢;clear hW2 x y z HA1;have ob:=HA2.out.bx.k1;have obl:=HA2.out.bx.lt;go_upto_region 11 with fail;clear ob obl;have x:=HA2.out.bx.k3;have y:=HA2.out.bx.frozen 3;have z:=HA2.out.bx.lt;have HA9:=iH (HA2.out.set (t':=⟨nm,false,false,((i:Int) == 0),0,0,0⟩) 3 (.bool ((i:Int) == 0)) rfl);go_upto_region 12 with fail;obtain⟨W9,hW9⟩:∃W9,W2.setCell ⟨w.heap.size+1,3,none⟩ (.bool ((i:Int) == 0))=W9:=⟨_,rfl⟩;rw[hW9]at HA9⊢;clear hW9 x y z HA2;have x0:=HA9.out.bx.k0;have r0:=HA9.out.res.k0;have f0:=HA9.out.res.frozen 0;have x1:=HA9.out.bx.k1;have r1:=HA9.out.res.k1;have f1:=HA9.out.res.frozen 1;have x2:=HA9.out.bx.k2;have r2:=HA9.out.res.k2;have f2:=HA9.out.res.frozen 2;have x3:=HA9.out.bx.k3;have r3:=HA9.out.res.k3;have f3:=HA9.out.res.frozen 3;have x4:=HA9.out.bx.k4;have r4:=HA9.out.res.k4;have f4:=HA9.out.res.frozen 4;have x5:=HA9.out.bx.k5;have r5:=HA9.out.res.k5;have f5:=HA9.out.res.frozen 5;have x6:=HA9.out.bx.k6;have r6:=HA9.out.res.k6;have f6:=HA9.out.res.frozen 6;have hl9:=HA9.out.bx.lt;have HD:=iH (HA9.out.done (by rfl) (by rfl));generalize((i:Int) == 0)=ci at *;go_wp2;have t1:=HD.out.2;refine bodyPost_ret (v:=.agg #[.string nm,.bool false,.bool false,.bool ci,.int .i64 0,.int .i64 0,.int .i64 0]) (by simp[results,Tryz.results93,go_sem,World.cell?,t1]) rfl HD.out.1
 have e1:decide ((0:Int)<(i:Int))=true:=decide_eq_true (by omega);have e2:decide (0<i)=true:=decide_eq_true hi0;have x:=HA1.out.bx.k1;have y:=HA1.out.bx.frozen 1;have z:=HA1.out.bx.lt;have HA2:=iH (HA1.out.set (t':=⟨nm,true,false,false,0,0,0⟩) 1 (.bool true) rfl);go_upto_region 7 with fail;obtain⟨W2,hW2⟩:∃W2,w1.setCell ⟨w.heap.size+1,1,none⟩ (.bool true)=W2:=⟨_,rfl⟩;rw[hW2]at HA2⊢;clear hW2 x y z HA1;have ob:=HA2.out.bx.k1;have obl:=HA2.out.bx.lt;go_wp2_with fail;clear ob obl;(with_reducible refine(next_g 9 HA2.out.st.ok (by omega) (by omega)).mono ?_);rintro e w3 ⟨a,rfl,a0,a1,hs3⟩;have HA3:=iH (HA2.out.next hs3);clear hs3 HA2;have x:=HA3.out.bx.k4;have y:=HA3.out.bx.frozen 4;have z:=HA3.out.bx.lt;have HA4:=iH (HA3.out.set (t':=⟨nm,true,false,false,1+a,0,0⟩) 4 (.int .i64 (1+a)) rfl);go_upto_region 9 with fail;obtain⟨W4,hW4⟩:∃W4,w3.setCell ⟨w.heap.size+1,4,none⟩ (.int .i64 (1+a))=W4:=⟨_,rfl⟩;rw[hW4]at HA4⊢;clear hW4 x y z HA3;go_wp2_with fail;(with_reducible refine(next_g 3 HA4.out.st.ok (by omega) (by omega)).mono ?_);rintro e w5 ⟨b,rfl,b0,b1,hs5⟩;have HA5:=iH (HA4.out.next hs5);clear hs5 HA4;have x:=HA5.out.bx.k5;have y:=HA5.out.bx.frozen 5;have z:=HA5.out.bx.lt;have HA6:=iH (HA5.out.set (t':=⟨nm,true,false,false,1+a,b,0⟩) 5 (.int .i64 b) rfl);go_upto_region 10 with fail;obtain⟨W6,hW6⟩:∃W6,w5.setCell ⟨w.heap.size+1,5,none⟩ (.int .i64 b)=W6:=⟨_,rfl⟩;rw[hW6]at HA6⊢;clear hW6 x y z HA5;go_wp2_with fail;(with_reducible refine(next_g 4 HA6.out.st.ok (by omega) (by omega)).mono ?_);rintro e w7 ⟨d,rfl,d0,d1,hs7⟩;have HA7:=iH (HA6.out.next hs7);clear hs7 HA6;have x:=HA7.out.bx.k6;have y:=HA7.out.bx.frozen 6;have z:=HA7.out.bx.lt;have HA8:=iH (HA7.out.set (t':=⟨nm,true,false,false,1+a,b,d⟩) 6 (.int .i64 d) rfl);go_upto_region 11 with fail;obtain⟨W8,hW8⟩:∃W8,w7.setCell ⟨w.heap.size+1,6,none⟩ (.int .i64 d)=W8:=⟨_,rfl⟩;rw[hW8]at HA8⊢;clear hW8 x y z HA7;have ei:((i:Int) == 0)=false:=by simp;omega
 have Hei:=iH ei;clear ei;have x:=HA8.out.bx.k3;have y:=HA8.out.bx.frozen 3;have z:=HA8.out.bx.lt;have HA9:=iH (HA8.out.set (t':=⟨nm,true,false,((i:Int) == 0),1+a,b,d⟩) 3 (.bool ((i:Int) == 0)) rfl);go_upto_region 12 with fail;obtain⟨W9,hW9⟩:∃W9,W8.setCell ⟨w.heap.size+1,3,none⟩ (.bool ((i:Int) == 0))=W9:=⟨_,rfl⟩;rw[hW9]at HA9⊢;clear hW9 x y z HA8;have x0:=HA9.out.bx.k0;have r0:=HA9.out.res.k0;have f0:=HA9.out.res.frozen 0;have x1:=HA9.out.bx.k1;have r1:=HA9.out.res.k1;have f1:=HA9.out.res.frozen 1;have x2:=HA9.out.bx.k2;have r2:=HA9.out.res.k2;have f2:=HA9.out.res.frozen 2;have x3:=HA9.out.bx.k3;have r3:=HA9.out.res.k3;have f3:=HA9.out.res.frozen 3;have x4:=HA9.out.bx.k4;have r4:=HA9.out.res.k4;have f4:=HA9.out.res.frozen 4;have x5:=HA9.out.bx.k5;have r5:=HA9.out.res.k5;have f5:=HA9.out.res.frozen 5;have x6:=HA9.out.bx.k6;have r6:=HA9.out.res.k6;have f6:=HA9.out.res.frozen 6;have hl9:=HA9.out.bx.lt;have HD:=iH (HA9.out.done (by have q1:decide (0<=b)=true:=decide_eq_true b0;have q2:decide (b<=2)=true:=decide_eq_true (by omega);simp only[itFormedB,if_true,Hei.out,q1,q2];rfl) (by have q1:decide (1<=1+a)=true:=decide_eq_true (by omega);have q2:decide (1+a<=1048576)=true:=decide_eq_true (by omega);have q3:decide (0<=d)=true:=decide_eq_true d0;have q4:decide (d<=100)=true:=decide_eq_true (by omega);simp only[itRangeB,q1,q2,q3,q4];rfl));generalize((i:Int) == 0)=ci at *;go_wp2;have t1:=HD.out.2;refine bodyPost_ret (v:=.agg #[.string nm,.bool true,.bool false,.bool ci,.int .i64 (1+a),.int .i64 b,.int .i64 d]) (by simp[results,Tryz.results93,go_sem,World.cell?,t1]) rfl HD.out.1
end
end
set_option linter.unusedVariables false
set_option linter.unusedSimpArgs false
inductive SubA : List P2 -> List P2 -> Prop where
 | nil:SubA [] []
 | skip {t b:List P2} (p:P2):SubA t b->SubA (t ++ [p]) b
 | take {t b:List P2} (x N m:Int):SubA t b->1<=m->m<=N->SubA (t ++ [(x,N)]) (b ++ [(x,m)])
theorem SubA.len {t b:List P2} (h:SubA t b):b.length<=t.length:=by
 induction h with
 | nil=>exact Nat.le_refl _
 | skip p _ ih=>simp;omega
 | take x N m _ _ _ ih=>simp;omega
theorem SubA.empty (t:List P2):SubA t []:=by
 have:∀k,k<=t.length->SubA (t.take k) []:=by
  intro k
  induction k with
  | zero=>intro _;exact .nil
  | succ k ih=>intro hk;rw[List.take_succ_eq_append_getElem (by omega)];exact .skip _ (ih (by omega))
 have h:=this t.length (Nat.le_refl _)
 rwa [List.take_length]at h
theorem Am.init {n:Nat} {l:List P2} {p:P2} (h:Am n (l ++ [p])):Am n l:=⟨(List.pairwise_append.1 h.1).1,fun q hq=>h.2 q (List.mem_append_left _ hq)⟩
theorem SubA.am {n:Nat} {t b:List P2} (h:SubA t b):Am n t->Am n b∧∀q∈b,∃p∈t,p.1=q.1∧q.2<=p.2:=by
 induction h with
 | nil=>intro h;exact⟨h,by simp⟩
 | skip p _ ih =>
   intro h;obtain⟨h1,h2⟩:=ih h.init;refine⟨h1,fun q hq=>?_⟩;obtain⟨p',hp',e⟩:=h2 q hq;exact⟨p',List.mem_append_left _ hp',e⟩
 | take x N m _ h1 h2 ih =>
   intro h;obtain⟨i1,i2⟩:=ih h.init;have hx:=h.2 (x,N) (by simp);dsimp only at hx;refine⟨⟨List.pairwise_append.2 ⟨i1.1,by simp,fun a ha c hc=>?_⟩,fun p hp=>?_⟩,fun q hq=>?_⟩
   ·rw[List.mem_singleton.1 hc];obtain⟨p',hp',e,_⟩:=i2 a ha;have:=(List.pairwise_append.1 h.1).2.2 p' hp' (x,N) (by simp);rw[<- e];exact this
   ·rcases List.mem_append.1 hp with hp | hp
    ·exact i1.2 p hp
    ·rw[List.mem_singleton.1 hp];dsimp only;omega
   ·rcases List.mem_append.1 hq with hq | hq
    ·obtain⟨p',hp',e⟩:=i2 q hq;exact⟨p',List.mem_append_left _ hp',e⟩
    ·rw[List.mem_singleton.1 hq];exact⟨(x,N),by simp,rfl,h2⟩
theorem unitsW_at {n:Nat} {l:List P2} (h:Am n l) {j:Nat} (hj:j<l.length):∀k,k<=l.length->unitsW l l[j].1 k=if j<k then l[j].2 else 0:=by
 intro k
 induction k with
 | zero=>intro _;simp[unitsW]
 | succ k ih =>
   intro hk;have hkl:k<l.length:=by omega
   have e1:itemK l k=l[k].1:=by simp[itemK,hkl]
   have e2:nK l k=l[k].2:=by simp[nK,hkl]
   have hm:=h.2 l[k] (List.getElem_mem hkl);simp only[unitsW,ih (by omega),e1,e2];rcases Nat.lt_trichotomy j k with h1|h1|h1
   ·have:=List.pairwise_iff_getElem.1 h.1 j k hj hkl h1;rw[if_neg (by omega),if_pos h1,if_pos (by omega)]
   ·subst h1;rw[if_pos rfl,if_neg (by omega),if_pos (by omega),Int.zero_add];exact IntWalk.i64_in _ (by omega)
   ·have:=List.pairwise_iff_getElem.1 h.1 k j hkl hj h1;rw[if_neg (by omega),if_neg (by omega),if_neg (by omega)]
theorem unitsW_mem {n:Nat} {l:List P2} (h:Am n l) {p:P2} (hp:p∈l):unitsW l p.1 l.length=p.2:=by
 obtain⟨j,hj,rfl⟩:=List.getElem_of_mem hp;rw[unitsW_at h hj _ (Nat.le_refl _),if_pos hj]
theorem SubA.cont {n:Nat} {t b:List P2} (h:SubA t b) (ht:Am n t):contB t b=true:=by
 obtain⟨hb,hs⟩:=h.am ht;have key:∀k,k<=b.length->contTo t b k=true:=by
  intro k
  induction k with
  | zero=>intro _;rfl
  | succ k ih =>
    intro hk;have hkl:k<b.length:=by omega
    have e1:itemK b k=b[k].1:=by simp[itemK,hkl]
    obtain⟨p,hp,e,hle⟩:=hs b[k] (List.getElem_mem hkl);have u1:=unitsW_mem hb (List.getElem_mem hkl);have u2:=unitsW_mem ht hp;rw[e]at u2;simp only[contTo,ih (by omega),Bool.true_and,e1,u1,u2,decide_eq_true_eq];exact hle
 exact key _ (Nat.le_refl _)
end Go.Proofs.YtiecjoijnkghbaaGreatDoor
