/- The walk of version.Merge on catalogs of items alone, where nothing stands against it. The contracts of the two divisors: both are the greatest common divisor. The contract of version.Then. The contracts of the reference's bag and factor. The contract of the reference's Convert. The contract of the reference's Convert on arguments that it takes. The contract of the reference's Then. -/
import Derived.Test.YthjfdfdgbpbanaaGreatDoorX1
import Derived.Test.YthjfdfdgbpbanaaGreatDoorX3
import Derived.Test.YthjfdfdgbpbanaaGreatDoorX12
import Derived.StillTailTactics
import Derived.Deep.MidRow
import Derived.BigQuiet
import Derived.BigRegion
set_option linter.unusedVariables false
set_option linter.unusedSimpArgs false
set_option maxRecDepth 100000
set_option maxHeartbeats 4000000
open Go.RowKit
namespace Go.Proofs.YthjfdfdgbpbanaaGreatDoor
section
abbrev nilS:Value:=.slice none 0 0
structure MgAt (w W : World) (so sx : Sl) (bo bn : Nat) (lo ln : List It) (v : Value) (its : List It) : Prop where
 mo:MapI W bo so.n (idxTo lo so.n)
 mn:MapI W bn sx.n (idxTo ln sx.n)
 b1:Bk W w.heap.size 28 [.slice so.A so.n so.c,nilS,nilS,nilS]
 b2:Bk W (w.heap.size+1) 28 [.slice sx.A sx.n sx.c,nilS,nilS,nilS]
 b3:Bk W (w.heap.size+2) 28 [nilS,nilS,nilS,nilS]
 own:W.ownsRow (w.heap.size+3) 89 7 v its.length (icells its)
 below:Below w.heap.size w W
section
variable {w W W' : World} {so sx : Sl} {bo bn : Nat} {lo ln : List It} {v : Value} {its : List It}
theorem MgAt.grow (h:MgAt w W so sx bo bn lo ln v its) (hb:Below W.heap.size W W'):MgAt w W' so sx bo bn lo ln v its :=
 ⟨h.mo.below hb,h.mn.below hb,h.b1.below hb h.b1.lt,h.b2.below hb h.b2.lt,h.b3.below hb h.b3.lt,h.own.kept (grown_of_below hb none) (by cases v.ownBlock <;> simp),h.below.trans (hb.mono h.below.size)⟩
theorem MapI.ne_row {b n:Nat} {M:ByteArray->Option Nat} {base e size m:Nat} {u:Value} {xs:List Value} (h:MapI W b n M) (ho:W.ownsRow base e size u m xs):some b≠u.ownBlock:=by
 intro e1;obtain⟨D,⟨es,clock,hh,_⟩,_⟩:=h;rcases ho.2 with ⟨rfl,_⟩|⟨g,cap,cur,rfl,_,hg,_⟩
 ·simp[Value.ownBlock]at e1
 ·simp[Value.ownBlock]at e1;subst e1;rw[hh]at hg;cases hg
theorem MgAt.turn {its':List It} {v':Value} (h:MgAt w W so sx bo bn lo ln v its) (hg:W.grownBy W' v.ownBlock) (ho:W'.ownsRow (w.heap.size+3) 89 7 v' its'.length (icells its')):MgAt w W' so sx bo bn lo ln v' its':=by
 have hr:=row_base h.own;refine⟨h.mo.kept hg (h.mo.ne_row h.own),h.mn.kept hg (h.mn.ne_row h.own),h.b1.grown hg ?_,h.b2.grown hg ?_,h.b3.grown hg ?_,ho,h.below.grown hg h.below.size (fun g e=>by have:=hr g e;omega)⟩
 ·intro e;have:=hr _ e.symm;omega
 ·intro e;have:=hr _ e.symm;omega
 ·intro e;have:=hr _ e.symm;omega
theorem MgAt.setIt {g cap:Nat} (h:MgAt w W so sx bo bn lo ln (.slice (some ⟨g,0,none⟩) its.length cap) its) (k:Nat) (t:It) (hk:k<its.length) :
 MgAt w (((((((W.setCell ⟨g,k*7,none⟩ (.string t.name)).setCell ⟨g,k*7+1,none⟩ (.bool t.object)).setCell ⟨g,k*7+2,none⟩ (.bool t.mixed)).setCell ⟨g,k*7+3,none⟩ (.bool t.coin)).setCell ⟨g,k*7+4,none⟩ (.int .i64 t.wear)).setCell ⟨g,k*7+5,none⟩ (.int .i64 t.bnd)).setCell ⟨g,k*7+6,none⟩ (.int .i64 t.level)) so sx bo bn lo ln (.slice (some ⟨g,0,none⟩) its.length cap) (its.set k t):=by
 have hr:=row_base h.own g rfl;have o7:=(((((((h.own.stored (k*7) (.string t.name)).1.stored (k*7+1) (.bool t.object)).1.stored (k*7+2) (.bool t.mixed)).1.stored (k*7+3) (.bool t.coin)).1.stored (k*7+4) (.int .i64 t.wear)).1.stored (k*7+5) (.int .i64 t.bnd)).1.stored (k*7+6) (.int .i64 t.level)).1;rw[<- icells_set its k t hk]at o7;have hl:(its.set k t).length=its.length:=by simp
 refine⟨?_,?_,?_,?_,?_,by rw[hl];exact o7,?_⟩
 ·have hne:some bo≠some g:=h.mo.ne_row h.own;exact((((((h.mo.kept (grown_setCell W g _ _) hne).kept (grown_setCell _ g _ _) hne).kept (grown_setCell _ g _ _) hne).kept (grown_setCell _ g _ _) hne).kept (grown_setCell _ g _ _) hne).kept (grown_setCell _ g _ _) hne).kept (grown_setCell _ g _ _) hne
 ·have hne:some bn≠some g:=h.mn.ne_row h.own;exact((((((h.mn.kept (grown_setCell W g _ _) hne).kept (grown_setCell _ g _ _) hne).kept (grown_setCell _ g _ _) hne).kept (grown_setCell _ g _ _) hne).kept (grown_setCell _ g _ _) hne).kept (grown_setCell _ g _ _) hne).kept (grown_setCell _ g _ _) hne
 ·have hne:w.heap.size≠g:=by omega
  exact((((((h.b1.far hne _).far hne _).far hne _).far hne _).far hne _).far hne _).far hne _
 ·have hne:w.heap.size+1≠g:=by omega
  exact((((((h.b2.far hne _).far hne _).far hne _).far hne _).far hne _).far hne _).far hne _
 ·have hne:w.heap.size+2≠g:=by omega
  exact((((((h.b3.far hne _).far hne _).far hne _).far hne _).far hne _).far hne _).far hne _
 ·have hle:w.heap.size<=g:=by omega
  exact((((((h.below.setCell (p:=⟨g,_,none⟩) hle _).setCell (p:=⟨g,_,none⟩) hle _).setCell (p:=⟨g,_,none⟩) hle _).setCell (p:=⟨g,_,none⟩) hle _).setCell (p:=⟨g,_,none⟩) hle _).setCell (p:=⟨g,_,none⟩) hle _).setCell (p:=⟨g,_,none⟩) hle _
end
def MergePost (w:World) (l:List It) (e:Ending) (w':World):Prop :=
 ∃A c,e=.returned (.tuple #[.agg #[.slice A l.length c,nilS,nilS,nilS],.int .i64 0])∧Row w' w'.heap.size A (icells l)∧Below w.heap.size w w'
theorem row_ne {W:World} {base:Nat} {e t:TypeId} {size n g:Nat} {v:Value} {xs ys:List Value} (h:W.ownsRow base e size v n xs) (hg:Bk W g t ys) (hne:e≠t):v.ownBlock≠some g:=by
 rcases h.2 with ⟨rfl,_⟩|⟨g',cap,cur,rfl,_,hh,_⟩
 ·simp[Value.ownBlock]
 ·intro he;have:g'=g:=by simpa[Value.ownBlock]using he
  subst this;unfold Bk at hg;rw[hg]at hh;cases hh;exact hne rfl
theorem MgAt.setP {w W:World} {so sx:Sl} {bo bn:Nat} {lo ln:List It} {v:Value} {its:List It} {g t:Nat} {xs:List Value} (h:MgAt w W so sx bo bn lo ln v its) (hk:Bk W g t xs) (ht:89≠t) (hg:w.heap.size+3<=g) (j:Nat) (u:Value):MgAt w (W.setCell ⟨g,j,none⟩ u) so sx bo bn lo ln v its:=by
 have gr:=grown_setCell W g j u;exact⟨h.mo.kept gr (fun e=>h.mo.ne_bk hk (Option.some.inj e)),h.mn.kept gr (fun e=>h.mn.ne_bk hk (Option.some.inj e)),h.b1.far (by simp;omega) _,h.b2.far (by simp;omega) _,h.b3.far (by simp;omega) _,h.own.kept gr (.inr (row_ne h.own hk ht)),h.below.setCell (by simp;omega) _⟩
theorem mergeL_succ_old {lo ln:List It} {k:Nat} (h:(idxTo lo lo.length (itAt ln k).name).isSome=true):mergeL lo ln (k+1)=mergeL lo ln k:=by simp[mergeL,newTo,h]
theorem mergeL_succ_new {lo ln:List It} {k:Nat} (h:(idxTo lo lo.length (itAt ln k).name).isSome=false):mergeL lo ln (k+1)=mergeL lo ln k ++ [itAt ln k]:=by simp[mergeL,newTo,h]
theorem newTo_le (lo ln:List It) (k:Nat):(newTo lo ln k).length<=k:=by
 induction k with
 | zero=>simp[newTo]
 | succ k ih =>
   simp only[newTo];split
   ·omega
   ·simp;omega
theorem mergeL_le (lo ln:List It) (k:Nat):(mergeL lo ln k).length<=lo.length+k:=by
 have:=newTo_le lo ln k;simp[mergeL];omega
theorem new7a (w:World) (t:TypeId) (a b c d e f g:Value):∀j u,([a,b,c,d,e,f,g]:List Value)[j]? = some u->(w.alloc (.cells #[a,b,c,d,e,f,g] t)).cell? ((⟨w.heap.size,0,none⟩:Addr).add j)=some u:=by
 intro j u hj
 match j,hj with
 | 0,hj=>simp at hj;subst hj;simp[Addr.add]
 | 1,hj=>simp at hj;subst hj;simp[Addr.add]
 | 2,hj=>simp at hj;subst hj;simp[Addr.add]
 | 3,hj=>simp at hj;subst hj;simp[Addr.add]
 | 4,hj=>simp at hj;subst hj;simp[Addr.add]
 | 5,hj=>simp at hj;subst hj;simp[Addr.add]
 | 6,hj=>simp at hj;subst hj;simp[Addr.add]
 | j+7,hj=>simp at hj
theorem merge_end {w W w':World} {so sx:Sl} {bo bn n c:Nat} {A:Option Addr} {lo ln its:List It} {u0 u1 u2 u3:Value} (h:MgAt w W so sx bo bn lo ln (.slice A n c) its) (hn:n=its.length) (hb:Below W.heap.size W w') :
 MergePost w its (.returned (.tuple #[.agg #[.slice A n c,nilS,nilS,nilS],.int .i64 0])) ((((w'.setCell ⟨w.heap.size+2,0,none⟩ u0).setCell ⟨w.heap.size+2,1,none⟩ u1).setCell ⟨w.heap.size+2,2,none⟩ u2).setCell ⟨w.heap.size+2,3,none⟩ u3):=by
 have h2:=h.grow hb;have hx:∀(X:World) (j:Nat) (u:Value),X.ownsRow (w.heap.size+3) 89 7 (.slice A n c) its.length (icells its)->(X.setCell ⟨w.heap.size+2,j,none⟩ u).ownsRow (w.heap.size+3) 89 7 (.slice A n c) its.length (icells its):=fun X j u h =>
  h.kept (grown_setCell X _ j u) (.inr (ne_row h (by omega)))
 have h4:=hx _ 3 u3 (hx _ 2 u2 (hx _ 1 u1 (hx _ 0 u0 h2.own)));obtain⟨A',c',e,hr⟩:=row_of_owns h4;cases e;refine⟨A,c,by rw[hn],hr,?_⟩;exact(((h2.below.setCell (p:=⟨w.heap.size+2,0,none⟩) (by simp) _).setCell (p:=⟨w.heap.size+2,1,none⟩) (by simp) _).setCell (p:=⟨w.heap.size+2,2,none⟩) (by simp) _).setCell (p:=⟨w.heap.size+2,3,none⟩) (by simp) _
theorem Merge_ok {w : World} {ao ax : Addr} {no nx : Nat} (co cx : Nat) {lo ln : List It} (ho : CatV w (some ao) no lo) (hn : CatV w (some ax) nx ln) (hE : ∀ k, k < no -> keepErr ln (itAt lo k) = 0) (h64 : no + nx <= 64) (h1 : 0 < no) :
 Calls Tryz.prog 18 #[catV (some ao) no co,catV (some ax) nx cx] w (MergePost w (mergeL lo ln nx)):=by
 obtain⟨i0,hi,hz0,hz1,hz2⟩:=info_parts info89;have Ho:=iH ho;have Hn:=iH hn;have HE:=iH hE;have Hlo:=iH ho.items.len;have Hln:=iH hn.items.len;clear ho hn hE;have hb0:Below w.heap.size w (((w.alloc (catO (some ao) no co)).alloc (catO (some ax) nx cx)).alloc (.cells #[nilS,nilS,nilS,nilS] 28)):=(((Below.refl _ _).alloc (Nat.le_refl _) _).alloc (by simp) _).alloc (by simp;omega) _;have k0:=((Bk.new w 28 (catL (some ao) no co)).alloc (catO (some ax) nx cx)).alloc (.cells #[nilS,nilS,nilS,nilS] 28);have k0':=(Bk.new (w.alloc (catO (some ao) no co)) 28 (catL (some ax) nx cx)).alloc (.cells #[nilS,nilS,nilS,nilS] 28);have k0'':=Bk.new ((w.alloc (catO (some ao) no co)).alloc (catO (some ax) nx cx)) 28 [nilS,nilS,nilS,nilS];rw[World.size_alloc]at k0';rw[World.size_alloc,World.size_alloc]at k0'';have HV:=iH (both_items co cx (Ho.out.below hb0) (Hn.out.below hb0));have HK0:=iH k0;have HK0':=iH k0';have HK0'':=iH k0'';clear k0 k0' k0'';go_enter Tryz.func18,Tryz.ntmps18;go_wp2_with fail;refine HV.out.mono ?_;rintro e w1 ⟨rfl,hb1⟩;have K1:=iH (HK0.out.below hb1 (by simp;omega));have K2:=iH (HK0'.out.below hb1 (by simp));have K3:=iH (HK0''.out.below hb1 (by simp));have G1:Below w.heap.size w w1:=hb0.trans (hb1.mono (by simp;omega));have N1:Hid (∀W:World,Below w1.heap.size w1 W->Calls Tryz.prog 44 #[catV (some ao) no co] W (NamesPost W lo no)):=fun W hW=>names_any (i:=⟨some ao,no,co⟩) (r:=⟨none,0,0⟩) (t:=⟨none,0,0⟩) (x:=⟨none,0,0⟩) (Ho.out.items.below (G1.trans (hW.mono G1.size)))
 have N2:Hid (∀W:World,Below w1.heap.size w1 W->Calls Tryz.prog 44 #[catV (some ax) nx cx] W (NamesPost W ln nx)):=fun W hW=>names_any (i:=⟨some ax,nx,cx⟩) (r:=⟨none,0,0⟩) (t:=⟨none,0,0⟩) (x:=⟨none,0,0⟩) (Hn.out.items.below (G1.trans (hW.mono G1.size)))
 have HC:Hid (∀U:World,Below w1.heap.size w1 U->(U.cell? ⟨w.heap.size,0,none⟩=some (.slice (some ao) no co)∧U.cell? ⟨w.heap.size,1,none⟩=some nilS∧U.cell? ⟨w.heap.size,2,none⟩=some nilS∧U.cell? ⟨w.heap.size,3,none⟩=some nilS ∧
  U.cell? ⟨w.heap.size+1,0,none⟩=some (.slice (some ax) nx cx)∧U.cell? ⟨w.heap.size+1,1,none⟩=some nilS∧U.cell? ⟨w.heap.size+1,2,none⟩=some nilS∧U.cell? ⟨w.heap.size+1,3,none⟩=some nilS)):=fun U hU=>by
  have q1:=K1.out.below hU K1.out.lt;have q2:=K2.out.below hU K2.out.lt;exact⟨q1.cell 0,q1.cell 1,q1.cell 2,q1.cell 3,q2.cell 0,q2.cell 1,q2.cell 2,q2.cell 3⟩
 obtain⟨p0,p1,p2,p3,r0,r1,r2,r3⟩:=HC.out w1 (Below.refl _ _);clear hb1 hb0 HK0 HK0' HK0'' HV;go_wp2_with fail;go_cut [7,8] (fun a b wx=>∃bo bn,a=.map (some bo)∧b=.map (some bn)∧MapI wx bo no (idxTo lo no)∧MapI wx bn nx (idxTo ln nx)∧Below w1.heap.size w1 wx)
 case first =>
  go_region_with (first
   | (go_at_call 44;(with_reducible refine(N1.out _ ?_).mono ?_);(first | exact(Below.refl _ _).drew | exact GB);rintro e wA ⟨b,rfl,hm,hge,hba⟩;(first | (have GC:=GB.trans (hba.mono GB.size);have hm1:=hm;have hm2:=hmB.below hba) | (have GA:=(Below.refl w1.heap.size w1).drew.trans hba;have hmA:=hm;obtain⟨p0,p1,p2,p3,r0,r1,r2,r3⟩:=HC.out _ GA)))
   | (go_at_call 44;(with_reducible refine(N2.out _ ?_).mono ?_);(first | exact(Below.refl _ _).drew | exact GA);rintro e wA ⟨b,rfl,hm,hge,hba⟩;(first | (have GC:=GA.trans (hba.mono GA.size);have hm2:=hm;have hm1:=hmA.below hba) | (have GB:=(Below.refl w1.heap.size w1).drew.trans hba;have hmB:=hm;obtain⟨p0,p1,p2,p3,r0,r1,r2,r3⟩:=HC.out _ GB))))
  all_goals (try go_wp2_with fail)
  all_goals go_meet
  all_goals exact⟨_,_,rfl,rfl,hm1,hm2,GC⟩
 case rest =>
  obtain⟨bo,bn,rfl,rfl,hm1,hm2,hbc⟩:=hcut;obtain⟨q0,q1,q2,q3,q4,q5,q6,q7⟩:=HC.out _ hbc;have G2:=G1.trans (hbc.mono G1.size);have KC:=iH (clone_items (c:=co) (Ho.out.items.below G2) Ho.out.items.small);have K1':=iH (K1.out.below hbc K1.out.lt);have K2':=iH (K2.out.below hbc K2.out.lt);have K3':=iH (K3.out.below hbc K3.out.lt);have HM1:=iH hm1;have HM2:=iH hm2;clear hm1 hm2 hbc p0 p1 p2 p3 r0 r1 r2 r3 N1 N2 HC K1 K2 K3 G1;go_wp2_with fail;refine KC.out.mono ?_;rintro e wB ⟨v,rfl,hoB,hbB⟩;have hs3:w.heap.size+3<=wc.heap.size:=K3'.out.lt;have S0:MgAt w wB ⟨some ao,no,co⟩ ⟨some ax,nx,cx⟩ bo bn lo ln v (mergeTo lo ln 0) :=
   ⟨HM1.out.below hbB,HM2.out.below hbB,K1'.out.below hbB K1'.out.lt,K2'.out.below hbB K2'.out.lt,K3'.out.below hbB K3'.out.lt,by rw[mergeTo_zero,<- Hlo.out];exact⟨hoB.1,hoB.2.imp id fun⟨g,cap,cur,h1,h2,h3⟩=>⟨g,cap,cur,h1,by omega,h3⟩⟩,G2.trans (hbB.mono G2.size)⟩
  obtain⟨gi,cap,rfl⟩:=row_some hoB h1;have HS0:=iH S0;clear S0 hoB hbB KC K1' K2' K3' HM1 HM2 q0 q1 q2 q3 q4 q5 q6 q7 G2 hs3;go_wp2_with fail;go_loopw [35] (fun i wr=>∃k:Nat,k<=no∧i=.int .i64 k∧MgAt w wr ⟨some ao,no,co⟩ ⟨some ax,nx,cx⟩ bo bn lo ln (.slice (some ⟨gi,0,none⟩) no cap) (mergeTo lo ln k)) (fun i _=>no-(intOf i).toNat)
  case atStart=>exact⟨0,Nat.zero_le _,rfl,HS0.out⟩
  case round =>
   obtain⟨k,hk,rfl,hA⟩:=hrel;have HA:=iH hA;clear hA HS0;by_cases hlt:k<no
   ·have hkl:k<lo.length:=by have:=Hlo.out;omega
    have hlen:(mergeTo lo ln k).length=no:=by simp[Hlo.out]
    have hown:=HA.out.own;rw[hlen]at hown;have hit:itAt (mergeTo lo ln k) k=itAt lo k:=by rw[itAt_merge _ _ _ _ hkl,if_neg (by omega)]
    have gc:=fun r (hr:r<7)=>(hown.cellAt (k*7+r) (by omega)).trans (icells_get (mergeTo lo ln k) k r (by rw[hlen];exact hlt) hr)
    rw[hit]at gc;have c0:wr.cell? ⟨gi,k*7,none⟩=some (.string (itAt lo k).name):=gc 0 (by omega);have c1:wr.cell? ⟨gi,k*7+1,none⟩=some (.bool (itAt lo k).object):=gc 1 (by omega);have c2:wr.cell? ⟨gi,k*7+2,none⟩=some (.bool (itAt lo k).mixed):=gc 2 (by omega);have c3:wr.cell? ⟨gi,k*7+3,none⟩=some (.bool (itAt lo k).coin):=gc 3 (by omega);have c4:wr.cell? ⟨gi,k*7+4,none⟩=some (.int .i64 (itAt lo k).wear):=gc 4 (by omega);have c5:wr.cell? ⟨gi,k*7+5,none⟩=some (.int .i64 (itAt lo k).bnd):=gc 5 (by omega);have c6:wr.cell? ⟨gi,k*7+6,none⟩=some (.int .i64 (itAt lo k).level):=gc 6 (by omega);have hgi:gi<wr.heap.size:=(hown.lt gi rfl).2;have hpm:=plain_max (Ho.out.items.name _ (itAt_mem hkl));have HA1:=iH (HA.out.grow ((Below.refl _ wr).alloc (Nat.le_refl _) (.cells #[.string (itAt lo k).name,.bool (itAt lo k).object,.bool (itAt lo k).mixed,.bool (itAt lo k).coin,.int .i64 (itAt lo k).wear,.int .i64 (itAt lo k).bnd,.int .i64 (itAt lo k).level] 89)));have HX:=iH (Bk.new wr 89 [.string (itAt lo k).name,.bool (itAt lo k).object,.bool (itAt lo k).mixed,.bool (itAt lo k).coin,.int .i64 (itAt lo k).wear,.int .i64 (itAt lo k).bnd,.int .i64 (itAt lo k).level]);have lk:=HA1.out.mn.look hpm;have Hsk:=iH (mergeTo_skip lo ln k hkl);have Hse:=iH (mergeTo_set lo ln k hkl);have hke:=HE.out k hlt;have Hmi:Hid (mergeIt ln (itAt lo k)=match idxTo ln nx (itAt lo k).name with | some b=>itAt ln b | none=>itAt lo k):=by show mergeIt ln (itAt lo k)=_;rw[Hln.out];rfl
    have Hke:Hid ((match idxTo ln nx (itAt lo k).name with | some b=>if alikeB (itAt lo k) (itAt ln b)=false then 9 else 0 | none=>0)=(0:Int)):=by show _=_;rw[Hln.out];exact hke
    have Hlen:=iH hlen;have k0:(0:Int)<=(k:Int):=by omega
    have k1:(k:Int)<(no:Int):=by omega
    clear hkl hlen hown hit gc hke HA;generalize itAt lo k=ta at *;cases hb:idxTo ln nx ta.name with
    | none =>
      rw[hb]at lk Hmi;dsimp only at Hmi;have Hs2:=iH (Hsk.out Hmi.out);simp only[Option.isSome_none,Option.getD_none]at lk;obtain⟨n1,o1,m1,c1',w1',b1,l1⟩:=ta;dsimp only at *;clear hb Hke Hse Hsk Hmi;go_wp2_with fail;go_roundw
      case rel=>exact⟨k+1,by omega,by go_num,by rw[<- Hs2.out];exact HA1.out⟩
      case measure=>simp[intOf];omega
    | some b' =>
      have hb1:=(idxTo_lt hb).1;rw[hb]at lk Hmi Hke;dsimp only at Hmi Hke;rw[Hmi.out]at Hse;have hal:alikeB ta (itAt ln b')=true:=by
       cases hq:alikeB ta (itAt ln b')
       ·have:=Hke.out;rw[if_pos hq]at this;exact absurd this (by decide)
       ·rfl
      simp only[Option.isSome_some,Option.getD_some]at lk;have AK0:=fun U:World=>alike_any ta (itAt ln b') U
      rw[hal]at AK0;have AK:=iH AK0;clear hb Hke Hsk Hmi hal AK0;have i2:(0:Int)<=(b':Int):=by omega
      have i3:(b':Int)<(nx:Int):=by omega
      obtain⟨bp,op,hax,hbp,pc0,pc1,pc2,pc3,pc4,pc5,pc6⟩:=(Hn.out.items.below HA1.out.below).at_ b' hb1;cases hax;have p0:=HA1.out.b2.cell 0;generalize itAt ln b'=tb at *;obtain⟨n1,o1,m1,c1',w1',b1,l1⟩:=ta;obtain⟨n2,o2,m2,c2',w2',b2,l2⟩:=tb;dsimp only at *;have x0:=HX.out.cell 0;have x1:=HX.out.cell 1;have x2:=HX.out.cell 2;have x3:=HX.out.cell 3;have x4:=HX.out.cell 4;have x5:=HX.out.cell 5;have x6:=HX.out.cell 6;go_wp2_with fail;generalize wr.alloc (.cells #[.string n1,.bool o1,.bool m1,.bool c1',.int .i64 w1',.int .i64 b1,.int .i64 l1] 89)=W at *;clear c0 c1 c2 c3 c4 c5 c6 hgi lk;generalize wr.heap.size=gx at *;go_still_tail 6,(by kernel_rfl);change wpList _ _ _ _ _ W.drew;go_wp2_with fail;refine(AK.out _).mono ?_;rintro e wA ⟨rfl,hbA⟩;have BA:Below W.heap.size W wA:=(Below.refl W.heap.size W).drew.trans hbA;have HA3:=iH (HA1.out.grow BA);have s0:=HA3.out.b2.cell 0;have t0:wA.cell? ⟨bp,op+b'*7,none⟩=some (.string n2):=(BA.cell (p:=⟨bp,_,none⟩) hbp).trans pc0;have t1:wA.cell? ⟨bp,op+b'*7+1,none⟩=some (.bool o2):=(BA.cell (p:=⟨bp,_,none⟩) hbp).trans pc1;have t2:wA.cell? ⟨bp,op+b'*7+2,none⟩=some (.bool m2):=(BA.cell (p:=⟨bp,_,none⟩) hbp).trans pc2;have t3:wA.cell? ⟨bp,op+b'*7+3,none⟩=some (.bool c2'):=(BA.cell (p:=⟨bp,_,none⟩) hbp).trans pc3;have t4:wA.cell? ⟨bp,op+b'*7+4,none⟩=some (.int .i64 w2'):=(BA.cell (p:=⟨bp,_,none⟩) hbp).trans pc4;have t5:wA.cell? ⟨bp,op+b'*7+5,none⟩=some (.int .i64 b2):=(BA.cell (p:=⟨bp,_,none⟩) hbp).trans pc5;have t6:wA.cell? ⟨bp,op+b'*7+6,none⟩=some (.int .i64 l2):=(BA.cell (p:=⟨bp,_,none⟩) hbp).trans pc6;have ho3:=HA3.out.own;rw[Hlen.out]at ho3;have hg3:gi<wA.heap.size:=(ho3.lt gi rfl).2;have ex:=fun r (hr:r<7)=>(ho3.cellAt (k*7+r) (by omega)).trans (icells_get (mergeTo lo ln k) k r (by rw[Hlen.out];exact hlt) hr)
      generalize itAt (mergeTo lo ln k) k=tq at *;obtain⟨y1,y2,y3,y4,y5,y6,y7⟩:=tq;have e0:wA.cell? ⟨gi,k*7,none⟩=some (.string y1):=ex 0 (by omega);have e1:wA.cell? ⟨gi,k*7+1,none⟩=some (.bool y2):=ex 1 (by omega);have e2:wA.cell? ⟨gi,k*7+2,none⟩=some (.bool y3):=ex 2 (by omega);have e3:wA.cell? ⟨gi,k*7+3,none⟩=some (.bool y4):=ex 3 (by omega);have e4:wA.cell? ⟨gi,k*7+4,none⟩=some (.int .i64 y5):=ex 4 (by omega);have e5:wA.cell? ⟨gi,k*7+5,none⟩=some (.int .i64 y6):=ex 5 (by omega);have e6:wA.cell? ⟨gi,k*7+6,none⟩=some (.int .i64 y7):=ex 6 (by omega);have z0:=ho3.frozenAt (k*7);have z1:=ho3.frozenAt (k*7+1);have z2:=ho3.frozenAt (k*7+2);have z3:=ho3.frozenAt (k*7+3);have z4:=ho3.frozenAt (k*7+4);have z5:=ho3.frozenAt (k*7+5);have z6:=ho3.frozenAt (k*7+6);have hset:MgAt w (((((((wA.setCell ⟨gi,k*7,none⟩ (.string n2)).setCell ⟨gi,k*7+1,none⟩ (.bool o2)).setCell ⟨gi,k*7+2,none⟩ (.bool m2)).setCell ⟨gi,k*7+3,none⟩ (.bool c2')).setCell ⟨gi,k*7+4,none⟩ (.int .i64 w2')).setCell ⟨gi,k*7+5,none⟩ (.int .i64 b2)).setCell ⟨gi,k*7+6,none⟩ (.int .i64 l2)) ⟨some ao,no,co⟩ ⟨some ⟨bp,op,none⟩,nx,cx⟩ bo bn lo ln (.slice (some ⟨gi,0,none⟩) no cap) (mergeTo lo ln (k+1)):=by
       have hx:=HA3.out;rw[<- Hlen.out]at hx;have h2:=hx.setIt k ⟨n2,o2,m2,c2',w2',b2,l2⟩ (by rw[Hlen.out];exact hlt);rw[Hse.out,Hlen.out]at h2;exact h2
      have HF:=iH hset;clear hset ho3 ex pc0 pc1 pc2 pc3 pc4 pc5 pc6 x0 x1 x2 x3 x4 x5 x6 p0 hbA BA HA3 HA1 HX;go_wp2_with fail;go_roundw
      case rel=>exact⟨k+1,by omega,by go_num,HF.out⟩
      case measure=>simp[intOf];omega
   ·obtain rfl:no=k:=by omega
    have hA0:=HA.out;have hmL:mergeTo lo ln no=mergeL lo ln 0:=by simp[mergeL,newTo,Hlo.out]
    rw[hmL]at hA0;have q4:=hA0.b2.k0;have hl1:=hA0.b1.lt;have hl2:=hA0.b2.lt;have hl3:=hA0.b3.lt;have mk:=fun W=>make_ints nx (by omega) W
    have hgw:Below wr.heap.size wr ((wr.alloc (.cells (ints (List.replicate nx 0)).toArray 3)).alloc (.cells #[.slice (some ⟨wr.heap.size,0,none⟩) nx nx] 22)):=((Below.refl _ _).alloc (Nat.le_refl _) _).alloc (by simp) _;have HS:=iH (hA0.grow hgw);have kp:=(Bk.new wr 3 (ints (List.replicate nx 0))).alloc (.cells #[.slice (some ⟨wr.heap.size,0,none⟩) nx nx] 22);have kb:=Bk.new (wr.alloc (.cells (ints (List.replicate nx 0)).toArray 3)) 22 [.slice (some ⟨wr.heap.size,0,none⟩) nx nx];rw[World.size_alloc]at kb;have KP:=iH kp;have KB:=iH kb;have hgp:w.heap.size+3<=wr.heap.size:=by omega
    clear hA0 hmL hgw kp kb HA;go_wp2_with fail;generalize(wr.alloc (.cells (ints (List.replicate nx 0)).toArray 3)).alloc (.cells #[.slice (some ⟨wr.heap.size,0,none⟩) nx nx] 22)=W0 at *;have hgb:w.heap.size+3<=wr.heap.size+1:=by omega
    have hgbp:wr.heap.size+1≠wr.heap.size:=by omega
    generalize wr.heap.size+1=gb at *;generalize wr.heap.size=gp at *;clear q4 mk hl1 hl2 hl3;go_loopw [9,74] (fun x i wz=>∃k:Nat,k<=nx∧i=.int .i64 k∧MgAt w wz ⟨some ao,no,co⟩ ⟨some ax,nx,cx⟩ bo bn lo ln x (mergeL lo ln k)∧Bk wz gb 22 [.slice (some ⟨gp,0,none⟩) nx nx]∧∃pl:List Int,pl.length=nx∧Bk wz gp 3 (ints pl)) (fun _ i _=>nx-(intOf i).toNat)
    case atStart=>exact⟨0,Nat.zero_le _,rfl,HS.out,KB.out,_,by simp,KP.out⟩
    case round =>
     obtain⟨k,hk,rfl,hA,kb,pl,hpl,kp⟩:=hrel;have HA:=iH hA;have KB1:=iH kb;have KP1:=iH kp;have Hpl:=iH hpl;clear hA kb kp hpl HS KB KP;have hll:=mergeL_le lo ln k;rw[<- Hlo.out]at hll;by_cases hlt:k<nx
     ·have hkl:k<ln.length:=by have:=Hln.out;omega
      obtain⟨bp,op,hax,hbp,pc0,pc1,pc2,pc3,pc4,pc5,pc6⟩:=(Hn.out.items.below HA.out.below).at_ k hlt;cases hax;have hpm:=plain_max (Hn.out.items.name _ (itAt_mem hkl));have HA1:=iH (HA.out.grow ((Below.refl _ wr).alloc (Nat.le_refl _) (.cells #[.string (itAt ln k).name,.bool (itAt ln k).object,.bool (itAt ln k).mixed,.bool (itAt ln k).coin,.int .i64 (itAt ln k).wear,.int .i64 (itAt ln k).bnd,.int .i64 (itAt ln k).level] 89)));have lk:=HA1.out.mo.look hpm;have Hso:Hid ((idxTo lo no (itAt ln k).name).isSome=true->mergeL lo ln (k+1)=mergeL lo ln k):=fun h=>mergeL_succ_old (by rw[<- Hlo.out];exact h)
      have Hsn:Hid ((idxTo lo no (itAt ln k).name).isSome=false->mergeL lo ln (k+1)=mergeL lo ln k ++ [itAt ln k]):=fun h=>mergeL_succ_new (by rw[<- Hlo.out];exact h)
      have HX:=iH (Bk.new wr 89 [.string (itAt ln k).name,.bool (itAt ln k).object,.bool (itAt ln k).mixed,.bool (itAt ln k).coin,.int .i64 (itAt ln k).wear,.int .i64 (itAt ln k).bnd,.int .i64 (itAt ln k).level]);have k0:(0:Int)<=(k:Int):=by omega
      have k1:(k:Int)<(nx:Int):=by omega
      obtain⟨Ax9,cx9,hx9,_,_,_⟩:=row_form HA.out.own;subst hx9;clear hkl;generalize itAt ln k=tb at *;obtain⟨n2,o2,m2,c2',w2',b2,l2⟩:=tb;dsimp only at *;have hgpl:gp<wr.heap.size:=KP1.out.lt;have hgbl:gb<wr.heap.size:=KB1.out.lt;have hpc:∀X:World,Bk X gp 3 (ints pl)->X.cell? ⟨gp,k,none⟩=some (.int .i64 (wAt pl k)):=fun X hX=>(hX.cell k).trans (ints_at pl k (by rw[Hpl.out];exact hlt))
      cases hb:idxTo lo no n2 with
      | some a =>
        rw[hb]at lk Hso;simp only[Option.isSome_some,Option.getD_some]at lk;have Hs:=iH (Hso.out rfl);have y0:=KB1.out.k0;have y1:=hpc _ KP1.out;have y2:=KP1.out.frozen k;have hF:=(HA.out.setP KP1.out (by decide) hgp k (.int .i64 (a:Int))).grow ((Below.refl _ _).alloc (Nat.le_refl _) (.cells #[.string n2,.bool o2,.bool m2,.bool c2',.int .i64 w2',.int .i64 b2,.int .i64 l2] 89));have kp3:=(KP1.out.set k (.int .i64 (a:Int))).alloc (.cells #[.string n2,.bool o2,.bool m2,.bool c2',.int .i64 w2',.int .i64 b2,.int .i64 l2] 89);rw[ints_set]at kp3;have kb3:=(KB1.out.far (p:=⟨gp,k,none⟩) hgbp (.int .i64 (a:Int))).alloc (.cells #[.string n2,.bool o2,.bool m2,.bool c2',.int .i64 w2',.int .i64 b2,.int .i64 l2] 89);have HF:=iH hF;have KP3:=iH kp3;have KB3:=iH kb3;clear hF kp3 kb3 hb Hso Hsn hpc;go_wp2_with fail;go_roundw
        case rel=>exact⟨k+1,by omega,by go_num,by rw[Hs.out];exact HF.out,KB3.out,_,by rw[List.length_set];exact Hpl.out,KP3.out⟩
        case measure=>simp[intOf];omega
      | none =>
        rw[hb]at lk Hsn;simp only[Option.isSome_none,Option.getD_none]at lk;have Hs:=iH (Hsn.out rfl);have hown2:=HA1.out.own.alloc (.cells #[.string n2,.bool o2,.bool m2,.bool c2',.int .i64 w2',.int .i64 b2,.int .i64 l2] 89);have HO2:=iH hown2;have kb2:=(KB1.out.alloc (.cells #[.string n2,.bool o2,.bool m2,.bool c2',.int .i64 w2',.int .i64 b2,.int .i64 l2] 89)).alloc (.cells #[.string n2,.bool o2,.bool m2,.bool c2',.int .i64 w2',.int .i64 b2,.int .i64 l2] 89);have kp2:=(KP1.out.alloc (.cells #[.string n2,.bool o2,.bool m2,.bool c2',.int .i64 w2',.int .i64 b2,.int .i64 l2] 89)).alloc (.cells #[.string n2,.bool o2,.bool m2,.bool c2',.int .i64 w2',.int .i64 b2,.int .i64 l2] 89);have HA2:=iH (HA1.out.grow ((Below.refl _ _).alloc (Nat.le_refl _) (.cells #[.string n2,.bool o2,.bool m2,.bool c2',.int .i64 w2',.int .i64 b2,.int .i64 l2] 89)));have KB2:=iH kb2;have KP2:=iH kp2;have C1:=new7a (wr.alloc (.cells #[.string n2,.bool o2,.bool m2,.bool c2',.int .i64 w2',.int .i64 b2,.int .i64 l2] 89)) 89 (.string n2) (.bool o2) (.bool m2) (.bool c2') (.int .i64 w2') (.int .i64 b2) (.int .i64 l2);rw[World.size_alloc]at C1;have HC1:=iH C1;have hbig:w.heap.size+3<=wr.heap.size:=by omega
        clear kb2 kp2 hown2 C1 hb Hso Hsn;go_wp2_with(at_builtin;refine wpList_append_own_at _ rfl _ _ 23 rfl (w.heap.size+3) 89 i0 (.agg #[.string ⟨#[]⟩,.bool false,.bool false,.bool false,.int .i64 0,.int .i64 0,.int .i64 0]) 7 48 Tryz.underlying23 hi hz0 hz1 hz2 rfl (by decide) _ (mergeL lo ln k).length (icells (mergeL lo ln k)) rfl HO2.out ⟨wr.heap.size+1,0,none⟩ 1 1 [.string n2,.bool o2,.bool m2,.bool c2',.int .i64 w2',.int .i64 b2,.int .i64 l2] rfl rfl HC1.out (icells_one [⟨n2,o2,m2,c2',w2',b2,l2⟩]) ?c3 ?c4 ?c5 ?_)
        case c3=>unfold maxLen;omega
        case c4=>omega
        case c5=>simp;omega
        intro v' w3 hown' hgrow _ _;have h1:=row_ne HO2.out KB2.out (by decide);have h2:=row_ne HO2.out KP2.out (by decide);have hT:MgAt w w3 ⟨some ao,no,co⟩ ⟨some ⟨bp,op,none⟩,nx,cx⟩ bo bn lo ln v' (mergeL lo ln (k+1)):=by
         refine HA2.out.turn hgrow ?_;rw[Hs.out,icells_snoc,List.length_append];exact hown'
        have kb4:=KB2.out.grown hgrow (Ne.symm h1);have kp4:=KP2.out.grown hgrow (Ne.symm h2);have y0:=kb4.k0;have y1:=hpc _ kp4;have y2:=kp4.frozen k;have y3:=kp4.lt;have hF:=hT.setP kp4 (by decide) hgp k (.int .i64 ((mergeL lo ln k).length:Int));have kp5:=kp4.set k (.int .i64 ((mergeL lo ln k).length:Int));rw[ints_set]at kp5;have kb5:=kb4.far (p:=⟨gp,k,none⟩) hgbp (.int .i64 ((mergeL lo ln k).length:Int));have HF:=iH hF;have KP3:=iH kp5;have KB3:=iH kb5;clear hF kp5 kb5 hT kb4 kp4 h1 h2 hown' hgrow hpc;go_wp2_with fail;go_roundw
        case rel=>exact⟨k+1,by omega,by go_num,HF.out,KB3.out,_,by rw[List.length_set];exact Hpl.out,KP3.out⟩
        case measure=>simp[intOf];omega
     ·obtain rfl:nx=k:=by omega
      obtain⟨Ax9,cx9,hx9,_,_,_⟩:=row_form HA.out.own;subst hx9;have KR:=iH (fun F p=>rewrite_items cx (Hn.out.items.below HA.out.below) Ax9 (mergeL lo ln nx).length cx9 F p);have q0:=HA.out.b2.k0;have q1:wr.cell? ⟨w.heap.size+1,1,none⟩=some nilS:=HA.out.b2.cell 1;have q2:wr.cell? ⟨w.heap.size+1,2,none⟩=some nilS:=HA.out.b2.cell 2;have q3:wr.cell? ⟨w.heap.size+1,3,none⟩=some nilS:=HA.out.b2.cell 3;go_wp2_with fail;refine(KR.out _ _).mono ?_;rintro e w3 ⟨rfl,hb3⟩;have k3:=HA.out.b3.below hb3 HA.out.b3.lt;have z0:w3.cell? ⟨w.heap.size+1+1,0,none⟩=some nilS:=k3.cell 0;have z1:w3.cell? ⟨w.heap.size+1+1,1,none⟩=some nilS:=k3.cell 1;have z2:w3.cell? ⟨w.heap.size+1+1,2,none⟩=some nilS:=k3.cell 2;have z3:w3.cell? ⟨w.heap.size+1+1,3,none⟩=some nilS:=k3.cell 3;have f0:w3.frozen? ⟨w.heap.size+1+1,0,none⟩=false:=k3.frozen 0;have f1:w3.frozen? ⟨w.heap.size+1+1,1,none⟩=false:=k3.frozen 1;have f2:w3.frozen? ⟨w.heap.size+1+1,2,none⟩=false:=k3.frozen 2;have f3:w3.frozen? ⟨w.heap.size+1+1,3,none⟩=false:=k3.frozen 3;have zl:w.heap.size+1+1<w3.heap.size:=k3.lt;have HF:=iH (merge_end (u0:=.slice Ax9 (mergeL lo ln nx).length cx9) (u1:=nilS) (u2:=nilS) (u3:=nilS) HA.out rfl hb3);have k9:=(((k3.set 0 (.slice Ax9 (mergeL lo ln nx).length cx9)).set 1 nilS).set 2 nilS).set 3 nilS;have K9:=iH k9;clear k3 k9 hb3;go_wp2_with fail;have r0:=K9.out.cell 0;have r1:=K9.out.cell 1;have r2:=K9.out.cell 2;have r3:=K9.out.cell 3;exact bodyPost_ret (v:=.tuple #[.agg #[.slice Ax9 (mergeL lo ln nx).length cx9,nilS,nilS,nilS],.int .i64 0]) (by simp[results,Tryz.results18,go_sem,r0,r1,r2,r3]) rfl HF.out
end
theorem gcd_rem {a b:Int} (ha:0<=a) (hb:0<b):(Int.gcd b (a % b):Int)=Int.gcd a b:=by
 have h:Int.gcd b (a % b)=Int.gcd a b:=by
  obtain⟨n,rfl⟩:=Int.eq_ofNat_of_zero_le ha;obtain⟨m,rfl⟩:=Int.eq_ofNat_of_zero_le (Int.le_of_lt hb);show Nat.gcd m (n % m)=Nat.gcd n m;rw[Nat.gcd_comm n m,Nat.gcd_rec m n,Nat.gcd_comm]
 rw[h]
theorem divisor_any (a b:Int) (w:World) (ha:1<=a) (hb:1<=b) (ha2:a<=1152921504606846976) (hb2:b<=1152921504606846976) :
 Calls Tryz.prog 62 #[.int .i64 a,.int .i64 b] w fun e w'=>e=.returned (.int .i64 (Int.gcd a b:Int))∧Below w.heap.size w w':=by
 obtain⟨G,hG⟩:∃G:Int,G=(Int.gcd a b:Int):=⟨_,rfl⟩;rw[<- hG];have HS:Hid (∃x y:Int,Value.int .i64 a=.int .i64 x∧Value.int .i64 b=.int .i64 y∧1<=x∧0<=y∧x<=1152921504606846976∧y<=1152921504606846976∧(Int.gcd x y:Int)=G):=⟨a,b,rfl,rfl,ha,by omega,ha2,hb2,hG.symm⟩;clear hG ha hb ha2 hb2;go_enter Tryz.func62,Tryz.ntmps62;go_wp2_with fail;go_loopw [0,1] (fun u v wr=>(∃x y:Int,u=.int .i64 x∧v=.int .i64 y∧1<=x∧0<=y∧x<=1152921504606846976∧y<=1152921504606846976∧(Int.gcd x y:Int)=G)∧Below w.heap.size w wr) (fun _ v _=>(intOf v).toNat)
 case atStart=>exact⟨HS.out,Below.refl _ _⟩
 case round =>
  obtain⟨⟨x,y,rfl,rfl,x1,y0,x2,y2,hg⟩,hb⟩:=hrel;clear HS;have HB:=iH hb;have HG:=iH hg;clear hb hg;by_cases hy:y=0
  ·subst hy;have hx:G=x:=by rw[<- HG.out];simp;omega
   have HX:=iH hx;clear hx;go_wp2_with fail;go_ret;exact⟨by rw[HX.out];rfl,HB.out⟩
  ·have e1:(y != 0)=true:=by simpa using hy
   have e2:(y == 0)=false:=by simpa using hy
   have htm:x.tmod y=x % y:=Int.tmod_eq_emod_of_nonneg (by omega);have m0:=Int.emod_nonneg x hy;have m1:=Int.emod_lt_of_pos x (show 0<y by omega);have HG2:=iH ((gcd_rem (a:=x) (b:=y) (by omega) (by omega)).trans HG.out);generalize x % y=r at *;have e3:IntKind.i64.wrap r=r:=IntWalk.i64_in _ (by omega);go_wp2_with fail;go_quiet (fail);go_wp2_with fail;go_roundw
   case rel=>exact⟨⟨y,r,rfl,rfl,by omega,m0,y2,by omega,HG2.out⟩,bel_drewN HB.out _⟩
   case measure=>simp[intOf];omega
theorem rdivisor_any (a b:Int) (w:World) (ha:1<=a) (hb:1<=b) (ha2:a<=1152921504606846976) (hb2:b<=1152921504606846976) :
 Calls Tryz.prog 63 #[.int .i64 a,.int .i64 b] w fun e w'=>e=.returned (.int .i64 (Int.gcd a b:Int))∧Below w.heap.size w w':=by
 obtain⟨G,hG⟩:∃G:Int,G=(Int.gcd a b:Int):=⟨_,rfl⟩;rw[<- hG];have HS:Hid (∃x y:Int,Value.int .i64 a=.int .i64 x∧Value.int .i64 b=.int .i64 y∧1<=x∧1<=y∧x<=1152921504606846976∧y<=1152921504606846976∧(Int.gcd x y:Int)=G):=⟨a,b,rfl,rfl,ha,hb,ha2,hb2,hG.symm⟩;clear hG ha hb ha2 hb2;go_enter Tryz.func63,Tryz.ntmps63;go_wp2_with fail;go_loopw [0,1] (fun u v wr=>(∃x y:Int,u=.int .i64 x∧v=.int .i64 y∧1<=x∧1<=y∧x<=1152921504606846976∧y<=1152921504606846976∧(Int.gcd x y:Int)=G)∧Below w.heap.size w wr) (fun _ v _=>(intOf v).toNat)
 case atStart=>exact⟨HS.out,Below.refl _ _⟩
 case round =>
  obtain⟨⟨x,y,rfl,rfl,x1,y1,x2,y2,hg⟩,hb⟩:=hrel;clear HS;have HB:=iH hb;have HG:=iH hg;clear hb hg;have e2:(y == 0)=false:=by simp;omega
  have e4:¬ y=0:=by omega
  have htm:x.tmod y=x % y:=Int.tmod_eq_emod_of_nonneg (by omega);have m0:=Int.emod_nonneg x e4;have m1:=Int.emod_lt_of_pos x (show 0<y by omega);have HG2:=iH ((gcd_rem (a:=x) (b:=y) (by omega) (by omega)).trans HG.out);generalize x % y=r at *;have e3:IntKind.i64.wrap r=r:=IntWalk.i64_in _ (by omega);by_cases hr:r=0
  ·have hx:G=y:=by rw[<- HG2.out,hr];simp;omega
   have HX:=iH hx;have e5:(r != 0)=false:=by simpa using hr
   clear hx hr;go_wp2_with fail;go_ret;exact⟨by rw[HX.out];rfl,HB.out⟩
  ·have e5:(r != 0)=true:=by simpa using hr
   go_wp2_with fail;go_roundw
   case rel=>exact⟨⟨y,r,rfl,rfl,y1,by omega,y2,by omega,HG2.out⟩,HB.out⟩
   case measure=>simp[intOf];omega
section
def thenK (ts us:List Tr) (n k:Nat):List Tr:=(List.range n).map fun i=>if i<k then thenAt ts us i else(0,0,0)
@[simp] theorem thenK_length (ts us : List Tr) (n k : Nat) : (thenK ts us n k).length = n := by simp [thenK]
theorem thenK_zero (ts us:List Tr) (n:Nat):thenK ts us n 0=List.replicate n (0,0,0):=by simp[thenK,List.map_const']
theorem thenK_all (ts us:List Tr) (n:Nat):thenK ts us n n=thenN ts us n:=by
 unfold thenK thenN;apply List.map_congr_left;intro i hi;rw[if_pos (by simpa using hi)]
theorem thenK_step (ts us:List Tr) (n k:Nat) (hk:k<n):(thenK ts us n k).set k (thenAt ts us k)=thenK ts us n (k+1):=by
 apply List.ext_getElem?;intro i;by_cases e:k=i
 ·subst e;rw[List.getElem?_set_self (by simpa using hk)];simp[thenK,hk]
 ·rw[List.getElem?_set_ne e];by_cases hi:i<n
  ·simp only[thenK,List.getElem?_map,List.getElem?_range hi,Option.map_some,Option.some.injEq];by_cases h2:i<k
   ·rw[if_pos h2,if_pos (by omega)]
   ·rw[if_neg h2,if_neg (by omega)]
  ·rw[List.getElem?_eq_none (by simp;omega),List.getElem?_eq_none (by simp;omega)]
theorem thenK_step2 (ts us:List Tr) (n k:Nat) (t:Tr) (hk:k<n):((thenK ts us n k).set k t).set k (thenAt ts us k)=thenK ts us n (k+1):=by
 rw[List.set_set,thenK_step _ _ _ _ hk]
structure ThenAt (w0 W : World) (g : Nat) (L : List Tr) : Prop where
 bk:Bk W g 64 (tcells L)
 ge:w0.heap.size<=g
 below:Below w0.heap.size w0 W
section
variable {w0 W W' : World} {g : Nat} {L : List Tr}
theorem ThenAt.drewN (h:ThenAt w0 W g L) (n:Nat):ThenAt w0 (W.drewN n) g L:=⟨h.bk,h.ge,bel_drewN h.below n⟩
theorem ThenAt.alloc (h:ThenAt w0 W g L) (o:Obj):ThenAt w0 (W.alloc o) g L:=⟨h.bk.alloc o,h.ge,h.below.alloc h.below.size o⟩
theorem ThenAt.grow (h:ThenAt w0 W g L) (hb:Below W.heap.size W W'):ThenAt w0 W' g L:=⟨h.bk.below hb h.bk.lt,h.ge,h.below.trans (hb.mono h.below.size)⟩
theorem ThenAt.set (h:ThenAt w0 W g L) (a:Nat) (x y z:Int) (ha:a<L.length) :
 ThenAt w0 (((W.setCell ⟨g,a*3,none⟩ (.int .i64 x)).setCell ⟨g,a*3+1,none⟩ (.int .i64 y)).setCell ⟨g,a*3+2,none⟩ (.int .i64 z)) g (L.set a (x,y,z)) :=
 ⟨by rw[tcells_set _ _ _ ha];exact((h.bk.set _ _).set _ _).set _ _,h.ge,((h.below.setCell h.ge _).setCell h.ge _).setCell h.ge _⟩
theorem ThenAt.cells (h:ThenAt w0 W g L) (a:Nat) (ha:a<L.length):W.cell? ⟨g,a*3,none⟩=some (.int .i64 (itemAt L a))∧W.cell? ⟨g,a*3+1,none⟩=some (.int .i64 (numAt L a))∧W.cell? ⟨g,a*3+2,none⟩=some (.int .i64 (denAt L a)):=by
 obtain⟨t1,t2,t3⟩:=tcells_at L a ha;exact⟨(h.bk.cell _).trans t1,(h.bk.cell _).trans t2,(h.bk.cell _).trans t3⟩
end
theorem then_bad {w:World} {A A':Option Addr} {m m':Nat} (c c':Nat) {ts us:List Tr} (ht:TosV w A m ts) (hu:TosV w A' m' us) (hm:m<=1000000) (hm':m'<=1000000) (hbad:thenArg ts us=false) :
 Calls Tryz.prog 30 #[.slice A m c,.slice A' m' c'] w (ThenPost w ts us):=by
 have HE:=iH (thenE_bad hbad);have K1:=valid_any c m' ht hm (by omega) (by omega);rw[hu.len]at K1;have K2:Hid (∀W,Below w.heap.size w W->Calls Tryz.prog 57 #[.slice A' m' c',.int .i64 64] W fun e w'=>e=.returned (.bool (validB us 64))∧Below W.heap.size W w'):=fun W hW =>
  valid_any c' 64 (hu.below hW) hm' (by omega) (by omega)
 cases hv:validB ts (us.length:Int)
 ·rw[hv,<- hu.len]at K1;have HK1:=iH K1;clear hbad hv ht hu K1 K2;go_enter Tryz.func30,Tryz.ntmps30;go_wp2_with fail;refine HK1.out.mono ?_;rintro e w1 ⟨rfl,hb1⟩;go_wp2;go_ret2;exact thenPost_err HE.out (by omega) hb1
 ·have hv2:validB us 64=false:=by
   cases h2:validB us 64
   ·rfl
   ·simp[thenArg,hv,h2]at hbad
  rw[hv,<- hu.len]at K1;rw[hv2]at K2;have HK1:=iH K1;clear hbad hv hv2 ht hu K1;go_enter Tryz.func30,Tryz.ntmps30;go_wp2_with fail;refine HK1.out.mono ?_;rintro e w1 ⟨rfl,hb1⟩;go_wp2_with fail;refine(K2.out _ hb1).mono ?_;rintro e w2 ⟨rfl,hb2⟩;go_wp2;go_ret2;exact thenPost_err HE.out (by omega) (hb1.trans (hb2.mono hb1.size))
theorem then_good {w:World} {A A':Option Addr} {m m':Nat} (c c':Nat) {ts us:List Tr} (ht:TosV w A m ts) (hu:TosV w A' m' us) (hm:m<=1000000) (hm':m'<=1000000) (hgood:thenArg ts us=true) :
 Calls Tryz.prog 30 #[.slice A m c,.slice A' m' c'] w (ThenPost w ts us):=by
 have hg:=hgood;simp only[thenArg,Bool.and_eq_true]at hg;have K1:=valid_any c m' ht hm (by omega) (by omega);rw[hu.len,hg.1,<- hu.len]at K1;have K2:Hid (∀W,Below w.heap.size w W->Calls Tryz.prog 57 #[.slice A' m' c',.int .i64 64] W fun e w'=>e=.returned (.bool true)∧Below W.heap.size W w'):=fun W hW=>by
  have:=valid_any c' 64 (hu.below hW) hm' (by omega) (by omega);rw[hg.2]at this;exact this
 have HK1:=iH K1;have HT:=iH ht;have HU:=iH hu;have Hlt:=iH ht.len;have Hlu:=iH hu.len;have HG:=iH hgood;clear hgood hg ht hu K1;have mk:=fun W=>make_tos m hm W
 go_enter Tryz.func30,Tryz.ntmps30;go_wp2_with fail;refine HK1.out.mono ?_;rintro e w1 ⟨rfl,hb1⟩;go_wp2_with fail;refine(K2.out _ hb1).mono ?_;rintro e w2 ⟨rfl,hb2⟩;have hb:Below w.heap.size w w2:=hb1.trans (hb2.mono hb1.size);clear hb1 hb2 K2 HK1;go_wp2_with fail;have hC0:ThenAt w (w2.alloc (.cells (tcells (List.replicate m (0,0,0))).toArray 64)) w2.heap.size (List.replicate m (0,0,0)):=⟨Bk.new w2 64 _,hb.size,hb.alloc hb.size _⟩;have HC0:=iH hC0;clear hC0 mk hb;generalize w2.heap.size=g at *;generalize w2.alloc (.cells (tcells (List.replicate m (0,0,0))).toArray 64)=W0 at *;go_loopw [28] (fun i wr=>∃k:Nat,k<=m∧i=.int .i64 k∧ThenAt w wr g (thenK ts us m k)∧fatTo ts us k=false) (fun i _=>m-(intOf i).toNat)
 case atStart=>exact⟨0,Nat.zero_le _,rfl,by rw[thenK_zero];exact HC0.out,rfl⟩
 case round =>
  obtain⟨k,hk,rfl,hC,hF⟩:=hrel;clear HC0;have HC:=iH hC;have HF:=iH hF;clear hC hF;by_cases hlt:k<m
  ·have hkl:k<ts.length:=by have:=Hlt.out;omega
   have hB:=HC.out.below;obtain⟨b,off,rfl,hbb,hc⟩:=(HT.out.below hB).row.at_ 0 (by rw[tcells_length];omega);obtain⟨t1,t2,t3⟩:=tcells_at ts k hkl;have c1:=hc _ _ t1;have c2:=hc _ _ t2;have c3:=hc _ _ t3;simp only[<- Nat.add_assoc]at c2 c3;obtain⟨n1,n2,n3⟩:=HC.out.cells k (by simpa using hlt);have f1:=HC.out.bk.frozen (k*3);have f2:=HC.out.bk.frozen (k*3+1);have f3:=HC.out.bk.frozen (k*3+2);have lg:=HC.out.bk.lt;have hgb:g≠wr.heap.size:=by omega
   have HS1:=iH (thenK_step ts us m k hlt);have HS2:=iH (thenK_step2 ts us m k (-1,0,0) hlt);have HA:=iH ((HC.out.set k (-1) 0 0 (by simpa using hlt)).alloc (.cells #[.int .i64 (itemAt ts k),.int .i64 (numAt ts k),.int .i64 (denAt ts k)] 64));clear hc t1 t2 t3;by_cases hneg:itemAt ts k<0
   ·have hl:liveB ts us k=false:=by simp[liveB];omega
    have ha:thenAt ts us k=(-1,0,0):=by simp[thenAt,hl]
    have HF2:Hid (fatTo ts us (k+1)=false):=by show fatTo ts us (k+1)=false;simp[fatTo,HF.out,fatB,hl]
    rw[ha]at HS1;rw[HS1.out]at HA;clear hl ha HS1 HS2 hkl hB HC HF;generalize itemAt ts k=i at *;generalize numAt ts k=p at *;generalize denAt ts k=q at *;generalize itemAt (thenK ts us m k) k=z1 at *;generalize numAt (thenK ts us m k) k=z2 at *;generalize denAt (thenK ts us m k) k=z3 at *;go_wp2_with fail;go_roundw
    case rel=>exact⟨k+1,by omega,by go_num,HA.out,HF2.out⟩
    case measure=>simp[intOf];omega
   ·obtain⟨hmid,hit,hlive⟩:=live_facts HG.out hkl (show 0<=itemAt ts k by omega);obtain⟨b',off',rfl,hbb',hc'⟩:=(HU.out.below hB).row.at_ 0 (by rw[tcells_length];omega);obtain⟨t1,t2,t3⟩:=tcells_at us (midAt ts k) hmid;have d1:=hc' _ _ t1;have d2:=hc' _ _ t2;have d3:=hc' _ _ t3;simp only[<- Nat.add_assoc]at d2 d3;have hmm:midAt ts k<m':=by have:=Hlu.out;omega
    rw[hit]at c1 HA;clear hc' t1 t2 t3;have hbg:b'≠g:=by
     intro e;have h1:=HC.out.ge;have h2:b'<w.heap.size:=by
      obtain⟨b2,off2,e2,hb2,_⟩:=HU.out.row.at_ 0 (by rw[tcells_length];omega);cases e2;exact hb2
     omega
    by_cases hneg2:itemAt us (midAt ts k)<0
    ·have hl:liveB ts us k=false:=by simp[liveB];omega
     have ha:thenAt ts us k=(-1,0,0):=by simp[thenAt,hl]
     have HF2:Hid (fatTo ts us (k+1)=false):=by show fatTo ts us (k+1)=false;simp[fatTo,HF.out,fatB,hl]
     rw[ha]at HS1;rw[HS1.out]at HA;clear hl ha HS1 HS2 hkl hB HC HF hneg hit hlive hmid;generalize midAt ts k=j at *;generalize numAt ts k=p at *;generalize denAt ts k=q at *;generalize itemAt us j=i' at *;generalize numAt us j=p' at *;generalize denAt us j=q' at *;generalize itemAt (thenK ts us m k) k=z1 at *;generalize numAt (thenK ts us m k) k=z2 at *;generalize denAt (thenK ts us m k) k=z3 at *;have j0:(0:Int)<=(j:Int):=by omega
     have j1:(j:Int)<(m':Int):=by omega
     have j2:¬ (j:Int)<0:=by omega
     go_wp2_with fail;go_roundw
     case rel=>exact⟨k+1,by omega,by go_num,HA.out,HF2.out⟩
     case measure=>simp[intOf];omega
    ·rcases hlive with hl | ⟨i0,i1,p0,p1,q0,q1,r0,r1,s0,s1⟩
     ·omega
     have hl:liveB ts us k=true:=by simp[liveB];omega
     have hP:=prod_bd2 p0 p1 r0 r1;have hQ:=prod_bd2 q0 q1 s0 s1;have hgd:=gcd_bd (q:=denAt ts k*denAt us (midAt ts k)) hP.1;have hz1:=quo_bd hP.1 hgd.1 (Int.gcd_dvd_left ..);have hz2:=quo_bd hQ.1 hgd.1 (Int.gcd_dvd_right ..);have ha:thenAt ts us k=(itemAt us (midAt ts k),pAt ts us k / gAt ts us k,qAt ts us k / gAt ts us k):=by simp[thenAt,hl]
     have hf:fatTo ts us (k+1)=(decide (1048576<pAt ts us k / gAt ts us k) || decide (1048576<qAt ts us k / gAt ts us k)):=by simp[fatTo,HF.out,fatB,hl]
     have hE5:fatTo ts us (k+1)=true->thenE ts us=5:=fun h=>thenE_fat HG.out (fatTo_stays h _ (by omega))
     have ep:pAt ts us k=numAt ts k*numAt us (midAt ts k):=rfl;have eq:qAt ts us k=denAt ts k*denAt us (midAt ts k):=rfl;have eg:gAt ts us k=(Int.gcd (numAt ts k*numAt us (midAt ts k)) (denAt ts k*denAt us (midAt ts k)):Int):=rfl;rw[ep,eq,eg]at ha hf;rw[ha]at HS2;have HFt:=iH hf;have HE5:=iH hE5;have K62:=iH (fun W=>divisor_any (numAt ts k*numAt us (midAt ts k)) (denAt ts k*denAt us (midAt ts k)) W hP.1 hQ.1 (by omega) (by omega));clear hl ha hf hE5 ep eq eg HS1 HF hkl hB hneg hit hmid HA;have HW:=iH (HC.out.set k (-1) 0 0 (by simpa using hlt));generalize midAt ts k=j at *;generalize numAt ts k=p at *;generalize denAt ts k=q at *;generalize itemAt us j=i' at *;generalize numAt us j=p' at *;generalize denAt us j=q' at *;generalize itemAt (thenK ts us m k) k=y1 at *;generalize numAt (thenK ts us m k) k=y2 at *;generalize denAt (thenK ts us m k) k=y3 at *;have htd1:(p*p').tdiv (Int.gcd (p*p') (q*q'):Int)=p*p' / (Int.gcd (p*p') (q*q'):Int):=Int.tdiv_eq_ediv_of_nonneg (by omega);have htd2:(q*q').tdiv (Int.gcd (p*p') (q*q'):Int)=q*q' / (Int.gcd (p*p') (q*q'):Int):=Int.tdiv_eq_ediv_of_nonneg (by omega);have g4:IntKind.i64.wrap (p*p')=p*p':=IntWalk.i64_in _ (by omega);have g5:IntKind.i64.wrap (q*q')=q*q':=IntWalk.i64_in _ (by omega);generalize(Int.gcd (p*p') (q*q'):Int)=G at *;generalize hP1:p*p'=P at *;generalize hQ1:q*q'=Q at *;generalize P / G=z1 at *;generalize Q / G=z2 at *;have g0:(G == 0)=false:=by simp;omega
     have g1:¬ G=0:=by omega
     have g6:IntKind.i64.wrap z1=z1:=IntWalk.i64_in _ (by omega);have g7:IntKind.i64.wrap z2=z2:=IntWalk.i64_in _ (by omega);have j0:(0:Int)<=(j:Int):=by omega
     have j1:(j:Int)<(m':Int):=by omega
     have j2:¬ (j:Int)<0:=by omega
     have HG2:=iH ((HW.out.alloc (.cells #[.int .i64 (j:Int),.int .i64 p,.int .i64 q] 64)).alloc (.cells #[.int .i64 i',.int .i64 p',.int .i64 q'] 64));have HX:=iH ((Bk.new (((wr.setCell ⟨g,k*3,none⟩ (.int .i64 (-1))).setCell ⟨g,k*3+1,none⟩ (.int .i64 0)).setCell ⟨g,k*3+2,none⟩ (.int .i64 0)) 64 [.int .i64 (j:Int),.int .i64 p,.int .i64 q]).alloc (.cells #[.int .i64 i',.int .i64 p',.int .i64 q'] 64));have HY:=iH (Bk.new ((((wr.setCell ⟨g,k*3,none⟩ (.int .i64 (-1))).setCell ⟨g,k*3+1,none⟩ (.int .i64 0)).setCell ⟨g,k*3+2,none⟩ (.int .i64 0)).alloc (.cells #[.int .i64 (j:Int),.int .i64 p,.int .i64 q] 64)) 64 [.int .i64 i',.int .i64 p',.int .i64 q']);have hs1:(((wr.setCell ⟨g,k*3,none⟩ (.int .i64 (-1))).setCell ⟨g,k*3+1,none⟩ (.int .i64 0)).setCell ⟨g,k*3+2,none⟩ (.int .i64 0)).heap.size=wr.heap.size:=by simp[World.setCell]
     rw[hs1]at HX;rw[World.size_alloc,hs1]at HY;clear hs1 HW HC;go_wp2_with fail;clear c1 c2 c3 d1 d2 d3 n1 n2 n3 f1 f2 f3;generalize(((((wr.setCell ⟨g,k*3,none⟩ (.int .i64 (-1))).setCell ⟨g,k*3+1,none⟩ (.int .i64 0)).setCell ⟨g,k*3+2,none⟩ (.int .i64 0)).alloc (.cells #[.int .i64 (j:Int),.int .i64 p,.int .i64 q] 64)).alloc (.cells #[.int .i64 i',.int .i64 p',.int .i64 q'] 64))=V at *;generalize wr.heap.size=gx at *;have x1:=HX.out.k1;have x2:=HX.out.k2;have e1:=HY.out.k1;have e2:=HY.out.k2;go_quiet (fail);have HG3:=iH (HG2.out.drewN nq);have HY3:=iH (HY.out.drewN nq);clear x1 x2 e1 e2 HG2 HX HY hP1 hQ1 g4 g5;generalize V.drewN nq=V2 at *;go_wp2_with fail;refine(K62.out _).mono ?_;rintro e V3 ⟨rfl,hb3⟩;have HG4:=iH (HG3.out.grow hb3);have HY4:=iH (HY3.out.below hb3 HY3.out.lt);clear HG3 HY3 hb3 K62;go_wp2_with fail;go_quiet (fail);have HG5:=iH (HG4.out.drewN nq);have HY5:=iH (HY4.out.drewN nq);clear HG4 HY4 htd1 htd2 g0 g1 g6 g7;generalize V3.drewN nq=V4 at *;by_cases hb1:1048576<z1
     ·have HE:=iH (HE5.out (by rw[HFt.out];simp[hb1]));go_wp2_with fail;go_ret2;exact thenPost_err HE.out (by omega) HG5.out.below
     by_cases hb2:1048576<z2
     ·have HE:=iH (HE5.out (by rw[HFt.out];simp[hb2]));go_wp2_with fail;go_ret2;exact thenPost_err HE.out (by omega) HG5.out.below
     have HF2:Hid (fatTo ts us (k+1)=false):=by show fatTo ts us (k+1)=false;rw[HFt.out];simp;omega
     have hkL:k<((thenK ts us m k).set k (-1,0,0)).length:=by simpa using hlt
     obtain⟨n1,n2,n3⟩:=HG5.out.cells k hkL;have f1:=HG5.out.bk.frozen (k*3);have f2:=HG5.out.bk.frozen (k*3+1);have f3:=HG5.out.bk.frozen (k*3+2);have lg2:=HG5.out.bk.lt;have y0:=HY5.out.k0;have HG6:=iH (HG5.out.set k i' z1 z2 hkL);rw[HS2.out]at HG6;clear HG5 hkL;generalize itemAt ((thenK ts us m k).set k (-1,0,0)) k=y1' at *;generalize numAt ((thenK ts us m k).set k (-1,0,0)) k=y2' at *;generalize denAt ((thenK ts us m k).set k (-1,0,0)) k=y3' at *;go_wp2_with fail;go_roundw
     case rel=>exact⟨k+1,by omega,by go_num,HG6.out,HF2.out⟩
     case measure=>simp[intOf];omega
  ·have hkm:k=m:=by omega
   have hkl:k=ts.length:=by have:=Hlt.out;omega
   subst hkm;have hC:=HC.out;rw[thenK_all]at hC;have HP:=iH (thenPost_ok (c:=k) HG.out (by rw[<- hkl];exact HF.out) hkl (.of_bk hC.bk hC.ge (.inl rfl)) hC.below);clear hC hkl;go_wp2_with fail;go_ret2;exact HP.out
end
theorem factor_any (w:World) (x:Int):Calls Tryz.prog 48 #[.int .i64 x] w fun e w'=>e=.returned (.bool (decide (1<=x∧x<=1048576)))∧w=w':=by
 by_cases h1:1<=x
 ·by_cases h2:x<=1048576
  ·have E:Hid (decide (1<=x∧x<=1048576)=true):=decide_eq_true ⟨h1,h2⟩;go_enter Tryz.func48,Tryz.ntmps48;go_wp2;go_ret;exact⟨by first | rfl | (rw[E.out];rfl),rfl⟩
  ·have E:Hid (decide (1<=x∧x<=1048576)=false):=decide_eq_false (by omega);have e1:decide (1<=x)=true:=by simp[h1]
   have e2:decide (x<=1048576)=false:=by simp[h2]
   go_enter Tryz.func48,Tryz.ntmps48;go_wp2;go_ret;exact⟨by first | rfl | (rw[E.out];rfl),rfl⟩
 ·have E:Hid (decide (1<=x∧x<=1048576)=false):=decide_eq_false (by omega);have e1:decide (1<=x)=false:=by simp[h1]
  go_enter Tryz.func48,Tryz.ntmps48;go_wp2;go_ret;exact⟨by first | rfl | (rw[E.out];rfl),rfl⟩
theorem okT_rsplit (n i p q:Int) :
 (okT n i p q=true∧(i == -1)=true∧(p == 0)=true∧(q == 0)=true∧decide (0<=i)=false) ∨
 (okT n i p q=false∧(i == -1)=true∧(p == 0)=true∧(q == 0)=false∧decide (0<=i)=false) ∨
 (okT n i p q=false∧(i == -1)=true∧(p == 0)=false∧decide (0<=i)=false) ∨
 (okT n i p q=false∧(i == -1)=false∧decide (0<=i)=false) ∨
 (okT n i p q=false∧(i == -1)=false∧decide (0<=i)=true∧decide (i<n)=false) ∨
 (okT n i p q=false∧(i == -1)=false∧decide (0<=i)=true∧decide (i<n)=true∧decide (1<=p∧p<=1048576)=false) ∨
 (okT n i p q=false∧(i == -1)=false∧decide (0<=i)=true∧decide (i<n)=true∧decide (1<=p∧p<=1048576)=true∧decide (1<=q∧q<=1048576)=false) ∨
 (okT n i p q=true∧(i == -1)=false∧decide (0<=i)=true∧decide (i<n)=true∧decide (1<=p∧p<=1048576)=true∧decide (1<=q∧q<=1048576)=true):=by
 have F:¬ ((i = -1∧p=0∧q=0)∨(0<=i∧i<n∧1<=p∧p<=1048576∧1<=q∧q<=1048576))->okT n i p q=false:=fun h=>decide_eq_false h
 have T:((i = -1∧p=0∧q=0)∨(0<=i∧i<n∧1<=p∧p<=1048576∧1<=q∧q<=1048576))->okT n i p q=true:=fun h=>decide_eq_true h
 by_cases a:i = -1
 ·have a':(i == -1)=true:=by simpa using a
  have z:decide (0<=i)=false:=decide_eq_false (by omega);by_cases b:p=0
  ·have b':(p == 0)=true:=by simpa using b
   by_cases c:q=0
   ·exact .inl ⟨T (by omega),a',b',by simpa using c,z⟩
   ·exact .inr (.inl ⟨F (by omega),a',b',by simpa using c,z⟩)
  ·exact .inr (.inr (.inl ⟨F (by omega),a',by simpa using b,z⟩))
 have a':(i == -1)=false:=by simpa using a
 by_cases b:0<=i
 ·have b':decide (0<=i)=true:=decide_eq_true b;by_cases c:i<n
  ·have c':decide (i<n)=true:=decide_eq_true c;by_cases d:1<=p∧p<=1048576
   ·by_cases e:1<=q∧q<=1048576
    ·exact .inr (.inr (.inr (.inr (.inr (.inr (.inr ⟨T (by omega),a',b',c',decide_eq_true d,decide_eq_true e⟩))))))
    ·exact .inr (.inr (.inr (.inr (.inr (.inr (.inl ⟨F (by omega),a',b',c',decide_eq_true d,decide_eq_false e⟩))))))
   ·exact .inr (.inr (.inr (.inr (.inr (.inl ⟨F (by omega),a',b',c',decide_eq_false d⟩)))))
  ·exact .inr (.inr (.inr (.inr (.inl ⟨F (by omega),a',b',decide_eq_false c⟩))))
 ·exact .inr (.inr (.inr (.inl ⟨F (by omega),a',decide_eq_false b⟩)))
theorem rvalid_any {w:World} {A:Option Addr} {m:Nat} (c:Nat) {ts:List Tr} (n:Int) (h:TosV w A m ts) (hs:m<=1000000) :
 Calls Tryz.prog 60 #[.slice A m c,.int .i64 n] w fun e w'=>e=.returned (.bool (validB ts n))∧w=w':=by
 have Hn:=iH h.len;have H:=iH h;clear h;go_enter Tryz.func60,Tryz.ntmps60;go_wp2_with fail
 go_loop [5] (fun i=>∃k:Nat,k<=m∧i=.int .i64 k∧validTo ts n k=true) (fun i=>m-(intOf i).toNat)
 case atStart=>exact⟨0,Nat.zero_le _,rfl,rfl⟩
 case round =>
  obtain⟨k,hk,rfl,hR⟩:=hrel;have HR:=iH hR;clear hR;by_cases hlt:k<m
  ·have hkl:k<ts.length:=by have:=Hn.out;omega
   obtain⟨b,off,rfl,hbb,hc⟩:=H.out.row.at_ 0 (by rw[tcells_length];omega);obtain⟨t1,t2,t3⟩:=tcells_at ts k hkl;have c1:=hc _ _ t1;have c2:=hc _ _ t2;have c3:=hc _ _ t3;simp only[<- Nat.add_assoc]at c2 c3;have Hs:Hid (okT n (itemAt ts k) (numAt ts k) (denAt ts k)=true->validTo ts n (k+1)=true):=fun h=>by
    simp only[validTo,HR.out,Bool.true_and];exact h
   have Hno:Hid (okT n (itemAt ts k) (numAt ts k) (denAt ts k)=false->validB ts n=false):=fun h=>validTo_no (k:=k) h _ hkl
   clear hc t1 t2 t3 hkl;generalize itemAt ts k=i at *;generalize numAt ts k=p at *;generalize denAt ts k=q at *;rcases okT_rsplit n i p q with ⟨ho,h1,h2,h3,h4⟩|⟨ho,h1,h2,h3,h4⟩|⟨ho,h1,h2,h3⟩|⟨ho,h1,h2⟩|⟨ho,h1,h2,h3⟩|⟨ho,h1,h2,h3,h4⟩|⟨ho,h1,h2,h3,h4,h5⟩|⟨ho,h1,h2,h3,h4,h5⟩
   all_goals first
    | (have HF := iH (Hno.out ho)
       clear ho Hs Hno
       go_wp2_with(go_at_call 48;refine(factor_any _ _).mono ?_;rintro e w' ⟨rfl,rfl⟩)
       go_ret
       exact⟨by rw[HF.out];rfl,rfl⟩)
    | (have HF := iH (Hs.out ho)
       clear ho Hs Hno
       go_wp2_with(go_at_call 48;refine(factor_any _ _).mono ?_;rintro e w' ⟨rfl,rfl⟩)
       go_round
       case rel=>exact⟨k+1,by omega,by go_num,HF.out⟩
       case measure=>simp[intOf];omega)
  ·have hkn:k=ts.length:=by have:=Hn.out;omega
   rw[hkn]at HR;clear hkn;have HT:Hid (validB ts n=true):=HR;go_wp2;go_ret;exact⟨by rw[HT.out];rfl,rfl⟩
def Cap (s x:Int):Prop:=(s<=1099511627776∧x=s)∨(1099511627776<s∧1099511627776<x∧x<=2199023255552)
theorem Cap.step {s x K p L:Int} (h:Cap s x) (hs:0<=s) (hK:0<=K) (hp:1<=p) (hL:L=1099511627776 / p):Cap (s+K*p) (min (x+min K (L+1)*p) 2199023255552):=by
 have hL1:1099511627776<(L+1)*p:=by
  subst hL;have:=Int.lt_ediv_add_one_mul_self 1099511627776 (show 0<p by omega);exact this
 have hKp:=Int.mul_nonneg hK (show 0<=p by omega);clear hL;by_cases hc:K<=L+1
 ·rw[Int.min_eq_left hc];rcases h with ⟨h1,rfl⟩|⟨h1,h2,h3⟩
  ·by_cases hx:x+K*p<=1099511627776
   ·exact .inl ⟨hx,by omega⟩
   ·exact .inr ⟨by omega,by omega,by omega⟩
  ·exact .inr ⟨by omega,by omega,by omega⟩
 ·rw[Int.min_eq_right (show L+1<=K by omega)];have:(L+1)*p<=K*p:=Int.mul_le_mul_of_nonneg_right (by omega) (by omega);have hx:0<=x:=by rcases h with ⟨h1,rfl⟩ | ⟨h1,h2,h3⟩ <;> omega
  generalize(L+1)*p=T at *;generalize K*p=U at *;exact .inr ⟨by omega,by omega,by omega⟩
theorem own_drewN {W:World} {B E s n:Nat} {v:Value} {xs:List Value} (h:W.ownsRow B E s v n xs) (q:Nat):(W.drewN q).ownsRow B E s v n xs:=h
theorem rthen_bad {w:World} {A A':Option Addr} {m m':Nat} (c c':Nat) {ts us:List Tr} (ht:TosV w A m ts) (hu:TosV w A' m' us) (hm:m<=1000000) (hm':m'<=1000000) (hbad:thenArg ts us=false) :
 Calls Tryz.prog 31 #[.slice A m c,.slice A' m' c'] w (ThenPost w ts us):=by
 have HE:=iH (thenE_bad hbad);have K1:=rvalid_any c m' ht hm;rw[hu.len]at K1;have K2:=rvalid_any c' 64 hu hm';cases hv:validB ts (us.length:Int)
 ·rw[hv,<- hu.len]at K1;have HK1:=iH K1;clear hbad hv ht hu K1 K2;go_enter Tryz.func31,Tryz.ntmps31;go_wp2_with fail;refine HK1.out.mono ?_;rintro e w1 ⟨rfl,rfl⟩;go_wp2;go_ret2;exact thenPost_err HE.out (by omega) (Below.refl _ _)
 ·have hv2:validB us 64=false:=by
   cases h2:validB us 64
   ·rfl
   ·simp[thenArg,hv,h2]at hbad
  rw[hv,<- hu.len]at K1;rw[hv2]at K2;have HK1:=iH K1;have HK2:=iH K2;clear hbad hv hv2 ht hu K1 K2;go_enter Tryz.func31,Tryz.ntmps31;go_wp2_with fail;refine HK1.out.mono ?_;rintro e w1 ⟨rfl,rfl⟩;go_wp2_with fail;refine HK2.out.mono ?_;rintro e w2 ⟨rfl,rfl⟩;go_wp2;go_ret2;exact thenPost_err HE.out (by omega) (Below.refl _ _)
theorem rthen_good {w:World} {A A':Option Addr} {m m':Nat} (c c':Nat) {ts us:List Tr} (ht:TosV w A m ts) (hu:TosV w A' m' us) (hm:m<=1000000) (hm':m'<=1000000) (hgood:thenArg ts us=true) :
 Calls Tryz.prog 31 #[.slice A m c,.slice A' m' c'] w (ThenPost w ts us):=by
 obtain⟨i0,hi,hz0,hz1,hz2⟩:=info_parts info68;have hg:=hgood;simp only[thenArg,Bool.and_eq_true]at hg;have K1:=rvalid_any c m' ht hm;rw[hu.len,hg.1,<- hu.len]at K1;have K2:=rvalid_any c' 64 hu hm';rw[hg.2]at K2;have HK1:=iH K1;have HK2:=iH K2;have HT:=iH ht;have HU:=iH hu;have Hlt:=iH ht.len;have Hlu:=iH hu.len;have HG:=iH hgood;clear hgood hg ht hu K1 K2;go_enter Tryz.func31,Tryz.ntmps31;go_wp2_with fail;refine HK1.out.mono ?_;rintro e w1 ⟨rfl,rfl⟩;go_wp2_with fail;refine HK2.out.mono ?_;rintro e w2 ⟨rfl,rfl⟩;clear HK1 HK2;go_wp2_with fail;go_loopw [6,7] (fun v i wr=>∃k:Nat,k<=m∧i=.int .i64 k∧wr.ownsRow w.heap.size 68 3 v k (tcells (thenN ts us k))∧Below w.heap.size w wr∧fatTo ts us k=false) (fun _ i _=>m-(intOf i).toNat)
 case atStart=>exact⟨0,Nat.zero_le _,rfl,World.ownsRow_nil _ _ _ _,Below.refl _ _,rfl⟩
 case round =>
  obtain⟨k,hk,rfl,hown,hb,hF⟩:=hrel;have HO:=iH hown;have HB:=iH hb;have HF:=iH hF;have hsz:=hb.size;clear hown hb hF;by_cases hlt:k<m
  ·have hkl:k<ts.length:=by have:=Hlt.out;omega
   obtain⟨b,off,rfl,hbb,hc⟩:=(HT.out.below HB.out).row.at_ 0 (by rw[tcells_length];omega);obtain⟨t1,t2,t3⟩:=tcells_at ts k hkl;have c1:=hc _ _ t1;have c2:=hc _ _ t2;have c3:=hc _ _ t3;simp only[<- Nat.add_assoc]at c2 c3;have HS:=iH (thenN_next ts us k);clear hc t1 t2 t3;by_cases hneg:itemAt ts k<0
   ·have hl:liveB ts us k=false:=by simp[liveB];omega
    have ha:thenAt ts us k=(-1,0,0):=by simp[thenAt,hl]
    have HF2:Hid (fatTo ts us (k+1)=false):=by show fatTo ts us (k+1)=false;simp[fatTo,HF.out,fatB,hl]
    rw[ha]at HS;have e0:decide (0<=itemAt ts k)=false:=decide_eq_false (by omega);clear hl ha hkl HF;generalize itemAt ts k=i at *;generalize numAt ts k=p at *;generalize denAt ts k=q at *;go_wp2_with(at_builtin;refine wpList_append_own_at _ rfl _ _ 39 rfl w.heap.size 68 i0 (.agg #[.int .i64 0,.int .i64 0,.int .i64 0]) 3 24 Tryz.underlying39 hi hz0 hz1 hz2 rfl (by decide) _ k (tcells (thenN ts us k)) rfl ((HO.out.alloc _).alloc _) ⟨wr.heap.size+1,0,none⟩ 1 1 [.int .i64 (-1),.int .i64 0,.int .i64 0] rfl rfl ?c1 (one3 _ _ _) ?c3 ?c4 ?c5 ?_)
    case c1=>simpa using new3 (wr.alloc (.cells #[.int .i64 (-1),.int .i64 0,.int .i64 0] 68)) 68 (.int .i64 (-1)) (.int .i64 0) (.int .i64 0)
    case c3=>unfold maxLen;omega
    case c4=>omega
    case c5=>simp;omega
    intro v' w1 hown' hgrow _ _;have hb1:Below w.heap.size w w1:=((HB.out.alloc hsz _).alloc (by simp;omega) _).grown hgrow (by simp;omega) (row_base HO.out);have HO1:=iH hown';clear hown' hgrow;go_wp2_with fail;go_roundw
    case rel=>exact⟨k+1,by omega,by go_num,by rw[HS.out,tcells_snoc];exact HO1.out,hb1,HF2.out⟩
    case measure=>simp[intOf];omega
   ·obtain⟨hmid,hit,hlive⟩:=live_facts HG.out hkl (show 0<=itemAt ts k by omega);obtain⟨b',off',rfl,hbb',hc'⟩:=(HU.out.below HB.out).row.at_ 0 (by rw[tcells_length];omega);obtain⟨t1,t2,t3⟩:=tcells_at us (midAt ts k) hmid;have d1:=hc' _ _ t1;have d2:=hc' _ _ t2;have d3:=hc' _ _ t3;simp only[<- Nat.add_assoc]at d2 d3;have hmm:midAt ts k<m':=by have:=Hlu.out;omega
    rw[hit]at c1;clear hc' t1 t2 t3;have k0:(0:Int)<=(k:Int):=by omega
    have k1:(k:Int)<(m:Int):=by omega
    by_cases hneg2:itemAt us (midAt ts k)<0
    ·have hl:liveB ts us k=false:=by simp[liveB];omega
     have ha:thenAt ts us k=(-1,0,0):=by simp[thenAt,hl]
     have HF2:Hid (fatTo ts us (k+1)=false):=by show fatTo ts us (k+1)=false;simp[fatTo,HF.out,fatB,hl]
     rw[ha]at HS;have e0:decide (0<=itemAt us (midAt ts k))=false:=decide_eq_false (by omega);clear hl ha hkl HF hneg hit hlive hmid;generalize midAt ts k=j at *;generalize numAt ts k=p at *;generalize denAt ts k=q at *;generalize itemAt us j=i' at *;generalize numAt us j=p' at *;generalize denAt us j=q' at *;have j0:(0:Int)<=(j:Int):=by omega
     have j1:(j:Int)<(m':Int):=by omega
     go_wp2_with(at_builtin;refine wpList_append_own_at _ rfl _ _ 39 rfl w.heap.size 68 i0 (.agg #[.int .i64 0,.int .i64 0,.int .i64 0]) 3 24 Tryz.underlying39 hi hz0 hz1 hz2 rfl (by decide) _ k (tcells (thenN ts us k)) rfl ((HO.out.alloc _).alloc _) ⟨wr.heap.size+1,0,none⟩ 1 1 [.int .i64 (-1),.int .i64 0,.int .i64 0] rfl rfl ?d1 (one3 _ _ _) ?d3 ?d4 ?d5 ?_)
     case d1=>simpa using new3 (wr.alloc (.cells #[.int .i64 (-1),.int .i64 0,.int .i64 0] 68)) 68 (.int .i64 (-1)) (.int .i64 0) (.int .i64 0)
     case d3=>unfold maxLen;omega
     case d4=>omega
     case d5=>simp;omega
     intro v' w1 hown' hgrow _ _;have hb1:Below w.heap.size w w1:=((HB.out.alloc hsz _).alloc (by simp;omega) _).grown hgrow (by simp;omega) (row_base HO.out);have HO1:=iH hown';clear hown' hgrow;go_wp2_with fail;go_roundw
     case rel=>exact⟨k+1,by omega,by go_num,by rw[HS.out,tcells_snoc];exact HO1.out,hb1,HF2.out⟩
     case measure=>simp[intOf];omega
    ·rcases hlive with hl | ⟨i0',i1',p0,p1,q0,q1,r0,r1,s0,s1⟩
     ·omega
     have hl:liveB ts us k=true:=by simp[liveB];omega
     have hP:=prod_bd2 p0 p1 r0 r1;have hQ:=prod_bd2 q0 q1 s0 s1;have hgd:=gcd_bd (q:=denAt ts k*denAt us (midAt ts k)) hP.1;have hq1:=quo_bd hP.1 hgd.1 (Int.gcd_dvd_left ..);have hq2:=quo_bd hQ.1 hgd.1 (Int.gcd_dvd_right ..);have ha:thenAt ts us k=(itemAt us (midAt ts k),pAt ts us k / gAt ts us k,qAt ts us k / gAt ts us k):=by simp[thenAt,hl]
     have hf:fatTo ts us (k+1)=(decide (1048576<pAt ts us k / gAt ts us k) || decide (1048576<qAt ts us k / gAt ts us k)):=by simp[fatTo,HF.out,fatB,hl]
     have hE5:fatTo ts us (k+1)=true->thenE ts us=5:=fun h=>thenE_fat HG.out (fatTo_stays h _ (by omega))
     have ep:pAt ts us k=numAt ts k*numAt us (midAt ts k):=rfl;have eq:qAt ts us k=denAt ts k*denAt us (midAt ts k):=rfl;have eg:gAt ts us k=(Int.gcd (numAt ts k*numAt us (midAt ts k)) (denAt ts k*denAt us (midAt ts k)):Int):=rfl;rw[ep,eq,eg]at ha hf;rw[ha]at HS;have HFt:=iH hf;have HE5:=iH hE5;have K63:=iH (fun W=>rdivisor_any (numAt ts k*numAt us (midAt ts k)) (denAt ts k*denAt us (midAt ts k)) W hP.1 hQ.1 (by omega) (by omega));clear hl ha hf hE5 ep eq eg HF hkl hneg hit hmid;generalize midAt ts k=j at *;generalize numAt ts k=p at *;generalize denAt ts k=q at *;generalize itemAt us j=i' at *;generalize numAt us j=p' at *;generalize denAt us j=q' at *;have htd1:(p*p').tdiv (Int.gcd (p*p') (q*q'):Int)=p*p' / (Int.gcd (p*p') (q*q'):Int):=Int.tdiv_eq_ediv_of_nonneg (by omega);have htd2:(q*q').tdiv (Int.gcd (p*p') (q*q'):Int)=q*q' / (Int.gcd (p*p') (q*q'):Int):=Int.tdiv_eq_ediv_of_nonneg (by omega);have g4:IntKind.i64.wrap (p*p')=p*p':=IntWalk.i64_in _ (by omega);have g5:IntKind.i64.wrap (q*q')=q*q':=IntWalk.i64_in _ (by omega);generalize(Int.gcd (p*p') (q*q'):Int)=G at *;generalize hP1:p*p'=P at *;generalize hQ1:q*q'=Q at *;generalize P / G=z1 at *;generalize Q / G=z2 at *;have g0:(G == 0)=false:=by simp;omega
     have g1:¬ G=0:=by omega
     have g6:IntKind.i64.wrap z1=z1:=IntWalk.i64_in _ (by omega);have g7:IntKind.i64.wrap z2=z2:=IntWalk.i64_in _ (by omega);have j0:(0:Int)<=(j:Int):=by omega
     have j1:(j:Int)<(m':Int):=by omega
     have HO2:=iH ((HO.out.alloc (.cells #[.int .i64 (-1),.int .i64 0,.int .i64 0] 68)).alloc (.cells #[.int .i64 i',.int .i64 p',.int .i64 q'] 68));have HB2:Hid (Below w.heap.size w ((wr.alloc (.cells #[.int .i64 (-1),.int .i64 0,.int .i64 0] 68)).alloc (.cells #[.int .i64 i',.int .i64 p',.int .i64 q'] 68))):=(HB.out.alloc hsz _).alloc (by simp;omega) _;have HX:=iH ((Bk.new wr 68 [.int .i64 (-1),.int .i64 0,.int .i64 0]).alloc (.cells #[.int .i64 i',.int .i64 p',.int .i64 q'] 68));have HY:=iH (Bk.new (wr.alloc (.cells #[.int .i64 (-1),.int .i64 0,.int .i64 0] 68)) 68 [.int .i64 i',.int .i64 p',.int .i64 q']);rw[World.size_alloc]at HY;have c2':((wr.alloc (.cells #[.int .i64 (-1),.int .i64 0,.int .i64 0] 68)).alloc (.cells #[.int .i64 i',.int .i64 p',.int .i64 q'] 68)).cell? ⟨b,off+k*3+1,none⟩=some (.int .i64 p):=by
      rw[World.cell?_alloc_past _ _ _ (by simp;omega),World.cell?_alloc_past _ _ _ hbb];exact c2
     have c3':((wr.alloc (.cells #[.int .i64 (-1),.int .i64 0,.int .i64 0] 68)).alloc (.cells #[.int .i64 i',.int .i64 p',.int .i64 q'] 68)).cell? ⟨b,off+k*3+2,none⟩=some (.int .i64 q):=by
      rw[World.cell?_alloc_past _ _ _ (by simp;omega),World.cell?_alloc_past _ _ _ hbb];exact c3
     have hne:∀v,v=u6->v.ownBlock≠some wr.heap.size:=fun v e h=>by
      subst e;have:=(HO.out.lt _ h).2;omega
     have Hne:=iH (hne _ rfl);clear HB HO hne;go_wp2_with fail;clear c1 c2 c3 d1 d2 d3;generalize((wr.alloc (.cells #[.int .i64 (-1),.int .i64 0,.int .i64 0] 68)).alloc (.cells #[.int .i64 i',.int .i64 p',.int .i64 q'] 68))=V at *;generalize wr.heap.size=gx at *;have e1:=HY.out.k1;go_quiet (fail);have HO3:=iH (own_drewN HO2.out nq);have HB3:=iH (bel_drewN HB2.out nq);have HX3:=iH (HX.out.drewN nq);have HY3:=iH (HY.out.drewN nq);have c3'':(V.drewN nq).cell? ⟨b,off+k*3+2,none⟩=some (.int .i64 q):=c3';clear e1 c2' c3' HX HY HO2 HB2 hP1 g4;generalize V.drewN nq=V2 at *;have e2:=HY3.out.k2;go_wp2_with fail;go_quiet (fail);have HO4:=iH (own_drewN HO3.out nq);have HB4:=iH (bel_drewN HB3.out nq);have HX4:=iH (HX3.out.drewN nq);have HY4:=iH (HY3.out.drewN nq);clear e2 c3'' HX3 HY3 HO3 HB3 hQ1 g5;generalize V2.drewN nq=V3 at *;go_wp2_with fail;refine(K63.out _).mono ?_;rintro e V4 ⟨rfl,hb3⟩;have HO5:=iH (HO4.out.kept (grown_of_below hb3 (some gx)) (.inr Hne.out));have HX5:=iH (HX4.out.below hb3 HX4.out.lt);have HY5:=iH (HY4.out.below hb3 HY4.out.lt);have HB5:=iH (HB4.out.trans (hb3.mono HB4.out.size));clear HO4 HX4 HY4 HB4 hb3 K63;have y0:=HY5.out.k0;have n1:=HX5.out.k0;have n2:=HX5.out.k1;have n3:=HX5.out.k2;go_wp2_with fail;go_still_tail 9,(by kernel_rfl);change wpList _ _ _ _ _ V4.drew;have HX6:=iH HX5.out.drew;have HY6:=iH HY5.out.drew;have HO6:=iH HO5.out.drew;have HB6:=iH HB5.out.drew;clear y0 n1 n2 n3 HX5 HY5 HO5 HB5;generalize V4.drew=V5 at *;have y0:=HY6.out.k0;have n1:=HX6.out.k0;have n2:=HX6.out.k1;have n3:=HX6.out.k2;have f1:V5.frozen? ⟨gx,0,none⟩=false:=HX6.out.frozen 0;have f2:V5.frozen? ⟨gx,1,none⟩=false:=HX6.out.frozen 1;have f3:V5.frozen? ⟨gx,2,none⟩=false:=HX6.out.frozen 2;have lx:gx<V5.heap.size:=HX6.out.lt;go_wp2_with fail;have HX7:=iH (((HX6.out.set 0 (.int .i64 i')).set 1 (.int .i64 z1)).set 2 (.int .i64 z2));have HO7:=iH (((HO6.out.kept (grown_setCell V5 gx 0 (.int .i64 i')) (.inr Hne.out)).kept (grown_setCell _ gx 1 (.int .i64 z1)) (.inr Hne.out)).kept (grown_setCell _ gx 2 (.int .i64 z2)) (.inr Hne.out));have HB7:Hid (Below w.heap.size w (((V5.setCell ⟨gx,0,none⟩ (.int .i64 i')).setCell ⟨gx,1,none⟩ (.int .i64 z1)).setCell ⟨gx,2,none⟩ (.int .i64 z2))):=((HB6.out.setCell (by simp;omega) _).setCell (by simp;omega) _).setCell (by simp;omega) _;clear y0 n1 n2 n3 f1 f2 f3 lx HX6 HY6 HO6 HB6 htd1 htd2 g0 g1 g6 g7;generalize(((V5.setCell ⟨gx,0,none⟩ (.int .i64 i')).setCell ⟨gx,1,none⟩ (.int .i64 z1)).setCell ⟨gx,2,none⟩ (.int .i64 z2))=V6 at *;have n1:=HX7.out.k0;have n2:=HX7.out.k1;have n3:=HX7.out.k2;have lx:gx<V6.heap.size:=HX7.out.lt;have K1:=factor_any V6 z1;have K2:=factor_any V6 z2;by_cases hb1:1048576<z1
     ·have HE:=iH (HE5.out (by rw[HFt.out];simp[hb1]));rw[decide_eq_false (show ¬ (1<=z1∧z1<=1048576) by omega)]at K1;have HK1:=iH K1;clear K1 K2;go_wp2_with(go_at_call 48;refine HK1.out.mono ?_;rintro e w' ⟨rfl,rfl⟩);go_ret2;exact thenPost_err HE.out (by omega) HB7.out
     rw[decide_eq_true (show(1<=z1∧z1<=1048576) by omega)]at K1;have HK1:=iH K1;by_cases hb2:1048576<z2
     ·have HE:=iH (HE5.out (by rw[HFt.out];simp[hb2]));rw[decide_eq_false (show ¬ (1<=z2∧z2<=1048576) by omega)]at K2;have HK2:=iH K2;clear K1 K2;go_wp2_with fail;refine HK1.out.mono ?_;rintro e w' ⟨rfl,rfl⟩;go_wp2_with fail;refine HK2.out.mono ?_;rintro e w' ⟨rfl,rfl⟩;go_wp2_with fail;go_ret2;exact thenPost_err HE.out (by omega) HB7.out
     rw[decide_eq_true (show(1<=z2∧z2<=1048576) by omega)]at K2;have HK2:=iH K2;have HF2:Hid (fatTo ts us (k+1)=false):=by show fatTo ts us (k+1)=false;rw[HFt.out];simp;omega
     clear K1 K2;go_wp2_with fail;refine HK1.out.mono ?_;rintro e w' ⟨rfl,rfl⟩;go_wp2_with fail;refine HK2.out.mono ?_;rintro e w' ⟨rfl,rfl⟩;have hsz6:=HB7.out.size;go_wp2_with(at_builtin;refine wpList_append_own_at _ rfl _ _ 39 rfl w.heap.size 68 i0 (.agg #[.int .i64 0,.int .i64 0,.int .i64 0]) 3 24 Tryz.underlying39 hi hz0 hz1 hz2 rfl (by decide) _ k (tcells (thenN ts us k)) rfl (HO7.out.alloc _) ⟨V6.heap.size,0,none⟩ 1 1 [.int .i64 i',.int .i64 z1,.int .i64 z2] rfl rfl (new3 _ _ _ _ _) (one3 _ _ _) ?f3 ?f4 ?f5 ?_)
     case f3=>unfold maxLen;omega
     case f4=>omega
     case f5=>simp;omega
     intro v' w1 hown' hgrow _ _;have hb1:Below w.heap.size w w1:=(HB7.out.alloc hsz6 _).grown hgrow (by simp;omega) (row_base HO7.out);have HO1:=iH hown';clear hown' hgrow;go_wp2_with fail;go_roundw
     case rel=>exact⟨k+1,by omega,by go_num,by rw[HS.out,tcells_snoc];exact HO1.out,hb1,HF2.out⟩
     case measure=>simp[intOf];omega
  ·have hkm:k=m:=by omega
   have hkl:k=ts.length:=by have:=Hlt.out;omega
   subst hkm;obtain⟨A9,c9,hv9,-⟩:=row_of_owns HO.out;subst hv9;have hr9:=FR.of_own (w:=w) HO.out (Nat.le_refl _) (.inr rfl);have HP:=iH (thenPost_ok (c:=c9) HG.out (by rw[<- hkl];exact HF.out) hkl hr9 HB.out);clear hkl hr9;go_wp2_with fail;go_ret2;exact HP.out
end Go.Proofs.YthjfdfdgbpbanaaGreatDoor
