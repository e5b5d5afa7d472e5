/- The reference's generator of renames: some renames. -/
import Derived.Test.YthjfdfdgbpbanaaGreatDoorX6
import Derived.Test.YthjfdfdgbpbanaaGreatDoorX17
import Derived.Deep.CutBlock
import Derived.Deep.DeepCutAuto
import Derived.Deep.RegionHeld3
import Derived.Deep.AppendLies
import Derived.BigQuiet
import Derived.Maps.AppendAt
set_option linter.unusedVariables false
set_option linter.unusedSimpArgs false
set_option maxRecDepth 100000
set_option maxHeartbeats 4000000
open Go.RowKit
namespace Go.Proofs.YthjfdfdgbpbanaaGreatDoor
section
def Ren.Fits (r:Ren):Prop:=r.old.size<=8192∧r.new.size<=8192
structure YAt (V W : World) (v : Value) (n : Nat) (l : List Ren) (g : Nat) (r : Ren) : Prop where
 own:W.ownsRow V.heap.size 87 4 v n (rcells l)
 len:n=l.length
 bx:Bk W g 87 [.string r.old,.string r.new,.int .i64 r.num,.int .i64 r.den]
 ne:v.ownBlock≠some g
 ge:V.heap.size<=g
 bel:Below V.heap.size V W
 okl:∀x∈l,x.Fits
 okr:r.Fits
section
variable {V W W' : World} {v : Value} {n : Nat} {l : List Ren} {g : Nat} {r : Ren}
theorem YAt.below (h:YAt V W v n l g r) (hb:Below W.heap.size W W'):YAt V W' v n l g r :=
 ⟨h.own.kept (grown_of_below hb (some g)) (.inr h.ne),h.len,h.bx.below hb h.bx.lt,h.ne,h.ge,h.bel.trans (hb.mono h.bel.size),h.okl,h.okr⟩
theorem YAt.set (h:YAt V W v n l g r) (j:Nat) (u:Value) (r':Ren) (hu:[Value.string r.old,.string r.new,.int .i64 r.num,.int .i64 r.den].set j u=[.string r'.old,.string r'.new,.int .i64 r'.num,.int .i64 r'.den]) (hr:r'.Fits):YAt V (W.setCell ⟨g,j,none⟩ u) v n l g r':=by
 have hg:=grown_setCell W g j u;exact⟨h.own.kept hg (.inr h.ne),h.len,by rw[<- hu];exact h.bx.set j _,h.ne,h.ge,h.bel.setCell h.ge _,h.okl,hr⟩
end
theorem info87:(Tryz.prog.info? 87).map (fun i=>(i.zero,i.size,i.bytes))=some (some (.agg #[.string ⟨#[]⟩,.string ⟨#[]⟩,.int .i64 0,.int .i64 0]),4,48):=by kernel_rfl
theorem one4 (s t:ByteArray) (x y:Int):∀u∈([.string s,.string t,.int .i64 x,.int .i64 y]:List Value),u.oneCell'=true:=by
 intro u hu;simp only[List.mem_cons,List.not_mem_nil,or_false]at hu;rcases hu with rfl|rfl|rfl|rfl <;> rfl
def RensPost (w:World) (e:Ending) (w':World):Prop:=∃A n c rs,e=.returned (.slice A n c)∧RensV w' A n rs∧n<=4∧Below w.heap.size w w'∧TRow w' 87 A (rcells rs)
theorem Renames_any {w : World} {io ro to_ xo ix rx tx xx : Sl} {lo ln : List It} {A : Option Addr} {n : Nat} (c : Nat) {zs : List Int} (a : Nat) (ha : a <= 1000) (ho : ItsR w io.A io.n lo) (hn : ItsR w ix.A ix.n ln) (h : IntsV w A n zs) :
 Calls Tryz.prog 11 #[catS io ro to_ xo,catS ix rx tx xx,.slice A n c,.int .i64 (a:Int)] w (RensPost w):=by
 obtain⟨i0,hi,hz0,hz1,hz2⟩:=info_parts info87;obtain⟨Ao,no,co⟩:=io;obtain⟨Ax,nx,cx⟩:=ix;dsimp only at *;have so:=ho.small;have sn:=hn.small;have Hlo:=iH ho.len;have Hln:=iH hn.len;have X0:Below w.heap.size w ((w.alloc (catSO ⟨Ao,no,co⟩ ro to_ xo)).alloc (catSO ⟨Ax,nx,cx⟩ rx tx xx)):=((Below.refl _ _).alloc (Nat.le_refl _) _).alloc (by simp) _;have kx:=Bk.new (w.alloc (catSO ⟨Ao,no,co⟩ ro to_ xo)) 28 (catSL ⟨Ax,nx,cx⟩ rx tx xx);rw[World.size_alloc]at kx;have HK1:Hid (Bk ((w.alloc (catSO ⟨Ao,no,co⟩ ro to_ xo)).alloc (catSO ⟨Ax,nx,cx⟩ rx tx xx)) w.heap.size 28 (catSL ⟨Ao,no,co⟩ ro to_ xo)):=(Bk.new w 28 _).alloc _;have HK2:=iH kx;have HO:=iH (ho.below X0);have HN:=iH (hn.below X0);have HI:=iH (h.below X0);have HX:=iH X0;clear ho hn h X0 kx;go_enter Tryz.func11,Tryz.ntmps11;go_wp2_with fail;generalize hV:(w.alloc (catSO ⟨Ao,no,co⟩ ro to_ xo)).alloc (catSO ⟨Ax,nx,cx⟩ rx tx xx)=V at HK1 HK2 HO HN HI HX;(try rw[hV]);clear hV;have KP:Hid (∀(U:World) (i m:Int),Below V.heap.size V U -> -9223372036854775808<=i->i<=9223372036854775807->1<=m->m<=9223372036854775807->Calls Tryz.prog 35 #[.slice A n c,.int .i64 i,.int .i64 m] U fun e w'=>e=.returned (.int .i64 (pick zs i m))∧U=w'):=fun U i m hU h1 h2 h3 h4=>(HI.out.below hU).pick c i m h1 h2 h3 h4
 go_loopw [9,10] (fun v i wr=>∃(k:Nat) (l:List Ren),k<=4∧i=.int .i64 k∧wr.ownsRow V.heap.size 87 4 v k (rcells l)∧k=l.length∧(∀x∈l,x.Fits)∧Below V.heap.size V wr) (fun _ i _=>4-(intOf i).toNat)
 case atStart=>exact⟨0,[],by omega,rfl,World.ownsRow_nil _ _ _ _,rfl,by simp,Below.refl _ _⟩
 case round =>
  obtain⟨k,l,hk,rfl,hown,hlen,hfit,hb⟩:=hrel;have HOw:=iH hown;have HLen:=iH hlen;have HFit:=iH hfit;have HB:=iH hb;have hsz:=hb.size;clear hown hlen hfit hb;have q0:=pick_lo zs (a:Int) 4 (by omega);have q1:=pick_hi zs (a:Int) 4 (by omega);go_wp2_with fail;(with_reducible refine(KP.out _ _ _ HB.out (by omega) (by omega) (by omega) (by omega)).mono ?_);rintro e w' ⟨rfl,rfl⟩;generalize pick zs (a:Int) 4=P at *;by_cases hlt:(k:Int)<P
  ·go_wp2_with fail;(with_reducible refine(KP.out _ _ _ HB.out (by omega) (by omega) (by omega) (by omega)).mono ?_);rintro e w' ⟨rfl,rfl⟩;have r0:=pick_lo zs ((a:Int)+4*(k:Int)+1) 3 (by omega);have r1:=pick_hi zs ((a:Int)+4*(k:Int)+1) 3 (by omega);generalize pick zs ((a:Int)+4*(k:Int)+1) 3=p1 at *;go_wp2_with fail;(with_reducible refine(KP.out _ _ _ HB.out (by omega) (by omega) (by omega) (by omega)).mono ?_);rintro e w' ⟨rfl,rfl⟩;have r2:=pick_lo zs ((a:Int)+4*(k:Int)+2) 3 (by omega);have r3:=pick_hi zs ((a:Int)+4*(k:Int)+2) 3 (by omega);generalize pick zs ((a:Int)+4*(k:Int)+2) 3=p2 at *;have HY:Hid (YAt V (wr.alloc (.cells #[.string ⟨#[110,111,116,104,105,110,103]⟩,.string ⟨#[110,111,116,104,105,110,103]⟩,.int .i64 (1+p1),.int .i64 (1+p2)] 87)) u9 k l wr.heap.size ⟨⟨#[110,111,116,104,105,110,103]⟩,⟨#[110,111,116,104,105,110,103]⟩,1+p1,1+p2⟩):=by
    refine⟨HOw.out.alloc _,HLen.out,Bk.new wr 87 _,fun e=>?_,hsz,HB.out.alloc hsz _,HFit.out,⟨by show(7:Nat)<=8192;omega,by show(7:Nat)<=8192;omega⟩⟩;have:=HOw.out.lt _ e;omega
   have b10:(wr.alloc (.cells #[.string ⟨#[110,111,116,104,105,110,103]⟩,.string ⟨#[110,111,116,104,105,110,103]⟩,.int .i64 (1+p1),.int .i64 (1+p2)] 87)).cell? ⟨w.heap.size,0,none⟩=some (.slice Ao no co):=(HY.out.bel.cell (p:=⟨w.heap.size,0,none⟩) HK1.out.lt).trans (HK1.out.cell 0);have hl1:w.heap.size<wr.heap.size:=Nat.lt_of_lt_of_le HK1.out.lt hsz;go_upto_if 40 with fail;obtain⟨g,hg⟩:∃g,wr.heap.size=g:=⟨_,rfl⟩;generalize hW:wr.alloc (.cells #[.string ⟨#[110,111,116,104,105,110,103]⟩,.string ⟨#[110,111,116,104,105,110,103]⟩,.int .i64 (1+p1),.int .i64 (1+p2)] 87)=W1 at HY⊢;rw[hg]at HY⊢;clear hg hW b10 hl1;generalize hr0:(⟨⟨#[110,111,116,104,105,110,103]⟩,⟨#[110,111,116,104,105,110,103]⟩,1+p1,1+p2⟩:Ren)=r at HY;clear hr0;go_cut [10] (fun b wx=>b=.int .i64 (k:Int)∧∃r,YAt V wx u9 k l g r)
   case first =>
    have b10:W1.cell? ⟨w.heap.size,0,none⟩=some (.slice Ao no co):=(HY.out.bel.cell (p:=⟨w.heap.size,0,none⟩) HK1.out.lt).trans (HK1.out.cell 0);have hl1:w.heap.size<W1.heap.size:=Nat.lt_of_lt_of_le HK1.out.lt HY.out.bel.size;by_cases hno:0<no
    ·have r4:=pick_lo zs ((a:Int)+4*(k:Int)+3) (no:Int) (by omega);have r5:=pick_hi zs ((a:Int)+4*(k:Int)+3) (no:Int) (by omega);obtain⟨j,hj⟩:∃j:Nat,pick zs ((a:Int)+4*(k:Int)+3) (no:Int)=j:=⟨_,(Int.toNat_of_nonneg r4).symm⟩;have KQ:Hid (∀U:World,Below V.heap.size V U->Calls Tryz.prog 35 #[.slice A n c,.int .i64 ((a:Int)+4*(k:Int)+3),.int .i64 (no:Int)] U fun e w'=>e=.returned (.int .i64 (j:Int))∧U=w'):=fun U hU=>by
      have:=KP.out U ((a:Int)+4*(k:Int)+3) (no:Int) hU (by omega) (by omega) (by omega) (by omega);rw[hj]at this;exact this
     rw[hj]at r5;clear hj r4;have hjn:j<no:=by omega
     have hAt:=HO.out.at_ j hjn;(try dsimp only at hAt);obtain⟨ba,oa,rfl,hba,p0,_⟩:=hAt;have hsz8:=HO.out.name _ (itAt_mem (show j<lo.length by have:=Hlo.out;omega));generalize(itAt lo j).name=s at *;have HC:Hid (∀U:World,Below V.heap.size V U->U.cell? ⟨w.heap.size,0,none⟩=some (.slice (some ⟨ba,oa,none⟩) no co)∧U.cell? ⟨ba,oa+j*7,none⟩=some (.string s)):=fun U hU=>⟨(hU.cell (p:=⟨w.heap.size,0,none⟩) HK1.out.lt).trans (HK1.out.cell 0),(hU.cell (p:=⟨ba,_,none⟩) hba).trans p0⟩
     have x0:=HY.out.bx.k0;have y0:=HY.out.bx.frozen 0;have hg2:=HY.out.bx.lt;have HY2:=iH ((HY.out.below (Below.refl _ _).drew).set 0 (.string s) ⟨s,r.new,r.num,r.den⟩ rfl ⟨hsz8,HY.out.okr.2⟩);have B9:=HY.out.bel.drew;have B8:=HY2.out.bel;have z1:IntKind.i64.wrap (4*(k:Int))=4*(k:Int):=IntWalk.i64_in _ (by omega);have z2:IntKind.i64.wrap ((a:Int)+4*(k:Int))=(a:Int)+4*(k:Int):=IntWalk.i64_in _ (by omega);have z3:IntKind.i64.wrap ((a:Int)+4*(k:Int)+3)=(a:Int)+4*(k:Int)+3:=IntWalk.i64_in _ (by omega);have j0:(0:Int)<=(j:Int):=by omega
     have j1:(j:Int)<(no:Int):=by omega
     clear p0 b10;have a1:decide (0<no)=true:=decide_eq_true hno;have b11:=(HC.out W1 HY.out.bel).1;go_wp2_with fail;clear b11
     go_region_held3 (fun U=>U.cell? ⟨w.heap.size,0,none⟩=some (.slice (some ⟨ba,oa,none⟩) no co)∧U.cell? ⟨ba,oa+j*7,none⟩=some (.string s)) (first | exact HC.out _ B9 | exact HC.out _ B8)
      ((go_at_call 35;(with_reducible refine(KQ.out _ B9).mono ?_);rintro e w' ⟨rfl,rfl⟩))
     go_wp2;go_meet;exact⟨rfl,_,HY2.out⟩
    ·have a1:decide (0<no)=false:=decide_eq_false hno;go_wp2;go_meet;exact⟨rfl,_,HY.out⟩
   case rest =>
    obtain⟨rfl,r',hY⟩:=hcut;clear HY;obtain⟨W2,hW2⟩:∃W2,wc=W2:=⟨_,rfl⟩;rw[hW2]at hY⊢;clear hW2;have HY:=iH hY;clear hY;clear r;obtain⟨r,hr⟩:∃r,r'=r:=⟨_,rfl⟩;rw[hr]at HY;clear hr;obtain⟨W1,hW1⟩:∃W1,W2=W1:=⟨_,rfl⟩;rw[hW1]at HY⊢;clear hW1;have b10:W1.cell? ⟨w.heap.size+1,0,none⟩=some (.slice Ax nx cx):=(HY.out.bel.cell (p:=⟨w.heap.size+1,0,none⟩) HK2.out.lt).trans (HK2.out.cell 0);have hl2:w.heap.size+1<W1.heap.size:=Nat.lt_of_lt_of_le HK2.out.lt HY.out.bel.size;go_upto_if 60 with fail;clear b10 hl2;go_cut [10] (fun b wx=>b=.int .i64 (k:Int)∧∃r,YAt V wx u9 k l g r)
    case first =>
     have b10:W1.cell? ⟨w.heap.size+1,0,none⟩=some (.slice Ax nx cx):=(HY.out.bel.cell (p:=⟨w.heap.size+1,0,none⟩) HK2.out.lt).trans (HK2.out.cell 0);have hl1:w.heap.size+1<W1.heap.size:=Nat.lt_of_lt_of_le HK2.out.lt HY.out.bel.size;by_cases hno:0<nx
     ·have r4:=pick_lo zs ((a:Int)+4*(k:Int)+4) (nx:Int) (by omega);have r5:=pick_hi zs ((a:Int)+4*(k:Int)+4) (nx:Int) (by omega);obtain⟨j,hj⟩:∃j:Nat,pick zs ((a:Int)+4*(k:Int)+4) (nx:Int)=j:=⟨_,(Int.toNat_of_nonneg r4).symm⟩;have KQ:Hid (∀U:World,Below V.heap.size V U->Calls Tryz.prog 35 #[.slice A n c,.int .i64 ((a:Int)+4*(k:Int)+4),.int .i64 (nx:Int)] U fun e w'=>e=.returned (.int .i64 (j:Int))∧U=w'):=fun U hU=>by
       have:=KP.out U ((a:Int)+4*(k:Int)+4) (nx:Int) hU (by omega) (by omega) (by omega) (by omega);rw[hj]at this;exact this
      rw[hj]at r5;clear hj r4;have hjn:j<nx:=by omega
      have hAt:=HN.out.at_ j hjn;(try dsimp only at hAt);obtain⟨ba,oa,rfl,hba,p0,_⟩:=hAt;have hsz8:=HN.out.name _ (itAt_mem (show j<ln.length by have:=Hln.out;omega));generalize(itAt ln j).name=s at *;have HC:Hid (∀U:World,Below V.heap.size V U->U.cell? ⟨w.heap.size+1,0,none⟩=some (.slice (some ⟨ba,oa,none⟩) nx cx)∧U.cell? ⟨ba,oa+j*7,none⟩=some (.string s)):=fun U hU=>⟨(hU.cell (p:=⟨w.heap.size+1,0,none⟩) HK2.out.lt).trans (HK2.out.cell 0),(hU.cell (p:=⟨ba,_,none⟩) hba).trans p0⟩
      have x0:=HY.out.bx.k1;have y0:=HY.out.bx.frozen 1;have hg2:=HY.out.bx.lt;have HY2:=iH ((HY.out.below (Below.refl _ _).drew).set 1 (.string s) ⟨r.old,s,r.num,r.den⟩ rfl ⟨HY.out.okr.1,hsz8⟩);have B9:=HY.out.bel.drew;have B8:=HY2.out.bel;have z1:IntKind.i64.wrap (4*(k:Int))=4*(k:Int):=IntWalk.i64_in _ (by omega);have z2:IntKind.i64.wrap ((a:Int)+4*(k:Int))=(a:Int)+4*(k:Int):=IntWalk.i64_in _ (by omega);have z3:IntKind.i64.wrap ((a:Int)+4*(k:Int)+4)=(a:Int)+4*(k:Int)+4:=IntWalk.i64_in _ (by omega);have j0:(0:Int)<=(j:Int):=by omega
      have j1:(j:Int)<(nx:Int):=by omega
      clear p0 b10;have a1:decide (0<nx)=true:=decide_eq_true hno;have b11:=(HC.out W1 HY.out.bel).1;go_wp2_with fail;clear b11
      go_region_held3 (fun U=>U.cell? ⟨w.heap.size+1,0,none⟩=some (.slice (some ⟨ba,oa,none⟩) nx cx)∧U.cell? ⟨ba,oa+j*7,none⟩=some (.string s)) (first | exact HC.out _ B9 | exact HC.out _ B8)
       ((go_at_call 35;(with_reducible refine(KQ.out _ B9).mono ?_);rintro e w' ⟨rfl,rfl⟩))
      go_wp2;go_meet;exact⟨rfl,_,HY2.out⟩
     ·have a1:decide (0<nx)=false:=decide_eq_false hno;go_wp2;go_meet;exact⟨rfl,_,HY.out⟩
    case rest =>
     obtain⟨rfl,r',hY⟩:=hcut;clear HY;obtain⟨W2,hW2⟩:∃W2,wc=W2:=⟨_,rfl⟩;rw[hW2]at hY⊢;clear hW2;have HY:=iH hY;clear hY;clear r;obtain⟨r,hr⟩:∃r,r'=r:=⟨_,rfl⟩;rw[hr]at HY;clear hr;obtain⟨W1,hW1⟩:∃W1,W2=W1:=⟨_,rfl⟩;rw[hW1]at HY⊢;clear hW1;go_wp2_with fail;(with_reducible refine(KP.out _ _ _ HY.out.bel (by omega) (by omega) (by omega) (by omega)).mono ?_);rintro e w' ⟨rfl,rfl⟩;have s0:=pick_lo zs ((a:Int)+4*(k:Int)+5) 12 (by omega);have s1:=pick_hi zs ((a:Int)+4*(k:Int)+5) 12 (by omega);generalize pick zs ((a:Int)+4*(k:Int)+5) 12=t12 at *;go_upto_if 85 with fail;go_cut [12] (fun b wx=>b=.int .i64 t12∧∃r,YAt V wx u9 k l g r)
     case first =>
      have x0:=HY.out.bx.k2;have y0:=HY.out.bx.frozen 2;have hg2:=HY.out.bx.lt;by_cases ht:t12=0
      ·subst ht;go_wp2_with fail;(with_reducible refine(KP.out _ _ _ HY.out.bel (by omega) (by omega) (by omega) (by omega)).mono ?_);rintro e w' ⟨rfl,rfl⟩;have v0:=pick_lo zs ((a:Int)+4*(k:Int)+6) 1200000 (by omega);have v1:=pick_hi zs ((a:Int)+4*(k:Int)+6) 1200000 (by omega);generalize pick zs ((a:Int)+4*(k:Int)+6) 1200000=p at *;have HY2:=iH (HY.out.set 2 (.int .i64 (p-10)) ⟨r.old,r.new,p-10,r.den⟩ rfl HY.out.okr);go_wp2;go_meet;exact⟨rfl,_,HY2.out⟩
      ·have e1:(t12 == 0)=false:=by simpa using ht
       go_wp2;go_meet;exact⟨rfl,_,HY.out⟩
     case rest =>
      obtain⟨rfl,r',hY⟩:=hcut;clear HY;obtain⟨W2,hW2⟩:∃W2,wc=W2:=⟨_,rfl⟩;rw[hW2]at hY⊢;clear hW2;have HY:=iH hY;clear hY;clear r;obtain⟨r,hr⟩:∃r,r'=r:=⟨_,rfl⟩;rw[hr]at HY;clear hr;obtain⟨W1,hW1⟩:∃W1,W2=W1:=⟨_,rfl⟩;rw[hW1]at HY⊢;clear hW1;go_upto_if 96 with fail;go_cut [12] (fun b wx=>b=.int .i64 t12∧∃r,YAt V wx u9 k l g r)
      case first =>
       have x0:=HY.out.bx.k0;have y0:=HY.out.bx.frozen 0;have hg2:=HY.out.bx.lt;have HY2:=iH (HY.out.set 0 (.string ⟨#[122,122]⟩) ⟨⟨#[122,122]⟩,r.new,r.num,r.den⟩ rfl ⟨by show(2:Nat)<=8192;omega,HY.out.okr.2⟩);by_cases ht:t12=1
       ·subst ht;go_wp2;go_meet;exact⟨rfl,_,HY2.out⟩
       ·have e1:(t12 == 1)=false:=by simpa using ht
        go_wp2;go_meet;exact⟨rfl,_,HY.out⟩
      case rest =>
       obtain⟨rfl,r',hY⟩:=hcut;clear HY;obtain⟨W2,hW2⟩:∃W2,wc=W2:=⟨_,rfl⟩;rw[hW2]at hY⊢;clear hW2;have HY:=iH hY;clear hY;clear r;obtain⟨r,hr⟩:∃r,r'=r:=⟨_,rfl⟩;rw[hr]at HY;clear hr;obtain⟨W1,hW1⟩:∃W1,W2=W1:=⟨_,rfl⟩;rw[hW1]at HY⊢;clear hW1;go_upto_if 99 with fail;go_cut [12] (fun b wx=>b=.int .i64 t12∧∃r,YAt V wx u9 k l g r)
       case first =>
        have x0:=HY.out.bx.k2;have y0:=HY.out.bx.frozen 2;have HY2:=iH (HY.out.set 2 (.int .i64 1) ⟨r.old,r.new,1,r.den⟩ rfl HY.out.okr);have x1:(W1.setCell ⟨g,2,none⟩ (.int .i64 1)).cell? ⟨g,3,none⟩=some (.int .i64 r.den):=HY2.out.bx.cell 3;have y1:=HY2.out.bx.frozen 3;have HY3:=iH (HY2.out.set 3 (.int .i64 1) ⟨r.old,r.new,1,1⟩ rfl HY.out.okr);have hg2:=HY.out.bx.lt;by_cases ht:7<t12
        ·go_wp2;go_meet;exact⟨rfl,_,HY3.out⟩
        ·go_wp2;go_meet;exact⟨rfl,_,HY.out⟩
       case rest =>
        obtain⟨rfl,r',hY⟩:=hcut;clear HY;obtain⟨W2,hW2⟩:∃W2,wc=W2:=⟨_,rfl⟩;rw[hW2]at hY⊢;clear hW2;have HY:=iH hY;clear hY;clear r;obtain⟨r,hr⟩:∃r,r'=r:=⟨_,rfl⟩;rw[hr]at HY;clear hr;obtain⟨W1,hW1⟩:∃W1,W2=W1:=⟨_,rfl⟩;rw[hW1]at HY⊢;clear hW1;have x0:=HY.out.bx.k0;have x1:=HY.out.bx.k1;have x2:=HY.out.bx.k2;have x3:=HY.out.bx.k3;have hg2:=HY.out.bx.lt;have hs8:=HY.out.bel.size;go_wp2_with(at_builtin;refine wpList_append_own_at _ rfl _ _ 31 rfl V.heap.size 87 i0 (.agg #[.string ⟨#[]⟩,.string ⟨#[]⟩,.int .i64 0,.int .i64 0]) 4 48 Tryz.underlying31 hi hz0 hz1 hz2 rfl (by decide) _ k (rcells l) rfl (HY.out.own.alloc _) ⟨W1.heap.size,0,none⟩ 1 1 [.string r.old,.string r.new,.int .i64 r.num,.int .i64 r.den] rfl rfl (new4 _ _ _ _ _ _) (one4 _ _ _ _) (by unfold maxLen;omega) (by omega) (by simp;omega) ?_);intro v' w9 hown' hgrow _ _;have hb9:Below V.heap.size V w9:=(HY.out.bel.alloc hs8 _).grown hgrow (by simp;omega) (row_base HY.out.own);have HO1:=iH hown';clear hown' hgrow;go_wp2;go_roundw
        case rel =>
         refine⟨k+1,l ++ [r],by omega,by go_num,by rw[rcells_snoc];exact HO1.out,?_,?_,hb9⟩
         ·rw[List.length_append,<- HLen.out];rfl
         ·intro x hx;rcases List.mem_append.1 hx with h1|h1
          ·exact HFit.out x h1
          ·rw[List.mem_singleton.1 h1];exact HY.out.okr
        case measure=>simp[intOf];omega
  ·have hr:wr.ownsRow V.heap.size 87 4 u9 k (rcells l):=HOw.out;obtain⟨A',c',hv,hrow⟩:=row_of_owns hr;rw[hv]at hr⊢;have HRow:=iH hrow;have HRt:=iH (TRow.of_own hr);clear hv hr hrow;go_wp2;go_ret;refine⟨A',k,c',l,rfl,⟨HRow.out,HLen.out,by omega,fun j hj=>?_⟩,hk,HX.out.trans (HB.out.mono HX.out.size),HRt.out⟩;have hm:renAt l j∈l:=by
    have hjl:j<l.length:=by have:=HLen.out;omega
    simp[renAt,hjl]
   exact⟨size_max (HFit.out _ hm).1,size_max (HFit.out _ hm).2⟩
end
end Go.Proofs.YthjfdfdgbpbanaaGreatDoor
