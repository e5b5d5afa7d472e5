/- The reference's New on valid catalogs whose names differ. -/
import Derived.Test.YthjfdfdgbpbanaaGreatDoorX13
import Derived.Test.YthjfdfdgbpbanaaGreatDoorX17
import Derived.Deep.CutBlock
import Derived.Deep.DeepCutAuto
import Derived.Deep.RegionHeld3
import Derived.BigQuiet
import Derived.Maps.AppendAt
set_option linter.unusedVariables false
set_option linter.unusedSimpArgs false
set_option maxRecDepth 100000
set_option maxHeartbeats 8000000
open Go.RowKit
namespace Go.Proofs.YthjfdfdgbpbanaaGreatDoor
section
structure RnAt (w V : World) (io ro to_ xo ix rx tx xx R : Sl) (lo ln : List It) (rs : List Ren) : Prop where
 b1:Bk V w.heap.size 28 (catSL io ro to_ xo)
 b2:Bk V (w.heap.size+1) 28 (catSL ix rx tx xx)
 li:ItsR V io.A io.n lo
 lx:ItsR V ix.A ix.n ln
 lr:RensV V R.A R.n rs
 bel:Below w.heap.size w V
theorem RnAt.below {w V V':World} {io ro to_ xo ix rx tx xx R:Sl} {lo ln:List It} {rs:List Ren} (h:RnAt w V io ro to_ xo ix rx tx xx R lo ln rs) (hb:Below V.heap.size V V'):RnAt w V' io ro to_ xo ix rx tx xx R lo ln rs :=
 ⟨h.b1.below hb h.b1.lt,h.b2.below hb h.b2.lt,h.li.below hb,h.lx.below hb,h.lr.below hb,h.bel.trans (hb.mono h.bel.size)⟩
theorem markTo_stays {rs:List Ren} {s:ByteArray} {k:Nat} (h:markTo rs s k=true):∀m,k<=m->markTo rs s m=true:=by
 intro m hm
 induction m with
 | zero => obtain rfl : k = 0 := by omega
           exact h
 | succ m ih =>
   by_cases e:k=m+1
   ·subst e;exact h
   ·simp only[markTo,ih (by omega),Bool.true_or]
theorem renErr_none1 {lo ln:List It} {ren:List Bool} {r:Ren} (h:idxTo lo lo.length r.old=none):renErr lo ln ren r=6:=by unfold renErr;rw[h]
theorem renErr_none2 {lo ln:List It} {ren:List Bool} {r:Ren} (h:idxTo ln ln.length r.new=none):renErr lo ln ren r=6:=by
 unfold renErr;rw[h];cases idxTo lo lo.length r.old <;> rfl
theorem renErr_some {lo ln:List It} {ren:List Bool} {r:Ren} {a b:Nat} (h:idxTo lo lo.length r.old=some a) (h2:idxTo ln ln.length r.new=some b):renErr lo ln ren r=if bAt ren a=true then 8 else if factorB r=false then 5 else if typeB (itAt lo a) (itAt ln b) r=false then 9 else 0:=by
 unfold renErr;rw[h,h2]
theorem factorB_two (o n:ByteArray) (x y:Int):factorB ⟨o,n,x,y⟩=(decide (1<=x∧x<=1048576) && decide (1<=y∧y<=1048576)):=by
 unfold factorB;dsimp only;by_cases h1:1<=x <;> by_cases h2:x<=1048576 <;> by_cases h3:1<=y <;> by_cases h4:y<=1048576 <;> simp[h1,h2,h3,h4]
structure XAt (V W : World) (v : Value) (n : Nat) (l : List Tr) (g : Nat) (t : Tr) : Prop where
 own:W.ownsRow V.heap.size 68 3 v n (tcells l)
 bx:Bk W g 68 [.int .i64 t.1,.int .i64 t.2.1,.int .i64 t.2.2]
 ne:v.ownBlock≠some g
 ge:V.heap.size<=g
 bel:Below V.heap.size V W
section
variable {V W W' : World} {v : Value} {n : Nat} {l : List Tr} {g : Nat} {t : Tr}
theorem XAt.below (h:XAt V W v n l g t) (hb:Below W.heap.size W W'):XAt V W' v n l g t :=
 ⟨h.own.kept (grown_of_below hb (some g)) (.inr h.ne),h.bx.below hb h.bx.lt,h.ne,h.ge,h.bel.trans (hb.mono h.bel.size)⟩
theorem XAt.set1 (h:XAt V W v n l g t) (u:Int):XAt V (W.setCell ⟨g,0,none⟩ (.int .i64 u)) v n l g (u,t.2.1,t.2.2):=by
 have hg:=grown_setCell W g 0 (.int .i64 u);exact⟨h.own.kept hg (.inr h.ne),h.bx.set 0 _,h.ne,h.ge,h.bel.setCell h.ge _⟩
theorem XAt.set2 (h:XAt V W v n l g t) (u:Int):XAt V (W.setCell ⟨g,1,none⟩ (.int .i64 u)) v n l g (t.1,u,t.2.2):=by
 have hg:=grown_setCell W g 1 (.int .i64 u);exact⟨h.own.kept hg (.inr h.ne),h.bx.set 1 _,h.ne,h.ge,h.bel.setCell h.ge _⟩
theorem XAt.set3 (h:XAt V W v n l g t) (u:Int):XAt V (W.setCell ⟨g,2,none⟩ (.int .i64 u)) v n l g (t.1,t.2.1,u):=by
 have hg:=grown_setCell W g 2 (.int .i64 u);exact⟨h.own.kept hg (.inr h.ne),h.bx.set 2 _,h.ne,h.ge,h.bel.setCell h.ge _⟩
theorem XAt.put (h:XAt V W v n l g t) (u:Tr):XAt V (((W.setCell ⟨g,0,none⟩ (.int .i64 u.1)).setCell ⟨g,1,none⟩ (.int .i64 u.2.1)).setCell ⟨g,2,none⟩ (.int .i64 u.2.2)) v n l g u :=
 ((h.set1 u.1).set2 u.2.1).set3 u.2.2
end
def xL (lo ln:List It) (rs:List Ren) (k:Nat):List Tr:=(List.range k).map fun i=>xTo lo ln rs i rs.length
theorem xL_succ (lo ln:List It) (rs:List Ren) (k:Nat):xL lo ln rs (k+1)=xL lo ln rs k ++ [xTo lo ln rs k rs.length]:=by simp[xL,List.range_succ]
@[simp] theorem xL_length (lo ln : List It) (rs : List Ren) (k : Nat) : (xL lo ln rs k).length = k := by simp [xL]
theorem rNew_valid {w : World} {io ro to_ xo ix rx tx xx R : Sl} {lo ln : List It} {rs : List Ren} (ho : ItsR w io.A io.n lo) (hn : ItsR w ix.A ix.n ln) (hr : RensV w R.A R.n rs) (hd : Dist lo) (hdn : Dist ln)
 (HV:Hid (∀W:World,Below w.heap.size w W->Calls Tryz.prog 46 #[catS io ro to_ xo,catS ix rx tx xx] W fun e w'=>e=.returned (.int .i64 0)∧Below W.heap.size W w')) :
 Calls Tryz.prog 14 #[catS io ro to_ xo,catS ix rx tx xx,.slice R.A R.n R.c] w (NewPost w lo ln rs):=by
 obtain⟨i0,hi,hz0,hz1,hz2⟩:=info_parts info68;have so:=ho.small;have sn:=hn.small;have sr:=hr.small;have Hlo:=iH ho.len;have Hln:=iH hn.len;have Hlr:=iH hr.len;have X0:Below w.heap.size w ((w.alloc (catSO io ro to_ xo)).alloc (catSO ix rx tx xx)):=((Below.refl _ _).alloc (Nat.le_refl _) _).alloc (by simp) _;have kx:=Bk.new (w.alloc (catSO io ro to_ xo)) 28 (catSL ix rx tx xx);rw[World.size_alloc]at kx;have HA0:Hid (RnAt w ((w.alloc (catSO io ro to_ xo)).alloc (catSO ix rx tx xx)) io ro to_ xo ix rx tx xx R lo ln rs) :=
  ⟨(Bk.new w 28 (catSL io ro to_ xo)).alloc _,kx,ho.below X0,hn.below X0,hr.below X0,X0⟩
 have K0:=iH (HV.out _ X0);have HFo:Hid (∀s,fstI lo s=idxTo lo lo.length s):=fun s=>fst_eq hd s
 have HFn:Hid (∀s,fstI ln s=idxTo ln ln.length s):=fun s=>fst_eq hdn s
 have HMk:Hid (∀k,renE lo ln rs k=0->∀i,i<lo.length->bAt (renTo lo ln rs k).1 i=markTo rs (itAt lo i).name k):=fun k h i hi=>(ren_marks hd hdn h i hi).1
 have HEnd:Hid (renE lo ln rs rs.length=0->∀i,i<lo.length->endAt lo ln (renTo lo ln rs rs.length) i=xTo lo ln rs i rs.length∧bAt (renTo lo ln rs rs.length).1 i=markTo rs (itAt lo i).name rs.length):=fun h i hi=>end_x hd hdn h i hi
 clear ho hn hr hd hdn X0 kx HV;go_enter Tryz.func14,Tryz.ntmps14;go_wp2_with fail;(with_reducible refine K0.out.mono ?_);rintro e V1 ⟨rfl,hb⟩;have HA1:=iH (HA0.out.below hb);clear hb K0 HA0;go_upto_block 0 with fail;go_cut [9] (fun _ wx=>renE lo ln rs rs.length=0∧RnAt w wx io ro to_ xo ix rx tx xx R lo ln rs)
 case first => as_aux_lemma =>
  obtain⟨AR,nR,cR⟩:=R;obtain⟨Ao,no,co⟩:=io;obtain⟨Ax,nx,cx⟩:=ix;dsimp only at *;go_wp2_with fail;go_loopw [9] (fun i wr=>∃k:Nat,k<=nR∧i=.int .i64 k∧renE lo ln rs k=0∧RnAt w wr ⟨Ao,no,co⟩ ro to_ xo ⟨Ax,nx,cx⟩ rx tx xx ⟨AR,nR,cR⟩ lo ln rs) (fun i _=>nR-(intOf i).toNat)
  case atStart=>exact⟨0,Nat.zero_le _,rfl,rfl,HA1.out⟩
  case round =>
   obtain⟨k,hk,rfl,hE,hA⟩:=hrel;have HE:=iH hE;have HA:=iH hA;clear hE hA HA1;by_cases hlt:k<nR
   ·have hkl:k<rs.length:=by have:=Hlr.out;omega
    have hAt:=HA.out.lr.at_ k hlt;dsimp only at hAt;obtain⟨b,off,rfl,hbb,c0,c1,c2,c3⟩:=hAt;have HErr:Hid (renErr lo ln (renTo lo ln rs k).1 (renAt rs k)≠0->newE lo ln rs=renErr lo ln (renTo lo ln rs k).1 (renAt rs k)):=fun h=>newE_ren hkl HE.out h
    have HOk:Hid (renErr lo ln (renTo lo ln rs k).1 (renAt rs k)=0->renE lo ln rs (k+1)=0):=fun h=>by simp only[renE];rw[if_neg (by have:=HE.out;omega),h]
    have HMk1:=iH (HMk.out k HE.out);generalize(renTo lo ln rs k).1=ren at *;have hfo:=HFo.out (renAt rs k).old;have hfn:=HFn.out (renAt rs k).new;have HD1:Hid (∀a,idxTo lo lo.length (renAt rs k).old=some a->a<no∧(itAt lo a).name=(renAt rs k).old):=fun a h=>by have:=idxTo_lt h;have e:=Hlo.out;exact⟨by omega,this.2⟩
    have HD2:Hid (∀b,idxTo ln ln.length (renAt rs k).new=some b->b<nx):=fun b h=>by have:=idxTo_lt h;have e:=Hln.out;omega
    have HE1:Hid (idxTo lo lo.length (renAt rs k).old=none->renErr lo ln ren (renAt rs k)=6):=renErr_none1;have HE2:Hid (idxTo ln ln.length (renAt rs k).new=none->renErr lo ln ren (renAt rs k)=6):=renErr_none2;have HE3:Hid (∀a b,idxTo lo lo.length (renAt rs k).old=some a->idxTo ln ln.length (renAt rs k).new=some b->renErr lo ln ren (renAt rs k)=if bAt ren a=true then 8 else if factorB (renAt rs k)=false then 5 else if typeB (itAt lo a) (itAt ln b) (renAt rs k)=false then 9 else 0):=fun a b h1 h2=>renErr_some h1 h2
    generalize renErr lo ln ren (renAt rs k)=E at *;obtain⟨r,hr⟩:∃r,renAt rs k=r:=⟨_,rfl⟩;rw[hr]at c0 c1 c2 c3 hfo hfn HD1 HD2 HE1 HE2 HE3;have Hr:=iH hr;clear hr hkl;obtain⟨old,new,num,den⟩:=r;dsimp only at *;generalize idxTo lo lo.length old=fo at *;generalize idxTo ln ln.length new=fn at *;have HC:Hid (∀U:World,Below wr.heap.size wr U->(U.cell? ⟨w.heap.size,0,none⟩=some (.slice Ao no co)∧U.cell? ⟨w.heap.size,1,none⟩=some (.slice ro.A ro.n ro.c)∧U.cell? ⟨w.heap.size,2,none⟩=some (.slice to_.A to_.n to_.c)∧U.cell? ⟨w.heap.size,3,none⟩=some (.slice xo.A xo.n xo.c))∧U.cell? ⟨b,off+k*4,none⟩=some (.string old)):=fun U hU=>by
     have hk1:=(HA.out.below hU).b1;exact⟨⟨hk1.cell 0,hk1.cell 1,hk1.cell 2,hk1.cell 3⟩,(hU.cell (p:=⟨b,_,none⟩) hbb).trans c0⟩
    have HC2:Hid (∀U:World,Below wr.heap.size wr U->(U.cell? ⟨w.heap.size+1,0,none⟩=some (.slice Ax nx cx)∧U.cell? ⟨w.heap.size+1,1,none⟩=some (.slice rx.A rx.n rx.c)∧U.cell? ⟨w.heap.size+1,2,none⟩=some (.slice tx.A tx.n tx.c)∧U.cell? ⟨w.heap.size+1,3,none⟩=some (.slice xx.A xx.n xx.c))∧U.cell? ⟨b,off+k*4+1,none⟩=some (.string new)):=fun U hU=>by
     have hk1:=(HA.out.below hU).b2;exact⟨⟨hk1.cell 0,hk1.cell 1,hk1.cell 2,hk1.cell 3⟩,(hU.cell (p:=⟨b,_,none⟩) hbb).trans c1⟩
    have KA:Hid (∀W,Below wr.heap.size wr W->Calls Tryz.prog 47 #[.agg #[.slice Ao no co,.slice ro.A ro.n ro.c,.slice to_.A to_.n to_.c,.slice xo.A xo.n xo.c],.string old] W fun e w'=>e=.returned (.tuple #[.int .i64 ((fo.getD 0:Nat):Int),.bool fo.isSome])∧Below W.heap.size W w'):=fun W hW=>by
     have:=ritem_any (i:=⟨Ao,no,co⟩) (r:=ro) (t:=to_) (x:=xo) (HA.out.below hW).li old;unfold ItemPost at this;rw[hfo]at this;exact this
    have KB:Hid (∀W,Below wr.heap.size wr W->Calls Tryz.prog 47 #[.agg #[.slice Ax nx cx,.slice rx.A rx.n rx.c,.slice tx.A tx.n tx.c,.slice xx.A xx.n xx.c],.string new] W fun e w'=>e=.returned (.tuple #[.int .i64 ((fn.getD 0:Nat):Int),.bool fn.isSome])∧Below W.heap.size W w'):=fun W hW=>by
     have:=ritem_any (i:=⟨Ax,nx,cx⟩) (r:=rx) (t:=tx) (x:=xx) (HA.out.below hW).lx new;unfold ItemPost at this;rw[hfn]at this;exact this
    have B0:Below wr.heap.size wr wr:=Below.refl _ _;have kk0:(0:Int)<=(k:Int):=by omega
    have kk1:(k:Int)<(nR:Int):=by omega
    clear c0 c1 hfo hfn;go_wp2_with fail
    go_region_held3 (fun U=>(U.cell? ⟨w.heap.size,0,none⟩=some (.slice Ao no co)∧U.cell? ⟨w.heap.size,1,none⟩=some (.slice ro.A ro.n ro.c)∧U.cell? ⟨w.heap.size,2,none⟩=some (.slice to_.A to_.n to_.c)∧U.cell? ⟨w.heap.size,3,none⟩=some (.slice xo.A xo.n xo.c))∧U.cell? ⟨b,off+k*4,none⟩=some (.string old)) (first | exact HC.out _ B0.drew | exact HC.out _ B1)
     ((go_at_call 47;(with_reducible refine(KA.out _ B0.drew).mono ?_);rintro e w1 ⟨rfl,hba⟩;have B1:=B0.drew.trans (hba.mono B0.size)))
    clear hba B0 KA HC;go_wp2_with fail
    go_region_held3 (fun U=>(U.cell? ⟨w.heap.size+1,0,none⟩=some (.slice Ax nx cx)∧U.cell? ⟨w.heap.size+1,1,none⟩=some (.slice rx.A rx.n rx.c)∧U.cell? ⟨w.heap.size+1,2,none⟩=some (.slice tx.A tx.n tx.c)∧U.cell? ⟨w.heap.size+1,3,none⟩=some (.slice xx.A xx.n xx.c))∧U.cell? ⟨b,off+k*4+1,none⟩=some (.string new)) (first | exact HC2.out _ B1.drew | exact HC2.out _ B2)
     ((go_at_call 47;(with_reducible refine(KB.out _ B1.drew).mono ?_);rintro e w2 ⟨rfl,hbb2⟩;have B2:=B1.drew.trans (hbb2.mono B1.size)))
    clear hbb2 B1 KB HC2;have HA2:=iH (HA.out.below B2);have d2:w2.cell? ⟨b,off+k*4+2,none⟩=some (.int .i64 num):=(B2.cell (p:=⟨b,_,none⟩) hbb).trans c2;have d3:w2.cell? ⟨b,off+k*4+3,none⟩=some (.int .i64 den):=(B2.cell (p:=⟨b,_,none⟩) hbb).trans c3;have hbl:b<w2.heap.size:=Nat.lt_of_lt_of_le hbb B2.size;clear c2 c3 B2 HA;rcases fo with _|a
    ·have HQ:Hid (newE lo ln rs=6):=by show _=_;rw[HErr.out (by rw[HE1.out rfl];omega),HE1.out rfl]
     clear HErr HOk HMk1 HD1 HD2 HE1 HE2 HE3;go_wp2;exact bodyPost_ret (v:=.tuple #[.slice none 0 0,.int .i64 6]) (by simp[results,Tryz.results14,go_sem]) rfl (newPost_err HQ.out (by omega) HA2.out.bel)
    rcases fn with _|a2
    ·have HQ:Hid (newE lo ln rs=6):=by show _=_;rw[HErr.out (by rw[HE2.out rfl];omega),HE2.out rfl]
     clear HErr HOk HMk1 HD1 HD2 HE1 HE2 HE3;go_wp2;exact bodyPost_ret (v:=.tuple #[.slice none 0 0,.int .i64 6]) (by simp[results,Tryz.results14,go_sem]) rfl (newPost_err HQ.out (by omega) HA2.out.bel)
    obtain⟨ha,hnm⟩:=HD1.out a rfl;have ha2:=HD2.out a2 rfl;have HE4:=iH (HE3.out a a2 rfl rfl);have HM:Hid (bAt ren a=markTo rs old k):=by show _=_;rw[HMk1.out a (by have:=Hlo.out;omega),hnm]
    rw[HM.out]at HE4;clear HE1 HE2 HE3 HD1 HD2 HMk1 HM hnm;simp only[Option.getD_some,Option.isSome_some];obtain⟨V3,hV3⟩:∃V3,w2=V3:=⟨_,rfl⟩;rw[hV3]at HA2 d2 d3 hbl⊢;clear hV3;go_wp2_with fail;go_loopw [14] (fun i wx=>∃q:Nat,q<=k∧i=.int .i64 q∧markTo rs old q=false∧Below V3.heap.size V3 wx) (fun i _=>k-(intOf i).toNat)
    case atStart=>exact⟨0,Nat.zero_le _,rfl,rfl,Below.refl _ _⟩
    case round =>
     obtain⟨q,hq,rfl,hM,hb⟩:=hrel;have HM:=iH hM;have HB:=iH hb;clear hM;have HAx:=iH (HA2.out.below hb);by_cases hltq:q<k
     ·have hAq:=HAx.out.lr.at_ q (show q<nR by omega);have hAk:=HAx.out.lr.at_ k hlt;dsimp only at hAq hAk;obtain⟨b',off',e',hbb',c0,_⟩:=hAq;cases e';obtain⟨b'',off'',e'',_,g0,_⟩:=hAk;cases e'';rw[Hr.out]at g0;dsimp only at g0;have HM1:Hid ((renAt rs q).old=old->markTo rs old k=true):=fun h=>markTo_stays (k:=q+1) (by simp only[markTo,decide_eq_true h,Bool.or_true]) _ (by omega)
      have HM2:Hid (¬ (renAt rs q).old=old->markTo rs old (q+1)=false):=fun h=>by simp only[markTo,HM.out,decide_eq_false h,Bool.or_false]
      generalize(renAt rs q).old=y at *;have qq0:(0:Int)<=(q:Int):=by omega
      have qq1:(q:Int)<(nR:Int):=by omega
      clear hb;by_cases hy:y=old
      ·have HQ:Hid (newE lo ln rs=8):=by
        have h1:E=8:=by rw[HE4.out,HM1.out hy,if_pos rfl]
        show _=_;rw[HErr.out (by omega),h1]
       subst hy;clear HErr HOk HM1 HM2 HE4;go_wp2_with fail;go_quiet (fail);go_wp2;exact bodyPost_ret (v:=.tuple #[.slice none 0 0,.int .i64 8]) (by simp[results,Tryz.results14,go_sem]) rfl (newPost_err HQ.out (by omega) (bel_drewN HAx.out.bel _))
      ·have HQ:=iH (HM2.out hy);have q2:(y.toList == old.toList)=false:=by
        simp only[beq_eq_false_iff_ne,ne_eq,ByteArray.toList_eq];exact fun e=>hy (bytes_eq e)
       have q1:(y == old)=false:=by rw[beq_toListBytes];exact q2
       clear HM1 HM2;go_wp2_with fail;go_quiet (fail);go_wp2;go_roundw
       case rel=>exact⟨q+1,by omega,by go_num,HQ.out,bel_drewN HB.out _⟩
       case measure=>simp[intOf];omega
     ·obtain rfl:k=q:=by omega
      rw[HM.out,if_neg (by simp)]at HE4;clear HA2 d2 d3 hbl HB HM;have hAk:=HAx.out.lr.at_ k hlt;dsimp only at hAk;obtain⟨b'',off'',e'',hbl,_,_,d2,d3⟩:=hAk;cases e'';rw[Hr.out]at d2 d3;dsimp only at d2 d3;have hfB:=factorB_two old new num den;have hAa:=HAx.out.li.at_ a ha;have hAb:=HAx.out.lx.at_ a2 ha2;dsimp only at hAa hAb;obtain⟨ba,oa,rfl,hba,p0,p1,p2,p3,p4,p5,p6⟩:=hAa;obtain⟨bb,ob,rfl,hbb',r0,r1,r2,r3,r4,r5,r6⟩:=hAb;have HT:Hid (typeB (itAt lo a) (itAt ln a2) ⟨old,new,num,den⟩=(alikeB (itAt lo a) (itAt ln a2) && (!(itAt lo a).object || (num == 1 && den == 1)))):=rfl;have KC:Hid (∀W,Calls Tryz.prog 49 #[(itAt lo a).val,(itAt ln a2).val] W fun e w'=>e=.returned (.bool (alikeB (itAt lo a) (itAt ln a2)))∧Below W.heap.size W w'):=fun W=>ralike_any _ _ W
      generalize itAt lo a=ta at *;generalize itAt ln a2=tb at *;generalize typeB ta tb ⟨old,new,num,den⟩=TB at *;obtain⟨n1,o1,m1,k1,w1',b1',l1⟩:=ta;generalize alikeB ⟨n1,o1,m1,k1,w1',b1',l1⟩ tb=AL at *;obtain⟨n2,o2,m2,k2,w2',b2',l2⟩:=tb;dsimp only at *;generalize factorB ⟨old,new,num,den⟩=FB at *;have HFB:=iH hfB;have hb1:=HAx.out.b1;have hb2:=HAx.out.b2;have u0:=hb1.k0;have v0:=hb2.k0;have lu:=hb1.lt;have lv:=hb2.lt;clear hb hfB hb1 hb2;have aa0:(0:Int)<=(a:Int):=by omega
      have aa1:(a:Int)<(no:Int):=by omega
      have bb0:(0:Int)<=(a2:Int):=by omega
      have bb1:(a2:Int)<(nx:Int):=by omega
      go_wp2_with fail;(with_reducible refine(factor_any _ num).mono ?_);rintro e w' ⟨rfl,rfl⟩;generalize decide (1<=num∧num<=1048576)=f1 at *;cases f1
      ·have HQ:Hid (newE lo ln rs=5):=by
        have h1:E=5:=by rw[HE4.out,HFB.out];rfl
        show _=_;rw[HErr.out (by omega),h1]
       clear HErr HOk HE4 HFB HT KC;go_wp2;exact bodyPost_ret (v:=.tuple #[.slice none 0 0,.int .i64 5]) (by simp[results,Tryz.results14,go_sem]) rfl (newPost_err HQ.out (by omega) HAx.out.bel)
      go_wp2_with fail;(with_reducible refine(factor_any _ den).mono ?_);rintro e w' ⟨rfl,rfl⟩;generalize decide (1<=den∧den<=1048576)=f2 at *;cases f2
      ·have HQ:Hid (newE lo ln rs=5):=by
        have h1:E=5:=by rw[HE4.out,HFB.out];rfl
        show _=_;rw[HErr.out (by omega),h1]
       clear HErr HOk HE4 HFB HT KC;go_wp2;exact bodyPost_ret (v:=.tuple #[.slice none 0 0,.int .i64 5]) (by simp[results,Tryz.results14,go_sem]) rfl (newPost_err HQ.out (by omega) HAx.out.bel)
      rw[HFB.out,Bool.true_and,if_neg (by simp),HT.out]at HE4;clear HFB HT;have B0:Below wr.heap.size wr wr:=Below.refl _ _;have hE9:∀c:Bool,E=(if c=false then 9 else 0)->(c=false->newE lo ln rs=9)∧(c=true->renE lo ln rs (k+1)=0):=fun c h=>⟨fun hc=>by rw[hc,if_pos rfl]at h;rw[HErr.out (by omega),h],fun hc=>by rw[hc]at h;exact HOk.out (by rw[h];rfl)⟩
      have HE5:=iH (hE9 _ HE4.out);clear hE9 HE4 HErr HOk;cases AL
      ·have HQ:=iH (HE5.out.1 rfl);clear HE5;have HC:Hid (∀U:World,Below wr.heap.size wr U->(U.cell? ⟨w.heap.size,0,none⟩=some (.slice (some ⟨ba,oa,none⟩) no co)∧U.cell? ⟨w.heap.size+1,0,none⟩=some (.slice (some ⟨bb,ob,none⟩) nx cx))∧(U.cell? ⟨ba,oa+a*7,none⟩=some (.string n1)∧U.cell? ⟨ba,oa+a*7+1,none⟩=some (.bool o1)∧U.cell? ⟨ba,oa+a*7+2,none⟩=some (.bool m1)∧U.cell? ⟨ba,oa+a*7+3,none⟩=some (.bool k1)∧U.cell? ⟨ba,oa+a*7+4,none⟩=some (.int .i64 w1')∧U.cell? ⟨ba,oa+a*7+5,none⟩=some (.int .i64 b1')∧U.cell? ⟨ba,oa+a*7+6,none⟩=some (.int .i64 l1))∧(U.cell? ⟨bb,ob+a2*7,none⟩=some (.string n2)∧U.cell? ⟨bb,ob+a2*7+1,none⟩=some (.bool o2)∧U.cell? ⟨bb,ob+a2*7+2,none⟩=some (.bool m2)∧U.cell? ⟨bb,ob+a2*7+3,none⟩=some (.bool k2)∧U.cell? ⟨bb,ob+a2*7+4,none⟩=some (.int .i64 w2')∧U.cell? ⟨bb,ob+a2*7+5,none⟩=some (.int .i64 b2')∧U.cell? ⟨bb,ob+a2*7+6,none⟩=some (.int .i64 l2))∧(U.cell? ⟨b,off+k*4+2,none⟩=some (.int .i64 num)∧U.cell? ⟨b,off+k*4+3,none⟩=some (.int .i64 den))):=fun U hU=>⟨⟨(hU.cell (p:=⟨w.heap.size,0,none⟩) lu).trans u0,(hU.cell (p:=⟨w.heap.size+1,0,none⟩) lv).trans v0⟩,⟨(hU.cell (p:=⟨ba,_,none⟩) hba).trans p0,(hU.cell (p:=⟨ba,_,none⟩) hba).trans p1,(hU.cell (p:=⟨ba,_,none⟩) hba).trans p2,(hU.cell (p:=⟨ba,_,none⟩) hba).trans p3,(hU.cell (p:=⟨ba,_,none⟩) hba).trans p4,(hU.cell (p:=⟨ba,_,none⟩) hba).trans p5,(hU.cell (p:=⟨ba,_,none⟩) hba).trans p6⟩,⟨(hU.cell (p:=⟨bb,_,none⟩) hbb').trans r0,(hU.cell (p:=⟨bb,_,none⟩) hbb').trans r1,(hU.cell (p:=⟨bb,_,none⟩) hbb').trans r2,(hU.cell (p:=⟨bb,_,none⟩) hbb').trans r3,(hU.cell (p:=⟨bb,_,none⟩) hbb').trans r4,(hU.cell (p:=⟨bb,_,none⟩) hbb').trans r5,(hU.cell (p:=⟨bb,_,none⟩) hbb').trans r6⟩,⟨(hU.cell (p:=⟨b,_,none⟩) hbl).trans d2,(hU.cell (p:=⟨b,_,none⟩) hbl).trans d3⟩⟩
       clear p0 p1 p2 p3 p4 p5 p6 r0 r1 r2 r3 r4 r5 r6 d2 d3 u0 v0;obtain⟨⟨s1,s2⟩,⟨s3,s4,s5,s6,s7,s8,s9⟩,⟨s10,s11,s12,s13,s14,s15,s16⟩,s17,s18⟩:=HC.out wr B0;go_wp2_with fail;refine wp_region_mid 10 (by kernel_rfl) (by kernel_rfl) ?_;simp only[List.take_succ_cons,List.take_zero,List.drop_succ_cons,List.drop_zero]
       repeat still_step
       try refine wpStill_nil ?_
       go_wp2_with fail;(with_reducible refine(KC.out _).mono ?_);rintro e w4 ⟨rfl,hb4⟩;have B1:=B0.drew.trans (hb4.mono B0.size);clear s1 s2 s3 s4 s5 s6 s7 s8 s9 s10 s11 s12 s13 s14 s15 s16 s17 s18;obtain⟨⟨s1,s2⟩,⟨s3,s4,s5,s6,s7,s8,s9⟩,⟨s10,s11,s12,s13,s14,s15,s16⟩,s17,s18⟩:=HC.out w4 B1;go_wp2_with fail
       repeat (go_big_quiet_step (fail))
       refine wpQuiet_nil ?_;intro _ hw';obtain⟨nq,hw''⟩:=hw';subst hw'';have HA4:=iH (HAx.out.below (bel_drewN B1 nq));clear s1 s2 s3 s4 s5 s6 s7 s8 s9 s10 s11 s12 s13 s14 s15 s16 s17 s18 hb4 B0 B1 KC HC;generalize w4.drewN nq=X4 at *;go_wp2;exact bodyPost_ret (v:=.tuple #[.slice none 0 0,.int .i64 9]) (by simp[results,Tryz.results14,go_sem]) rfl (newPost_err HQ.out (by omega) HA4.out.bel)
      cases o1
      ·have HQ:=iH (HE5.out.2 rfl);clear HE5;have HC:Hid (∀U:World,Below wr.heap.size wr U->(U.cell? ⟨w.heap.size,0,none⟩=some (.slice (some ⟨ba,oa,none⟩) no co)∧U.cell? ⟨w.heap.size+1,0,none⟩=some (.slice (some ⟨bb,ob,none⟩) nx cx))∧(U.cell? ⟨ba,oa+a*7,none⟩=some (.string n1)∧U.cell? ⟨ba,oa+a*7+1,none⟩=some (.bool false)∧U.cell? ⟨ba,oa+a*7+2,none⟩=some (.bool m1)∧U.cell? ⟨ba,oa+a*7+3,none⟩=some (.bool k1)∧U.cell? ⟨ba,oa+a*7+4,none⟩=some (.int .i64 w1')∧U.cell? ⟨ba,oa+a*7+5,none⟩=some (.int .i64 b1')∧U.cell? ⟨ba,oa+a*7+6,none⟩=some (.int .i64 l1))∧(U.cell? ⟨bb,ob+a2*7,none⟩=some (.string n2)∧U.cell? ⟨bb,ob+a2*7+1,none⟩=some (.bool o2)∧U.cell? ⟨bb,ob+a2*7+2,none⟩=some (.bool m2)∧U.cell? ⟨bb,ob+a2*7+3,none⟩=some (.bool k2)∧U.cell? ⟨bb,ob+a2*7+4,none⟩=some (.int .i64 w2')∧U.cell? ⟨bb,ob+a2*7+5,none⟩=some (.int .i64 b2')∧U.cell? ⟨bb,ob+a2*7+6,none⟩=some (.int .i64 l2))∧(U.cell? ⟨b,off+k*4+2,none⟩=some (.int .i64 num)∧U.cell? ⟨b,off+k*4+3,none⟩=some (.int .i64 den))):=fun U hU=>⟨⟨(hU.cell (p:=⟨w.heap.size,0,none⟩) lu).trans u0,(hU.cell (p:=⟨w.heap.size+1,0,none⟩) lv).trans v0⟩,⟨(hU.cell (p:=⟨ba,_,none⟩) hba).trans p0,(hU.cell (p:=⟨ba,_,none⟩) hba).trans p1,(hU.cell (p:=⟨ba,_,none⟩) hba).trans p2,(hU.cell (p:=⟨ba,_,none⟩) hba).trans p3,(hU.cell (p:=⟨ba,_,none⟩) hba).trans p4,(hU.cell (p:=⟨ba,_,none⟩) hba).trans p5,(hU.cell (p:=⟨ba,_,none⟩) hba).trans p6⟩,⟨(hU.cell (p:=⟨bb,_,none⟩) hbb').trans r0,(hU.cell (p:=⟨bb,_,none⟩) hbb').trans r1,(hU.cell (p:=⟨bb,_,none⟩) hbb').trans r2,(hU.cell (p:=⟨bb,_,none⟩) hbb').trans r3,(hU.cell (p:=⟨bb,_,none⟩) hbb').trans r4,(hU.cell (p:=⟨bb,_,none⟩) hbb').trans r5,(hU.cell (p:=⟨bb,_,none⟩) hbb').trans r6⟩,⟨(hU.cell (p:=⟨b,_,none⟩) hbl).trans d2,(hU.cell (p:=⟨b,_,none⟩) hbl).trans d3⟩⟩
       clear p0 p1 p2 p3 p4 p5 p6 r0 r1 r2 r3 r4 r5 r6 d2 d3 u0 v0;obtain⟨⟨s1,s2⟩,⟨s3,s4,s5,s6,s7,s8,s9⟩,⟨s10,s11,s12,s13,s14,s15,s16⟩,s17,s18⟩:=HC.out wr B0;go_wp2_with fail;refine wp_region_mid 10 (by kernel_rfl) (by kernel_rfl) ?_;simp only[List.take_succ_cons,List.take_zero,List.drop_succ_cons,List.drop_zero]
       repeat still_step
       try refine wpStill_nil ?_
       go_wp2_with fail;(with_reducible refine(KC.out _).mono ?_);rintro e w4 ⟨rfl,hb4⟩;have B1:=B0.drew.trans (hb4.mono B0.size);clear s1 s2 s3 s4 s5 s6 s7 s8 s9 s10 s11 s12 s13 s14 s15 s16 s17 s18;obtain⟨⟨s1,s2⟩,⟨s3,s4,s5,s6,s7,s8,s9⟩,⟨s10,s11,s12,s13,s14,s15,s16⟩,s17,s18⟩:=HC.out w4 B1;go_wp2_with fail
       repeat (go_big_quiet_step (fail))
       refine wpQuiet_nil ?_;intro _ hw';obtain⟨nq,hw''⟩:=hw';subst hw'';have HA4:=iH (HAx.out.below (bel_drewN B1 nq));clear s1 s2 s3 s4 s5 s6 s7 s8 s9 s10 s11 s12 s13 s14 s15 s16 s17 s18 hb4 B0 B1 KC HC;generalize w4.drewN nq=X4 at *;go_wp2;go_roundw
       case rel=>exact⟨k+1,by omega,by go_num,HQ.out,HA4.out⟩
       case measure=>simp[intOf];omega
      cases q1:(num != 1)
      ·have q1':(num == 1)=true:=by simpa using q1
       cases q2:(den != 1)
       ·have q2':(den == 1)=true:=by simpa using q2
        have HQ:=iH (HE5.out.2 (by rw[q1',q2'];rfl));clear HE5 q1' q2';have HC:Hid (∀U:World,Below wr.heap.size wr U->(U.cell? ⟨w.heap.size,0,none⟩=some (.slice (some ⟨ba,oa,none⟩) no co)∧U.cell? ⟨w.heap.size+1,0,none⟩=some (.slice (some ⟨bb,ob,none⟩) nx cx))∧(U.cell? ⟨ba,oa+a*7,none⟩=some (.string n1)∧U.cell? ⟨ba,oa+a*7+1,none⟩=some (.bool true)∧U.cell? ⟨ba,oa+a*7+2,none⟩=some (.bool m1)∧U.cell? ⟨ba,oa+a*7+3,none⟩=some (.bool k1)∧U.cell? ⟨ba,oa+a*7+4,none⟩=some (.int .i64 w1')∧U.cell? ⟨ba,oa+a*7+5,none⟩=some (.int .i64 b1')∧U.cell? ⟨ba,oa+a*7+6,none⟩=some (.int .i64 l1))∧(U.cell? ⟨bb,ob+a2*7,none⟩=some (.string n2)∧U.cell? ⟨bb,ob+a2*7+1,none⟩=some (.bool o2)∧U.cell? ⟨bb,ob+a2*7+2,none⟩=some (.bool m2)∧U.cell? ⟨bb,ob+a2*7+3,none⟩=some (.bool k2)∧U.cell? ⟨bb,ob+a2*7+4,none⟩=some (.int .i64 w2')∧U.cell? ⟨bb,ob+a2*7+5,none⟩=some (.int .i64 b2')∧U.cell? ⟨bb,ob+a2*7+6,none⟩=some (.int .i64 l2))∧(U.cell? ⟨b,off+k*4+2,none⟩=some (.int .i64 num)∧U.cell? ⟨b,off+k*4+3,none⟩=some (.int .i64 den))):=fun U hU=>⟨⟨(hU.cell (p:=⟨w.heap.size,0,none⟩) lu).trans u0,(hU.cell (p:=⟨w.heap.size+1,0,none⟩) lv).trans v0⟩,⟨(hU.cell (p:=⟨ba,_,none⟩) hba).trans p0,(hU.cell (p:=⟨ba,_,none⟩) hba).trans p1,(hU.cell (p:=⟨ba,_,none⟩) hba).trans p2,(hU.cell (p:=⟨ba,_,none⟩) hba).trans p3,(hU.cell (p:=⟨ba,_,none⟩) hba).trans p4,(hU.cell (p:=⟨ba,_,none⟩) hba).trans p5,(hU.cell (p:=⟨ba,_,none⟩) hba).trans p6⟩,⟨(hU.cell (p:=⟨bb,_,none⟩) hbb').trans r0,(hU.cell (p:=⟨bb,_,none⟩) hbb').trans r1,(hU.cell (p:=⟨bb,_,none⟩) hbb').trans r2,(hU.cell (p:=⟨bb,_,none⟩) hbb').trans r3,(hU.cell (p:=⟨bb,_,none⟩) hbb').trans r4,(hU.cell (p:=⟨bb,_,none⟩) hbb').trans r5,(hU.cell (p:=⟨bb,_,none⟩) hbb').trans r6⟩,⟨(hU.cell (p:=⟨b,_,none⟩) hbl).trans d2,(hU.cell (p:=⟨b,_,none⟩) hbl).trans d3⟩⟩
        clear p0 p1 p2 p3 p4 p5 p6 r0 r1 r2 r3 r4 r5 r6 d2 d3 u0 v0;obtain⟨⟨s1,s2⟩,⟨s3,s4,s5,s6,s7,s8,s9⟩,⟨s10,s11,s12,s13,s14,s15,s16⟩,s17,s18⟩:=HC.out wr B0;go_wp2_with fail;refine wp_region_mid 10 (by kernel_rfl) (by kernel_rfl) ?_;simp only[List.take_succ_cons,List.take_zero,List.drop_succ_cons,List.drop_zero]
        repeat still_step
        try refine wpStill_nil ?_
        go_wp2_with fail;(with_reducible refine(KC.out _).mono ?_);rintro e w4 ⟨rfl,hb4⟩;have B1:=B0.drew.trans (hb4.mono B0.size);clear s1 s2 s3 s4 s5 s6 s7 s8 s9 s10 s11 s12 s13 s14 s15 s16 s17 s18;obtain⟨⟨s1,s2⟩,⟨s3,s4,s5,s6,s7,s8,s9⟩,⟨s10,s11,s12,s13,s14,s15,s16⟩,s17,s18⟩:=HC.out w4 B1;go_wp2_with fail
        repeat (go_big_quiet_step (fail))
        refine wpQuiet_nil ?_;intro _ hw';obtain⟨nq,hw''⟩:=hw';subst hw'';have HA4:=iH (HAx.out.below (bel_drewN B1 nq));clear s1 s2 s3 s4 s5 s6 s7 s8 s9 s10 s11 s12 s13 s14 s15 s16 s17 s18 hb4 B0 B1 KC HC;generalize w4.drewN nq=X4 at *;go_wp2;go_roundw
        case rel=>exact⟨k+1,by omega,by go_num,HQ.out,HA4.out⟩
        case measure=>simp[intOf];omega
       ·have q2':(den == 1)=false:=by simpa using q2
        have HQ:=iH (HE5.out.1 (by rw[q1',q2'];rfl));clear HE5 q1' q2';have HC:Hid (∀U:World,Below wr.heap.size wr U->(U.cell? ⟨w.heap.size,0,none⟩=some (.slice (some ⟨ba,oa,none⟩) no co)∧U.cell? ⟨w.heap.size+1,0,none⟩=some (.slice (some ⟨bb,ob,none⟩) nx cx))∧(U.cell? ⟨ba,oa+a*7,none⟩=some (.string n1)∧U.cell? ⟨ba,oa+a*7+1,none⟩=some (.bool true)∧U.cell? ⟨ba,oa+a*7+2,none⟩=some (.bool m1)∧U.cell? ⟨ba,oa+a*7+3,none⟩=some (.bool k1)∧U.cell? ⟨ba,oa+a*7+4,none⟩=some (.int .i64 w1')∧U.cell? ⟨ba,oa+a*7+5,none⟩=some (.int .i64 b1')∧U.cell? ⟨ba,oa+a*7+6,none⟩=some (.int .i64 l1))∧(U.cell? ⟨bb,ob+a2*7,none⟩=some (.string n2)∧U.cell? ⟨bb,ob+a2*7+1,none⟩=some (.bool o2)∧U.cell? ⟨bb,ob+a2*7+2,none⟩=some (.bool m2)∧U.cell? ⟨bb,ob+a2*7+3,none⟩=some (.bool k2)∧U.cell? ⟨bb,ob+a2*7+4,none⟩=some (.int .i64 w2')∧U.cell? ⟨bb,ob+a2*7+5,none⟩=some (.int .i64 b2')∧U.cell? ⟨bb,ob+a2*7+6,none⟩=some (.int .i64 l2))∧(U.cell? ⟨b,off+k*4+2,none⟩=some (.int .i64 num)∧U.cell? ⟨b,off+k*4+3,none⟩=some (.int .i64 den))):=fun U hU=>⟨⟨(hU.cell (p:=⟨w.heap.size,0,none⟩) lu).trans u0,(hU.cell (p:=⟨w.heap.size+1,0,none⟩) lv).trans v0⟩,⟨(hU.cell (p:=⟨ba,_,none⟩) hba).trans p0,(hU.cell (p:=⟨ba,_,none⟩) hba).trans p1,(hU.cell (p:=⟨ba,_,none⟩) hba).trans p2,(hU.cell (p:=⟨ba,_,none⟩) hba).trans p3,(hU.cell (p:=⟨ba,_,none⟩) hba).trans p4,(hU.cell (p:=⟨ba,_,none⟩) hba).trans p5,(hU.cell (p:=⟨ba,_,none⟩) hba).trans p6⟩,⟨(hU.cell (p:=⟨bb,_,none⟩) hbb').trans r0,(hU.cell (p:=⟨bb,_,none⟩) hbb').trans r1,(hU.cell (p:=⟨bb,_,none⟩) hbb').trans r2,(hU.cell (p:=⟨bb,_,none⟩) hbb').trans r3,(hU.cell (p:=⟨bb,_,none⟩) hbb').trans r4,(hU.cell (p:=⟨bb,_,none⟩) hbb').trans r5,(hU.cell (p:=⟨bb,_,none⟩) hbb').trans r6⟩,⟨(hU.cell (p:=⟨b,_,none⟩) hbl).trans d2,(hU.cell (p:=⟨b,_,none⟩) hbl).trans d3⟩⟩
        clear p0 p1 p2 p3 p4 p5 p6 r0 r1 r2 r3 r4 r5 r6 d2 d3 u0 v0;obtain⟨⟨s1,s2⟩,⟨s3,s4,s5,s6,s7,s8,s9⟩,⟨s10,s11,s12,s13,s14,s15,s16⟩,s17,s18⟩:=HC.out wr B0;go_wp2_with fail;refine wp_region_mid 10 (by kernel_rfl) (by kernel_rfl) ?_;simp only[List.take_succ_cons,List.take_zero,List.drop_succ_cons,List.drop_zero]
        repeat still_step
        try refine wpStill_nil ?_
        go_wp2_with fail;(with_reducible refine(KC.out _).mono ?_);rintro e w4 ⟨rfl,hb4⟩;have B1:=B0.drew.trans (hb4.mono B0.size);clear s1 s2 s3 s4 s5 s6 s7 s8 s9 s10 s11 s12 s13 s14 s15 s16 s17 s18;obtain⟨⟨s1,s2⟩,⟨s3,s4,s5,s6,s7,s8,s9⟩,⟨s10,s11,s12,s13,s14,s15,s16⟩,s17,s18⟩:=HC.out w4 B1;go_wp2_with fail
        repeat (go_big_quiet_step (fail))
        refine wpQuiet_nil ?_;intro _ hw';obtain⟨nq,hw''⟩:=hw';subst hw'';have HA4:=iH (HAx.out.below (bel_drewN B1 nq));clear s1 s2 s3 s4 s5 s6 s7 s8 s9 s10 s11 s12 s13 s14 s15 s16 s17 s18 hb4 B0 B1 KC HC;generalize w4.drewN nq=X4 at *;go_wp2;exact bodyPost_ret (v:=.tuple #[.slice none 0 0,.int .i64 9]) (by simp[results,Tryz.results14,go_sem]) rfl (newPost_err HQ.out (by omega) HA4.out.bel)
      ·have q1':(num == 1)=false:=by simpa using q1
       have HQ:=iH (HE5.out.1 (by rw[q1'];rfl));clear HE5 q1';have HC:Hid (∀U:World,Below wr.heap.size wr U->(U.cell? ⟨w.heap.size,0,none⟩=some (.slice (some ⟨ba,oa,none⟩) no co)∧U.cell? ⟨w.heap.size+1,0,none⟩=some (.slice (some ⟨bb,ob,none⟩) nx cx))∧(U.cell? ⟨ba,oa+a*7,none⟩=some (.string n1)∧U.cell? ⟨ba,oa+a*7+1,none⟩=some (.bool true)∧U.cell? ⟨ba,oa+a*7+2,none⟩=some (.bool m1)∧U.cell? ⟨ba,oa+a*7+3,none⟩=some (.bool k1)∧U.cell? ⟨ba,oa+a*7+4,none⟩=some (.int .i64 w1')∧U.cell? ⟨ba,oa+a*7+5,none⟩=some (.int .i64 b1')∧U.cell? ⟨ba,oa+a*7+6,none⟩=some (.int .i64 l1))∧(U.cell? ⟨bb,ob+a2*7,none⟩=some (.string n2)∧U.cell? ⟨bb,ob+a2*7+1,none⟩=some (.bool o2)∧U.cell? ⟨bb,ob+a2*7+2,none⟩=some (.bool m2)∧U.cell? ⟨bb,ob+a2*7+3,none⟩=some (.bool k2)∧U.cell? ⟨bb,ob+a2*7+4,none⟩=some (.int .i64 w2')∧U.cell? ⟨bb,ob+a2*7+5,none⟩=some (.int .i64 b2')∧U.cell? ⟨bb,ob+a2*7+6,none⟩=some (.int .i64 l2))∧(U.cell? ⟨b,off+k*4+2,none⟩=some (.int .i64 num)∧U.cell? ⟨b,off+k*4+3,none⟩=some (.int .i64 den))):=fun U hU=>⟨⟨(hU.cell (p:=⟨w.heap.size,0,none⟩) lu).trans u0,(hU.cell (p:=⟨w.heap.size+1,0,none⟩) lv).trans v0⟩,⟨(hU.cell (p:=⟨ba,_,none⟩) hba).trans p0,(hU.cell (p:=⟨ba,_,none⟩) hba).trans p1,(hU.cell (p:=⟨ba,_,none⟩) hba).trans p2,(hU.cell (p:=⟨ba,_,none⟩) hba).trans p3,(hU.cell (p:=⟨ba,_,none⟩) hba).trans p4,(hU.cell (p:=⟨ba,_,none⟩) hba).trans p5,(hU.cell (p:=⟨ba,_,none⟩) hba).trans p6⟩,⟨(hU.cell (p:=⟨bb,_,none⟩) hbb').trans r0,(hU.cell (p:=⟨bb,_,none⟩) hbb').trans r1,(hU.cell (p:=⟨bb,_,none⟩) hbb').trans r2,(hU.cell (p:=⟨bb,_,none⟩) hbb').trans r3,(hU.cell (p:=⟨bb,_,none⟩) hbb').trans r4,(hU.cell (p:=⟨bb,_,none⟩) hbb').trans r5,(hU.cell (p:=⟨bb,_,none⟩) hbb').trans r6⟩,⟨(hU.cell (p:=⟨b,_,none⟩) hbl).trans d2,(hU.cell (p:=⟨b,_,none⟩) hbl).trans d3⟩⟩
       clear p0 p1 p2 p3 p4 p5 p6 r0 r1 r2 r3 r4 r5 r6 d2 d3 u0 v0;obtain⟨⟨s1,s2⟩,⟨s3,s4,s5,s6,s7,s8,s9⟩,⟨s10,s11,s12,s13,s14,s15,s16⟩,s17,s18⟩:=HC.out wr B0;go_wp2_with fail;refine wp_region_mid 10 (by kernel_rfl) (by kernel_rfl) ?_;simp only[List.take_succ_cons,List.take_zero,List.drop_succ_cons,List.drop_zero]
       repeat still_step
       try refine wpStill_nil ?_
       go_wp2_with fail;(with_reducible refine(KC.out _).mono ?_);rintro e w4 ⟨rfl,hb4⟩;have B1:=B0.drew.trans (hb4.mono B0.size);clear s1 s2 s3 s4 s5 s6 s7 s8 s9 s10 s11 s12 s13 s14 s15 s16 s17 s18;obtain⟨⟨s1,s2⟩,⟨s3,s4,s5,s6,s7,s8,s9⟩,⟨s10,s11,s12,s13,s14,s15,s16⟩,s17,s18⟩:=HC.out w4 B1;go_wp2_with fail
       repeat (go_big_quiet_step (fail))
       refine wpQuiet_nil ?_;intro _ hw';obtain⟨nq,hw''⟩:=hw';subst hw'';have HA4:=iH (HAx.out.below (bel_drewN B1 nq));clear s1 s2 s3 s4 s5 s6 s7 s8 s9 s10 s11 s12 s13 s14 s15 s16 s17 s18 hb4 B0 B1 KC HC;generalize w4.drewN nq=X4 at *;go_wp2;exact bodyPost_ret (v:=.tuple #[.slice none 0 0,.int .i64 9]) (by simp[results,Tryz.results14,go_sem]) rfl (newPost_err HQ.out (by omega) HA4.out.bel)
   ·have HF:Hid (renE lo ln rs rs.length=0):=by show _=_;rw[show rs.length=k by have:=Hlr.out;omega];exact HE.out
    go_wp2;go_meet;exact⟨HF.out,HA.out⟩
 case rest =>
  obtain⟨hE,hA⟩:=hcut;obtain⟨V3,hV3⟩:∃V3,wc=V3:=⟨_,rfl⟩;rw[hV3]at hA⊢;clear hV3 HA1;have hw3:w.heap.size<=V3.heap.size:=hA.bel.size;have HA3:=iH hA;have HE:=iH hE;have HEn:=iH (HEnd.out hE);clear hE hA HMk HFo HEnd;obtain⟨AR,nR,cR⟩:=R;obtain⟨Ao,no,co⟩:=io;obtain⟨Ax,nx,cx⟩:=ix;dsimp only at *;go_wp2_with fail;go_loopw [15,16] (fun v i wr=>∃k:Nat,k<=no∧i=.int .i64 k∧wr.ownsRow V3.heap.size 68 3 v k (tcells (xL lo ln rs k))∧endE lo ln (renTo lo ln rs rs.length) k=0∧Below V3.heap.size V3 wr) (fun _ i _=>no-(intOf i).toNat)
  case atStart=>exact⟨0,Nat.zero_le _,rfl,World.ownsRow_nil _ _ _ _,rfl,Below.refl _ _⟩
  case round =>
   obtain⟨k,hk,rfl,hown,hZ,hb⟩:=hrel;have HO:=iH hown;have HZ:=iH hZ;have HB:=iH hb;have HA:=iH (HA3.out.below hb);have hsz:=hb.size;have b10:=HA.out.b1.k0;have hl1:=HA.out.b1.lt;clear hown hZ hb;by_cases hlt:k<no
   ·have hkl : k < lo.length := by have := Hlo.out; omega
    have hAt:=HA.out.li.at_ k hlt;dsimp only at hAt;obtain⟨ba,oa,rfl,hba,p0,p1,p2,p3,p4,p5,p6⟩:=hAt;obtain⟨hx1,hx2⟩:=HEn.out k hkl;have HX:=iH (xL_succ lo ln rs k);have HErr9:Hid (bAt (renTo lo ln rs rs.length).1 k=false->keepErr ln (itAt lo k)=9->newE lo ln rs=9):=fun h1 h2=>by
     have h3:endE lo ln (renTo lo ln rs rs.length) (k+1)=9:=by simp only[endE];rw[if_neg (by have:=HZ.out;omega),h1,if_neg (by simp),h2]
     have h4:=endE_stays (m:=lo.length) (by rw[h3];omega) hkl;unfold newE;rw[if_neg (by have:=HE.out;omega),h4,h3]
    have HOk9:Hid ((bAt (renTo lo ln rs rs.length).1 k=true∨keepErr ln (itAt lo k)=0)->endE lo ln (renTo lo ln rs rs.length) (k+1)=0):=fun h=>by
     simp only[endE];rw[if_neg (by have:=HZ.out;omega)];rcases h with h|h
     ·rw[if_pos h]
     ·rw[h];split <;> rfl
    rw[hx2]at HErr9 HOk9;have hfn:=HFn.out (itAt lo k).name;have HKt:Hid (keepT ln (itAt lo k)=match idxTo ln ln.length (itAt lo k).name with | some b=>((b:Int),1,1) | none=>(-1,0,0)):=rfl;have HKe:Hid (keepErr ln (itAt lo k)=match idxTo ln ln.length (itAt lo k).name with | some b=>if alikeB (itAt lo k) (itAt ln b)=false then 9 else 0 | none=>0):=rfl;have HX0:Hid (xTo lo ln rs k 0=keepT ln (itAt lo k)):=rfl;have HXs:Hid (∀j,xTo lo ln rs k (j+1)=if(renAt rs j).old=(itAt lo k).name then((((fstI ln (renAt rs j).new).getD 0:Nat):Int),(renAt rs j).num,(renAt rs j).den) else xTo lo ln rs k j):=fun j=>rfl
    have HD2:Hid (∀b,idxTo ln ln.length (itAt lo k).name=some b->b<nx):=fun b h=>by have:=idxTo_lt h;have e:=Hln.out;omega
    generalize keepErr ln (itAt lo k)=KE at *;generalize keepT ln (itAt lo k)=KT at *;generalize xTo lo ln rs k=xT at *;generalize hit:itAt lo k=t at *;have Hit:=iH hit;clear hx1 hx2 hkl hit;obtain⟨nm,o1,m1,k1,w1',b1',l1⟩:=t;dsimp only at *;generalize idxTo ln ln.length nm=fi at *;have hb1:Below wr.heap.size wr (wr.alloc (.cells #[.int .i64 (-1),.int .i64 0,.int .i64 0] 68)):=(Below.refl _ _).alloc (Nat.le_refl _) _;have HXA:Hid (XAt V3 (wr.alloc (.cells #[.int .i64 (-1),.int .i64 0,.int .i64 0] 68)) u15 k (xL lo ln rs k) wr.heap.size (-1,0,0)):=by
     refine⟨HO.out.alloc _,Bk.new wr 68 _,fun e=>?_,hsz,HB.out.alloc hsz _⟩;have:=HO.out.lt _ e;omega
    go_upto_region 25 with fail;obtain⟨W1,hW1⟩:∃W1,wr.alloc (.cells #[.int .i64 (-1),.int .i64 0,.int .i64 0] 68)=W1:=⟨_,rfl⟩;rw[hW1]at hb1 HXA⊢;have HA1:=iH (HA.out.below hb1);have hgl:wr.heap.size<W1.heap.size:=by rw[<- hW1];simp
    obtain⟨g,hg⟩:∃g,wr.heap.size=g:=⟨_,rfl⟩;have kk0:(0:Int)<=(k:Int):=by omega
    have kk1:(k:Int)<(no:Int):=by omega
    have HCi:Hid (∀U:World,Below W1.heap.size W1 U->(U.cell? ⟨w.heap.size+1,0,none⟩=some (.slice Ax nx cx)∧U.cell? ⟨w.heap.size+1,1,none⟩=some (.slice rx.A rx.n rx.c)∧U.cell? ⟨w.heap.size+1,2,none⟩=some (.slice tx.A tx.n tx.c)∧U.cell? ⟨w.heap.size+1,3,none⟩=some (.slice xx.A xx.n xx.c))∧U.cell? ⟨w.heap.size,0,none⟩=some (.slice (some ⟨ba,oa,none⟩) no co)∧U.cell? ⟨ba,oa+k*7,none⟩=some (.string nm)):=fun U hU=>by
     have h1:=(HA1.out.below hU).b1;have h2:=(HA1.out.below hU).b2;exact⟨⟨h2.cell 0,h2.cell 1,h2.cell 2,h2.cell 3⟩,h1.cell 0,((hb1.trans (hU.mono hb1.size)).cell (p:=⟨ba,_,none⟩) hba).trans p0⟩
    have KI:Hid (∀W,Below W1.heap.size W1 W->Calls Tryz.prog 47 #[.agg #[.slice Ax nx cx,.slice rx.A rx.n rx.c,.slice tx.A tx.n tx.c,.slice xx.A xx.n xx.c],.string nm] W fun e w'=>e=.returned (.tuple #[.int .i64 ((fi.getD 0:Nat):Int),.bool fi.isSome])∧Below W.heap.size W w'):=fun W hW=>by
     have:=ritem_any (i:=⟨Ax,nx,cx⟩) (r:=rx) (t:=tx) (x:=xx) (HA1.out.below hW).lx nm;unfold ItemPost at this;rw[hfn]at this;exact this
    have B0:Below W1.heap.size W1 W1:=Below.refl _ _;clear p0 hfn;rw[hg]at HXA hgl⊢;clear hW1 hg b10 hl1
    go_region_held3 (fun U=>(U.cell? ⟨w.heap.size+1,0,none⟩=some (.slice Ax nx cx)∧U.cell? ⟨w.heap.size+1,1,none⟩=some (.slice rx.A rx.n rx.c)∧U.cell? ⟨w.heap.size+1,2,none⟩=some (.slice tx.A tx.n tx.c)∧U.cell? ⟨w.heap.size+1,3,none⟩=some (.slice xx.A xx.n xx.c))∧U.cell? ⟨w.heap.size,0,none⟩=some (.slice (some ⟨ba,oa,none⟩) no co)∧U.cell? ⟨ba,oa+k*7,none⟩=some (.string nm)) (first | exact HCi.out _ B0.drew | exact HCi.out _ B1)
     ((go_at_call 47;(with_reducible refine(KI.out _ B0.drew).mono ?_);rintro e w2 ⟨rfl,hb2⟩;have B1:=B0.drew.trans (hb2.mono B0.size)))
    have HA2:=iH (HA1.out.below B1);have HX2:=iH (HXA.out.below B1);clear hb2 B0 KI HCi HXA HA1;have x0:=HX2.out.bx.k0;have x1:=HX2.out.bx.k1;have x2:=HX2.out.bx.k2;have y0:=HX2.out.bx.frozen 0;have y1:=HX2.out.bx.frozen 1;have y2:=HX2.out.bx.frozen 2;have hg2:=HX2.out.bx.lt;go_upto_if 149 with fail;go_cut [19] (fun b wx=>b=.bool fi.isSome∧XAt V3 wx u15 k (xL lo ln rs k) g (xT 0))
    case first =>
     rcases fi with _|b
     ·go_wp2;go_meet;exact⟨rfl,by rw[HX0.out,HKt.out];exact HX2.out⟩
     ·have HX3:=iH (HX2.out.put ((b:Int),1,1));go_wp2;go_meet;exact⟨rfl,by rw[HX0.out,HKt.out];exact HX3.out⟩
    case rest =>
     obtain⟨rfl,hX⟩:=hcut;have HX4:=iH hX;clear hX x0 x1 x2 y0 y1 y2 hg2 HX2 HA2 HX0 HKt HO HA HB B1 hb1;obtain⟨W4,hW4⟩:∃W4,wc=W4:=⟨_,rfl⟩;rw[hW4]at HX4⊢;clear hW4;go_wp2_with fail;go_loopw [20,21] (fun b i wx=>∃j:Nat,j<=nR∧i=.int .i64 j∧b=.bool (markTo rs nm j)∧XAt V3 wx u15 k (xL lo ln rs k) g (xT j)) (fun _ i _=>nR-(intOf i).toNat)
     case atStart=>exact⟨0,Nat.zero_le _,rfl,rfl,HX4.out⟩
     case round =>
      obtain⟨j,hj,rfl,rfl,hX⟩:=hrel;clear HX4;have HX4:=iH hX;have HA:=iH (HA3.out.below hX.bel);clear hX;have b10:=HA.out.b1.k0;have hl1:=HA.out.b1.lt;by_cases hltj:j<nR
      ·have hAt:=HA.out.lr.at_ j hltj;have hAi:=HA.out.li.at_ k hlt;dsimp only at hAt hAi;obtain⟨b,off,rfl,hbb,c0,c1,c2,c3⟩:=hAt;obtain⟨ba',oa',e',hba',p0,_⟩:=hAi;cases e';rw[Hit.out]at p0;dsimp only at p0;have HMs:Hid (markTo rs nm (j+1)=(markTo rs nm j || decide ((renAt rs j).old=nm))):=rfl;have HXj:=iH (HXs.out j);have hfn:=HFn.out (renAt rs j).new;obtain⟨r,hrj⟩:∃r,renAt rs j=r:=⟨_,rfl⟩;rw[hrj]at HMs HXj hfn c0 c1 c2 c3;have Hrj:=iH hrj;clear hrj;obtain⟨old,new,num,den⟩:=r;dsimp only at *;have jj0:(0:Int)<=(j:Int):=by omega
       have jj1:(j:Int)<(nR:Int):=by omega
       have HCn:Hid (∀U:World,Below V3.heap.size V3 U->U.cell? ⟨b,off+j*4+2,none⟩=some (.int .i64 num)∧U.cell? ⟨b,off+j*4+3,none⟩=some (.int .i64 den)):=fun U hU=>by
        have h1:=(HA3.out.below hU).lr.at_ j hltj;dsimp only at h1;obtain⟨b',off',e',_,_,_,d2,d3⟩:=h1;cases e';rw[Hrj.out]at d2 d3;exact⟨d2,d3⟩
       by_cases hy:old=nm
       ·subst hy;rw[if_pos rfl]at HXj;have HMt:Hid (markTo rs old (j+1)=true):=by show _=_;rw[HMs.out];simp
        have HC2:Hid (∀U:World,Below wr.heap.size wr U->(U.cell? ⟨w.heap.size+1,0,none⟩=some (.slice Ax nx cx)∧U.cell? ⟨w.heap.size+1,1,none⟩=some (.slice rx.A rx.n rx.c)∧U.cell? ⟨w.heap.size+1,2,none⟩=some (.slice tx.A tx.n tx.c)∧U.cell? ⟨w.heap.size+1,3,none⟩=some (.slice xx.A xx.n xx.c))∧U.cell? ⟨b,off+j*4+1,none⟩=some (.string new)):=fun U hU=>by
         have h2:=(HA.out.below hU).b2;exact⟨⟨h2.cell 0,h2.cell 1,h2.cell 2,h2.cell 3⟩,(hU.cell (p:=⟨b,_,none⟩) hbb).trans c1⟩
        have KJ:Hid (∀W,Below wr.heap.size wr W->Calls Tryz.prog 47 #[.agg #[.slice Ax nx cx,.slice rx.A rx.n rx.c,.slice tx.A tx.n tx.c,.slice xx.A xx.n xx.c],.string new] W fun e w'=>e=.returned (.tuple #[.int .i64 (((fstI ln new).getD 0:Nat):Int),.bool (fstI ln new).isSome])∧Below W.heap.size W w'):=fun W hW =>
         ritem_any (i:=⟨Ax,nx,cx⟩) (r:=rx) (t:=tx) (x:=xx) (HA.out.below hW).lx new
        generalize fstI ln new=fj at *;clear c1 c2 c3 hfn HMs;go_wp2_with fail;go_quiet (fail);go_wp2_with fail;have B0:Below wr.heap.size wr (wr.drewN nq):=bel_drewN (Below.refl _ _) nq;obtain⟨W5,hW5⟩:∃W5,wr.drewN nq=W5:=⟨_,rfl⟩;rw[hW5]at B0⊢;clear hW5 b10 hl1 p0 c0
        go_region_held3 (fun U=>(U.cell? ⟨w.heap.size+1,0,none⟩=some (.slice Ax nx cx)∧U.cell? ⟨w.heap.size+1,1,none⟩=some (.slice rx.A rx.n rx.c)∧U.cell? ⟨w.heap.size+1,2,none⟩=some (.slice tx.A tx.n tx.c)∧U.cell? ⟨w.heap.size+1,3,none⟩=some (.slice xx.A xx.n xx.c))∧U.cell? ⟨b,off+j*4+1,none⟩=some (.string new)) (first | exact HC2.out _ B0.drew | exact HC2.out _ B6)
         ((go_at_call 47;(with_reducible refine(KJ.out _ B0.drew).mono ?_);rintro e w6 ⟨rfl,hb6⟩;have B6:=B0.drew.trans (hb6.mono B0.size)))
        have HX6:=iH (HX4.out.below B6);clear hb6 B0 KJ HC2 HX4 HA;have x0:=HX6.out.bx.k0;have x1:=HX6.out.bx.k1;have x2:=HX6.out.bx.k2;have y0:=HX6.out.bx.frozen 0;have y1:=HX6.out.bx.frozen 1;have y2:=HX6.out.bx.frozen 2;have hg2:=HX6.out.bx.lt;have HX7:=iH ((HX6.out.below (Below.refl _ _).drew).put (((fj.getD 0:Nat):Int),num,den));have B7:=HX6.out.bel;have B8:=HX7.out.bel;clear B6;go_wp2_with fail
        go_region_held3 (fun U=>U.cell? ⟨b,off+j*4+2,none⟩=some (.int .i64 num)∧U.cell? ⟨b,off+j*4+3,none⟩=some (.int .i64 den)) (first | exact HCn.out _ B7.drew | exact HCn.out _ B8) (fail)
        go_wp2;go_roundw
        case rel=>exact⟨j+1,by omega,by go_num,by rw[HMt.out],by rw[HXj.out];exact HX7.out⟩
        case measure=>simp[intOf];omega
       ·have q2:(old.toList == nm.toList)=false:=by
         simp only[beq_eq_false_iff_ne,ne_eq,ByteArray.toList_eq];exact fun e=>hy (bytes_eq e)
        have q1:(old == nm)=false:=by rw[beq_toListBytes];exact q2
        rw[if_neg hy]at HXj;rw[decide_eq_false hy,Bool.or_false]at HMs;clear c1 c2 c3 hfn;go_wp2_with fail;go_quiet (fail);go_wp2;go_roundw
        case rel=>exact⟨j+1,by omega,by go_num,by rw[HMs.out],by rw[HXj.out];exact HX4.out.below (bel_drewN (Below.refl _ _) _)⟩
        case measure=>simp[intOf];omega
      ·obtain rfl:nR=j:=by omega
       have HMK:Hid (markTo rs nm nR=markTo rs nm rs.length):=by show _=_;rw[<- Hlr.out]
       have HXT:Hid (xT nR=xT rs.length):=by show _=_;rw[<- Hlr.out]
       rw[HMK.out];rw[HXT.out]at HX4;clear HMK HXT HXs;generalize markTo rs nm rs.length=MK at *;generalize xT rs.length=xt at *;obtain⟨BD,hBD⟩:∃BD,(fi.isSome && !MK && !(match fi with|some b=>alikeB ⟨nm,o1,m1,k1,w1',b1',l1⟩ (itAt ln b)|none=>true))=BD:=⟨_,rfl⟩;have HBD:=iH hBD;have HB9:Hid (BD=true->newE lo ln rs=9):=fun h=>by
        rw[<- hBD]at h;rcases fi with _|b
        ·simp at h
        ·cases MK
         ·refine HErr9.out rfl ?_;rw[HKe.out];dsimp only at h⊢;rw[if_pos (by simpa using h)]
         ·simp at h
       have HB0:Hid (BD=false->endE lo ln (renTo lo ln rs rs.length) (k+1)=0):=fun h=>by
        rw[<- hBD]at h;rcases fi with _|b
        ·exact HOk9.out (.inr HKe.out)
        ·cases MK
         ·refine HOk9.out (.inr ?_);rw[HKe.out];dsimp only at h⊢;rw[if_neg (by simpa using h)]
         ·exact HOk9.out (.inl rfl)
       clear hBD HErr9 HOk9 HKe;go_upto_region 36 with fail;go_cut [210] (fun b wx=>b=.bool BD∧XAt V3 wx u15 k (xL lo ln rs k) g xt)
       case first =>
        rcases fi with _|b
        ·go_wp2_with fail;go_quiet (fail);go_wp2;go_meet;exact⟨by rw[<- HBD.out];rfl,HX4.out.below (bel_drewN (Below.refl _ _) _)⟩
        cases MK;rotate_left
        ·go_wp2_with fail;go_quiet (fail);go_wp2;go_meet;exact⟨by rw[<- HBD.out];rfl,HX4.out.below (bel_drewN (Below.refl _ _) _)⟩
        have hbx:=HD2.out b rfl;have hAi:=HA.out.li.at_ k hlt;have hAb:=HA.out.lx.at_ b hbx;dsimp only at hAi hAb;obtain⟨ba',oa',e',hba',p0,p1,p2,p3,p4,p5,p6⟩:=hAi;cases e';rw[Hit.out]at p0 p1 p2 p3 p4 p5 p6;dsimp only at p0 p1 p2 p3 p4 p5 p6;obtain⟨bb,ob,rfl,hbb',r0,r1,r2,r3,r4,r5,r6⟩:=hAb;have KC:Hid (∀W,Calls Tryz.prog 49 #[It.val ⟨nm,o1,m1,k1,w1',b1',l1⟩,(itAt ln b).val] W fun e w'=>e=.returned (.bool (alikeB ⟨nm,o1,m1,k1,w1',b1',l1⟩ (itAt ln b)))∧Below W.heap.size W w'):=fun W=>ralike_any _ _ W
        have HV2:Hid (BD = !alikeB ⟨nm,o1,m1,k1,w1',b1',l1⟩ (itAt ln b)):=by show _=_;rw[<- HBD.out];rfl
        generalize itAt ln b=tb at *;generalize alikeB ⟨nm,o1,m1,k1,w1',b1',l1⟩ tb=AL at *;obtain⟨n2,o2,m2,k2,w2',b2',l2⟩:=tb;dsimp only at *;have v0:=HA.out.b2.k0;have lv:=HA.out.b2.lt;have B0:Below wr.heap.size wr wr:=Below.refl _ _;have bx0:(0:Int)<=(b:Int):=by omega
        have bx1:(b:Int)<(nx:Int):=by omega
        have HC:Hid (∀U:World,Below wr.heap.size wr U->(U.cell? ⟨w.heap.size,0,none⟩=some (.slice (some ⟨ba,oa,none⟩) no co)∧U.cell? ⟨w.heap.size+1,0,none⟩=some (.slice (some ⟨bb,ob,none⟩) nx cx))∧(U.cell? ⟨ba,oa+k*7,none⟩=some (.string nm)∧U.cell? ⟨ba,oa+k*7+1,none⟩=some (.bool o1)∧U.cell? ⟨ba,oa+k*7+2,none⟩=some (.bool m1)∧U.cell? ⟨ba,oa+k*7+3,none⟩=some (.bool k1)∧U.cell? ⟨ba,oa+k*7+4,none⟩=some (.int .i64 w1')∧U.cell? ⟨ba,oa+k*7+5,none⟩=some (.int .i64 b1')∧U.cell? ⟨ba,oa+k*7+6,none⟩=some (.int .i64 l1))∧(U.cell? ⟨bb,ob+b*7,none⟩=some (.string n2)∧U.cell? ⟨bb,ob+b*7+1,none⟩=some (.bool o2)∧U.cell? ⟨bb,ob+b*7+2,none⟩=some (.bool m2)∧U.cell? ⟨bb,ob+b*7+3,none⟩=some (.bool k2)∧U.cell? ⟨bb,ob+b*7+4,none⟩=some (.int .i64 w2')∧U.cell? ⟨bb,ob+b*7+5,none⟩=some (.int .i64 b2')∧U.cell? ⟨bb,ob+b*7+6,none⟩=some (.int .i64 l2))):=fun U hU=>⟨⟨(hU.cell (p:=⟨w.heap.size,0,none⟩) hl1).trans b10,(hU.cell (p:=⟨w.heap.size+1,0,none⟩) lv).trans v0⟩,⟨(hU.cell (p:=⟨ba,_,none⟩) hba').trans p0,(hU.cell (p:=⟨ba,_,none⟩) hba').trans p1,(hU.cell (p:=⟨ba,_,none⟩) hba').trans p2,(hU.cell (p:=⟨ba,_,none⟩) hba').trans p3,(hU.cell (p:=⟨ba,_,none⟩) hba').trans p4,(hU.cell (p:=⟨ba,_,none⟩) hba').trans p5,(hU.cell (p:=⟨ba,_,none⟩) hba').trans p6⟩,⟨(hU.cell (p:=⟨bb,_,none⟩) hbb').trans r0,(hU.cell (p:=⟨bb,_,none⟩) hbb').trans r1,(hU.cell (p:=⟨bb,_,none⟩) hbb').trans r2,(hU.cell (p:=⟨bb,_,none⟩) hbb').trans r3,(hU.cell (p:=⟨bb,_,none⟩) hbb').trans r4,(hU.cell (p:=⟨bb,_,none⟩) hbb').trans r5,(hU.cell (p:=⟨bb,_,none⟩) hbb').trans r6⟩⟩
        clear p0 p1 p2 p3 p4 p5 p6 r0 r1 r2 r3 r4 r5 r6 v0 b10 HBD HB9 HB0 HD2;go_wp2_with fail
        go_region_held3 (fun U=>(U.cell? ⟨w.heap.size,0,none⟩=some (.slice (some ⟨ba,oa,none⟩) no co)∧U.cell? ⟨w.heap.size+1,0,none⟩=some (.slice (some ⟨bb,ob,none⟩) nx cx))∧(U.cell? ⟨ba,oa+k*7,none⟩=some (.string nm)∧U.cell? ⟨ba,oa+k*7+1,none⟩=some (.bool o1)∧U.cell? ⟨ba,oa+k*7+2,none⟩=some (.bool m1)∧U.cell? ⟨ba,oa+k*7+3,none⟩=some (.bool k1)∧U.cell? ⟨ba,oa+k*7+4,none⟩=some (.int .i64 w1')∧U.cell? ⟨ba,oa+k*7+5,none⟩=some (.int .i64 b1')∧U.cell? ⟨ba,oa+k*7+6,none⟩=some (.int .i64 l1))∧(U.cell? ⟨bb,ob+b*7,none⟩=some (.string n2)∧U.cell? ⟨bb,ob+b*7+1,none⟩=some (.bool o2)∧U.cell? ⟨bb,ob+b*7+2,none⟩=some (.bool m2)∧U.cell? ⟨bb,ob+b*7+3,none⟩=some (.bool k2)∧U.cell? ⟨bb,ob+b*7+4,none⟩=some (.int .i64 w2')∧U.cell? ⟨bb,ob+b*7+5,none⟩=some (.int .i64 b2')∧U.cell? ⟨bb,ob+b*7+6,none⟩=some (.int .i64 l2))) (first | exact HC.out _ B0.drew | exact HC.out _ B1)
         ((go_at_call 49;(with_reducible refine(KC.out _).mono ?_);rintro e w7 ⟨rfl,hb7⟩;have B1:=B0.drew.trans (hb7.mono B0.size)))
        have HX7:=iH (HX4.out.below B1);go_wp2;go_meet;exact⟨by rw[HV2.out],HX7.out⟩
       case rest =>
        obtain⟨rfl,hX⟩:=hcut;have HX8:=iH hX;clear HX4 hX HBD b10 hl1;cases BD
        ·have HQ:=iH (HB0.out rfl);have x0:=HX8.out.bx.k0;have x1:=HX8.out.bx.k1;have x2:=HX8.out.bx.k2;have hg2:=HX8.out.bx.lt;have hs8:=HX8.out.bel.size;clear HB9 HB0;go_wp2_with(at_builtin;refine wpList_append_own_at _ rfl _ _ 39 rfl V3.heap.size 68 i0 (.agg #[.int .i64 0,.int .i64 0,.int .i64 0]) 3 24 Tryz.underlying39 hi hz0 hz1 hz2 rfl (by decide) _ k (tcells (xL lo ln rs k)) rfl (HX8.out.own.alloc _) ⟨wc.heap.size,0,none⟩ 1 1 [.int .i64 xt.1,.int .i64 xt.2.1,.int .i64 xt.2.2] rfl rfl (new3 _ _ _ _ _) (one3 _ _ _) (by unfold maxLen;omega) (by omega) (by simp;omega) ?_);intro v' w9 hown' hgrow _ _;have hb9:Below V3.heap.size V3 w9:=(HX8.out.bel.alloc hs8 _).grown hgrow (by simp;omega) (row_base HX8.out.own);have HO1:=iH hown';clear hown' hgrow;go_wp2;go_roundw
         case rel=>exact⟨k+1,by omega,by go_num,by rw[HX.out,tcells_snoc];exact HO1.out,HQ.out,hb9⟩
         case measure=>simp[intOf];omega
        ·have HQ:=iH (HB9.out rfl);clear HB9 HB0;go_wp2;exact bodyPost_ret (v:=.tuple #[.slice none 0 0,.int .i64 9]) (by simp[results,Tryz.results14,go_sem]) rfl (newPost_err HQ.out (by omega) (HA3.out.below HX8.out.bel).bel)
   ·obtain rfl:no=k:=by omega
    have HQ:Hid (newE lo ln rs=0):=by
     show _=_;unfold newE;rw[if_neg (by have:=HE.out;omega),<- Hlo.out];exact HZ.out
    have HQL:Hid (newL lo ln rs=xL lo ln rs no):=by
     show _=_;have h1:=HQ.out;unfold newL;rw[if_pos h1,Hlo.out];unfold endTo xL;apply List.map_congr_left;intro i hi;rw[List.mem_range]at hi;rw[if_pos hi];exact(HEn.out i hi).1
    obtain⟨A,c,hv,-⟩:=row_of_owns HO.out;have ho:=HO.out;rw[hv]at ho;have hrow:=FR.of_own (w:=w) ho hw3 (.inr rfl);rw[hv];have HRow:=iH hrow;clear ho;have HBel:=iH HA.out.bel;clear hv hrow HO;go_wp2;refine bodyPost_ret (v:=.tuple #[.slice A no c,.int .i64 0]) (by simp[results,Tryz.results14,go_sem]) rfl ⟨A,c,?_,?_,HBel.out⟩
    ·rw[HQL.out,HQ.out,xL_length]
    ·rw[HQL.out];exact HRow.out
end
end Go.Proofs.YthjfdfdgbpbanaaGreatDoor
