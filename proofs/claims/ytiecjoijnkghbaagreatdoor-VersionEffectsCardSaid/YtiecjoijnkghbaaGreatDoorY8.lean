/- version.names and New on items with any names (turned from A21, A23). New on catalogs of plain names. -/
import Derived.Test.YtiecjoijnkghbaaGreatDoorY4
import Derived.Test.YtiecjoijnkghbaaGreatDoorY7
set_option linter.unusedVariables false
set_option linter.unusedSimpArgs false
set_option maxRecDepth 100000
set_option maxHeartbeats 4000000
open Go.RowKit
namespace Go.Proofs.YtiecjoijnkghbaaGreatDoor
set_option linter.unusedVariables false
set_option linter.unusedSimpArgs false
structure ItsR (w : World) (A : Option Addr) (n : Nat) (l : List It) : Prop where
 row:Row w w.heap.size A (icells l)
 len:n=l.length
 small:n<=1000000
 name:∀t∈l,t.name.size<=8192
theorem ItsR.below {w w':World} {A:Option Addr} {n:Nat} {l:List It} (h:ItsR w A n l) (hb:Below w.heap.size w w'):ItsR w' A n l:=⟨(h.row.below hb).more hb.size,h.len,h.small,h.name⟩
theorem ItsR.at_ {w:World} {A:Option Addr} {n:Nat} {l:List It} (h:ItsR w A n l) (k:Nat) (hk:k<n):∃b off,A=some ⟨b,off,none⟩∧b<w.heap.size ∧
 w.cell? ⟨b,off+k*7,none⟩=some (.string (itAt l k).name)∧w.cell? ⟨b,off+k*7+1,none⟩=some (.bool (itAt l k).object)∧w.cell? ⟨b,off+k*7+2,none⟩=some (.bool (itAt l k).mixed) ∧
 w.cell? ⟨b,off+k*7+3,none⟩=some (.bool (itAt l k).coin)∧w.cell? ⟨b,off+k*7+4,none⟩=some (.int .i64 (itAt l k).wear)∧w.cell? ⟨b,off+k*7+5,none⟩=some (.int .i64 (itAt l k).bnd)∧w.cell? ⟨b,off+k*7+6,none⟩=some (.int .i64 (itAt l k).level):=by
 have hl:k<l.length:=by have:=h.len;omega
 obtain⟨b,off,hA,hb,hc⟩:=h.row.at_ 0 (by rw[icells_length];omega);have g:=fun r hr=>icells_get l k r hl hr
 refine⟨b,off,hA,hb,?_,?_,?_,?_,?_,?_,?_⟩
 ·exact hc _ _ (g 0 (by omega))
 ·rw[Nat.add_assoc];exact hc _ _ (g 1 (by omega))
 ·rw[Nat.add_assoc];exact hc _ _ (g 2 (by omega))
 ·rw[Nat.add_assoc];exact hc _ _ (g 3 (by omega))
 ·rw[Nat.add_assoc];exact hc _ _ (g 4 (by omega))
 ·rw[Nat.add_assoc];exact hc _ _ (g 5 (by omega))
 ·rw[Nat.add_assoc];exact hc _ _ (g 6 (by omega))
theorem ItsV.itsR {w:World} {s:Sl} {l:List It} (h:ItsV w s l):ItsR w s.A s.n l:=⟨h.row.row,h.len,by have:=h.small;omega,h.each⟩
theorem names_any2 {w:World} {i r t x:Sl} {l:List It} (h:ItsR w i.A i.n l):Calls Tryz.prog 66 #[catS i r t x] w (NamesPost w l i.n):=by
 obtain⟨A,n,c⟩:=i;dsimp only at *;have hmm:=fun W:World=>run_mapHint (P:=Tryz.prog) 117 9 3 .i64 n Tryz.underlying117 W
 have Hn:=iH h.len;have H:=iH h;have hs:=h.small;clear h;go_enter Tryz.func66,Tryz.ntmps66;go_wp2_with fail;have Hm0:=MapI.made (w.alloc (catSO ⟨A,n,c⟩ r t x));rw[World.size_alloc]at Hm0;have HM0:=iH Hm0;have hB0:Below w.heap.size w ((w.alloc (catSO ⟨A,n,c⟩ r t x)).alloc (.map #[] 0)):=((Below.refl _ _).alloc (Nat.le_refl _) _).alloc (by simp) _;clear Hm0;go_loopw [13] (fun i wr=>∃k:Nat,k<=n∧i=.int .i64 k∧MapI wr (w.heap.size+1) k (idxTo l k)∧Below w.heap.size w wr) (fun i _=>n-(intOf i).toNat)
 case atStart=>exact⟨0,Nat.zero_le _,rfl,HM0.out,hB0⟩
 case round =>
  obtain⟨k,hk,rfl,hm,hb⟩:=hrel;have HM:=iH hm;have hsz:=hb.size;clear hm hmm HM0;by_cases hlt:k<n
  ·have hkl:k<l.length:=by have:=Hn.out;omega
   obtain⟨b,off,rfl,hbb,c0,c1,c2,c3,c4,c5,c6⟩:=(H.out.below hb).at_ k hlt;have hpm:=size_max (H.out.name _ (itAt_mem hkl));have hb2:Below w.heap.size w (wr.alloc (.cells #[.string (itAt l k).name,.bool (itAt l k).object,.bool (itAt l k).mixed,.bool (itAt l k).coin,.int .i64 (itAt l k).wear,.int .i64 (itAt l k).bnd,.int .i64 (itAt l k).level] 42)):=hb.alloc hsz _;have HT:Hid (idxTo l (k+1)=fun s=>if s=(itAt l k).name then some k else idxTo l k s):=rfl;have HM2:=HM.out.below ((Below.refl _ wr).alloc (Nat.le_refl _) (.cells #[.string (itAt l k).name,.bool (itAt l k).object,.bool (itAt l k).mixed,.bool (itAt l k).coin,.int .i64 (itAt l k).wear,.int .i64 (itAt l k).bnd,.int .i64 (itAt l k).level] 42));obtain⟨w3,hrun,hM4,hg4⟩:=HM2.put hpm k (by omega) (by omega);have hb5:Below w.heap.size w w3:=hb2.grown hg4 (by simp;omega) (fun g e=>by cases e;omega);have HM4:=iH hM4;clear hkl HM HM2 hM4 hg4;generalize itAt l k=t at *;obtain⟨nm,ob,mi,co,we,bi,le⟩:=t;dsimp only at *;go_wp2;go_roundw
   case rel=>exact⟨k+1,by omega,by go_num,by rw[HT.out];exact HM4.out,hb5⟩
   case measure=>simp[intOf];omega
  ·obtain rfl:k=n:=by omega
   go_wp2;go_ret;exact⟨_,rfl,HM.out,by omega,hb⟩
theorem New_valid2 {w : World} {io ro to_ xo ix rx tx xx R : Sl} {lo ln : List It} {rs : List Ren} (ho : ItsR w io.A io.n lo) (hn : ItsR w ix.A ix.n ln) (hr : RensV w R.A R.n rs)
 (HV:Hid (∀W:World,Below w.heap.size w W->Calls Tryz.prog 65 #[catS io ro to_ xo,catS ix rx tx xx] W fun e w'=>e=.returned (.int .i64 0)∧Below W.heap.size W w')) :
 Calls Tryz.prog 64 #[catS io ro to_ xo,catS ix rx tx xx,.slice R.A R.n R.c] w (NewPost w lo ln rs):=by
 have Ho:=iH ho;have Hn:=iH hn;have Hr:=iH hr;have so:=ho.small;have sn:=hn.small;have sr:=hr.small;have Hlo:=iH ho.len;have Hln:=iH hn.len;have Hlr:=iH hr.len;clear ho hn hr;have hb0:Below w.heap.size w ((w.alloc (catSO io ro to_ xo)).alloc (catSO ix rx tx xx)):=((Below.refl _ _).alloc (Nat.le_refl _) _).alloc (by simp) _;have k0:=(Bk.new w 28 (catSL io ro to_ xo)).alloc (catSO ix rx tx xx);have k0':=Bk.new (w.alloc (catSO io ro to_ xo)) 28 (catSL ix rx tx xx);rw[World.size_alloc]at k0';have HK0:=iH k0;have HK0':=iH k0';clear k0 k0';obtain⟨Ao,no,co⟩:=io;obtain⟨Ax,nx,cx⟩:=ix;dsimp only at *;go_enter Tryz.func64,Tryz.ntmps64;go_wp2_with fail;refine(HV.out _ hb0).mono ?_;rintro e w1 ⟨rfl,hb1⟩;have k1:Bk w1 w.heap.size 28 (catSL ⟨Ao,no,co⟩ ro to_ xo):=HK0.out.below hb1 (by simp;omega);have k2:Bk w1 (w.heap.size+1) 28 (catSL ⟨Ax,nx,cx⟩ rx tx xx):=HK0'.out.below hb1 (by simp);have G1:Below w.heap.size w w1:=hb0.trans (hb1.mono (by simp;omega));have N1:Hid (∀W:World,Below w1.heap.size w1 W->Calls Tryz.prog 66 #[catS ⟨Ao,no,co⟩ ro to_ xo] W (NamesPost W lo no)):=fun W hW=>names_any2 (i:=⟨Ao,no,co⟩) (Ho.out.below (G1.trans (hW.mono G1.size)))
 have N2:Hid (∀W:World,Below w1.heap.size w1 W->Calls Tryz.prog 66 #[catS ⟨Ax,nx,cx⟩ rx tx xx] W (NamesPost W ln nx)):=fun W hW=>names_any2 (i:=⟨Ax,nx,cx⟩) (Hn.out.below (G1.trans (hW.mono G1.size)))
 have K1:=iH k1;have K2:=iH k2;have HC:Hid (∀U:World,Below w1.heap.size w1 U->(U.cell? ⟨w.heap.size,0,none⟩=some (.slice Ao no co)∧U.cell? ⟨w.heap.size,1,none⟩=some (.slice ro.A ro.n ro.c)∧U.cell? ⟨w.heap.size,2,none⟩=some (.slice to_.A to_.n to_.c)∧U.cell? ⟨w.heap.size,3,none⟩=some (.slice xo.A xo.n xo.c) ∧
  U.cell? ⟨w.heap.size+1,0,none⟩=some (.slice Ax nx cx)∧U.cell? ⟨w.heap.size+1,1,none⟩=some (.slice rx.A rx.n rx.c)∧U.cell? ⟨w.heap.size+1,2,none⟩=some (.slice tx.A tx.n tx.c)∧U.cell? ⟨w.heap.size+1,3,none⟩=some (.slice xx.A xx.n xx.c))):=fun U hU=>by
  have q1:=K1.out.below hU K1.out.lt;have q2:=K2.out.below hU K2.out.lt;exact⟨q1.cell 0,q1.cell 1,q1.cell 2,q1.cell 3,q2.cell 0,q2.cell 1,q2.cell 2,q2.cell 3⟩
 obtain⟨p0,p1,p2,p3,r0,r1,r2,r3⟩:=HC.out w1 (Below.refl _ _);clear hb1 hb0 HK0 HK0' HV k1 k2;go_wp2_with fail;go_cut [9,10] (fun a b wx=>∃bo bn,a=.map (some bo)∧b=.map (some bn)∧MapI wx bo no (idxTo lo no)∧MapI wx bn nx (idxTo ln nx)∧Below w1.heap.size w1 wx)
 case first =>
  go_region_with (first
   | (go_at_call 66;(with_reducible refine(N1.out _ ?_).mono ?_);(first | exact(Below.refl _ _).drew | exact GB);rintro e wA ⟨b,rfl,hm,hge,hba⟩;(first | (have GC:=GB.trans (hba.mono GB.size);have hm1:=hm;have hm2:=hmB.below hba) | (have GA:=(Below.refl w1.heap.size w1).drew.trans hba;have hmA:=hm;obtain⟨p0,p1,p2,p3,r0,r1,r2,r3⟩:=HC.out _ GA)))
   | (go_at_call 66;(with_reducible refine(N2.out _ ?_).mono ?_);(first | exact(Below.refl _ _).drew | exact GA);rintro e wA ⟨b,rfl,hm,hge,hba⟩;(first | (have GC:=GA.trans (hba.mono GA.size);have hm2:=hm;have hm1:=hmA.below hba) | (have GB:=(Below.refl w1.heap.size w1).drew.trans hba;have hmB:=hm;obtain⟨p0,p1,p2,p3,r0,r1,r2,r3⟩:=HC.out _ GB))))
  all_goals (try go_wp2_with fail)
  all_goals go_meet
  all_goals exact⟨_,_,rfl,rfl,hm1,hm2,GC⟩
 case rest =>
  obtain⟨bo,bn,rfl,rfl,hm1,hm2,hbc⟩:=hcut;have S0:=new_start (w:=w) (io:=⟨Ao,no,co⟩) (ix:=⟨Ax,nx,cx⟩) rs Hlo.out (K1.out.below hbc K1.out.lt) (K2.out.below hbc K2.out.lt) hm1 hm2 (G1.trans (hbc.mono G1.size));obtain⟨q0,q1,q2,q3,q4,q5,q6,q7⟩:=HC.out _ hbc;have HS0:=iH S0;have hl2:w.heap.size+1<wc.heap.size:=(K2.out.below hbc K2.out.lt).lt;have hl1:w.heap.size<wc.heap.size:=by omega
  clear S0 hm1 hm2 hbc p0 p1 p2 p3 r0 r1 r2 r3 N1 N2 HC K1 K2 G1;have mk1:=fun W=>make_tos no so W
  have mk2:=fun W=>make_bools no so W
  go_wp2_with fail;generalize(wc.alloc (.cells (tcells (List.replicate no (0,0,0))).toArray 115)).alloc (.cells (bools (List.replicate no false)).toArray 4)=W0 at *;generalize wc.heap.size+1=gr at *;generalize wc.heap.size=gm at *;clear hl1 hl2 mk1 mk2 q0 q1 q2 q3 q4 q5 q6 q7;go_loopw [43] (fun i wr=>∃k:Nat,k<=R.n∧i=.int .i64 k∧renE lo ln rs k=0∧NewAt w wr ⟨Ao,no,co⟩ ro to_ xo ⟨Ax,nx,cx⟩ rx tx xx bo bn gm gr lo ln (renTo lo ln rs k).1 (renTo lo ln rs k).2) (fun i _=>R.n-(intOf i).toNat)
  case atStart=>exact⟨0,Nat.zero_le _,rfl,rfl,HS0.out⟩
  case round =>
   obtain⟨k,hk,rfl,hE,hA⟩:=hrel;have HE:=iH hE;have HA:=iH hA;clear hE hA HS0;by_cases hlt:k<R.n
   ·obtain ⟨RA, Rn, Rc⟩ := R;dsimp only at *;obtain⟨b,off,rfl,hbb,c0,c1,c2,c3⟩:=(Hr.out.below HA.out.below).at_ k hlt;obtain⟨z1,z2⟩:=Hr.out.size k hlt;have hkl:k<rs.length:=by have:=Hlr.out;omega
    have Herr:=iH (newE_ren (lo:=lo) (ln:=ln) hkl HE.out);have Hnext:Hid (renErr lo ln (renTo lo ln rs k).1 (renAt rs k)=0->renE lo ln rs (k+1)=0):=fun h=>by simp only[renE];rw[if_neg (by rw[HE.out];decide),h]
    have Hst:Hid (renTo lo ln rs (k+1)=renSt lo ln (renTo lo ln rs k) (renAt rs k)):=rfl;obtain⟨len1,len2⟩:=renTo_len lo ln rs k;have HA1:=iH (HA.out.grow ((Below.refl _ wr).alloc (Nat.le_refl _) (.cells #[.string (renAt rs k).old,.string (renAt rs k).new,.int .i64 (renAt rs k).num,.int .i64 (renAt rs k).den] 124)));have HX:=iH (Bk.new wr 124 [.string (renAt rs k).old,.string (renAt rs k).new,.int .i64 (renAt rs k).num,.int .i64 (renAt rs k).den]);have lk1:=HA1.out.mo.look z1;have lk2:=HA1.out.mn.look z2;have Herd:Hid (renErr lo ln (renTo lo ln rs k).1 (renAt rs k)=match idxTo lo no (renAt rs k).old,idxTo ln nx (renAt rs k).new with
     | some a,some b=>if bAt (renTo lo ln rs k).1 a=true then 8 else if factorB (renAt rs k)=false then 5 else if typeB (itAt lo a) (itAt ln b) (renAt rs k)=false then 9 else 0
     | _,_=>6):=by show renErr _ _ _ _=_;rw[Hlo.out,Hln.out];rfl
    have Hstd:Hid (renSt lo ln (renTo lo ln rs k) (renAt rs k)=match idxTo lo no (renAt rs k).old,idxTo ln nx (renAt rs k).new with
     | some a,some b=>((renTo lo ln rs k).1.set a true,(renTo lo ln rs k).2.set a ((b:Int),(renAt rs k).num,(renAt rs k).den))
     | _,_=>renTo lo ln rs k):=by show renSt _ _ _ _=_;rw[Hlo.out,Hln.out];rfl
    have Hlen1:=iH len1;have Hlen2:=iH len2;have hgrl:gr<wr.heap.size:=HA.out.br.lt;clear HA hkl len1 len2 hbb z1 z2;generalize hrr:renAt rs k=rr at *;have Hrr:=iH hrr;obtain⟨old,new,num,den⟩:=rr;dsimp only at *;generalize hst:renTo lo ln rs k=st at *;clear hst hrr;obtain⟨ren,ml⟩:=st;dsimp only at *;cases ha:idxTo lo no old with
    | none =>
      rw[ha]at lk1 Herd;simp only[Option.isSome_none,Option.getD_none]at lk1;have he:renErr lo ln ren ⟨old,new,num,den⟩=6:=by rw[Herd.out]
      clear ha Hnext Hst Hstd Herd;go_wp2_with fail;go_ret2;exact newPost_err (by rw[Herr.out (by rw[he];decide),he]) (by decide) HA1.out.below
    | some a =>
      cases hb:idxTo ln nx new with
      | none =>
        rw[ha]at lk1 Herd;rw[hb]at lk2 Herd;simp only[Option.isSome_some,Option.getD_some]at lk1;simp only[Option.isSome_none,Option.getD_none]at lk2;have he:renErr lo ln ren ⟨old,new,num,den⟩=6:=by rw[Herd.out]
        clear ha hb Hnext Hst Hstd Herd;go_wp2_with fail;go_ret2;exact newPost_err (by rw[Herr.out (by rw[he];decide),he]) (by decide) HA1.out.below
      | some b' =>
        have ha1:=(idxTo_lt ha).1;have hb1:=(idxTo_lt hb).1;rw[ha]at lk1 Herd Hstd;rw[hb]at lk2 Herd Hstd;simp only[Option.isSome_some,Option.getD_some]at lk1 lk2;dsimp only at Herd Hstd;clear ha hb;have har:a<ren.length:=by have:=Hlen1.out;have:=Hlo.out;omega
        have hml:a<ml.length:=by have:=Hlen2.out;have:=Hlo.out;omega
        have Hra0:=iH (bools_at ren a har);have i0:(0:Int)<=(a:Int):=by omega
        have i1:(a:Int)<(no:Int):=by omega
        have i2:(0:Int)<=(b':Int):=by omega
        have i3:(b':Int)<(nx:Int):=by omega
        have hsame:=(Below.refl _ wr).alloc (Nat.le_refl _) (.cells #[.string old,.string new,.int .i64 num,.int .i64 den] 124);obtain⟨bq,oq,hAo,hbq,qc0,qc1,qc2,qc3,qc4,qc5,qc6⟩:=(Ho.out.below HA1.out.below).at_ a ha1;obtain⟨bp,op,hAx,hbp,pc0,pc1,pc2,pc3,pc4,pc5,pc6⟩:=(Hn.out.below HA1.out.below).at_ b' hb1;have hgx1:gr≠wr.heap.size:=by omega
        clear hsame har;have rn0:=(HA1.out.br.cell a).trans Hra0.out;cases hbr:bAt ren a
        ·rw [hbr] at rn0 Hra0 Herd;have Hra:Hid ((bools ren)[a]? = some (.bool false)):=Hra0;simp only[Bool.false_eq_true,if_false]at Herd;clear hbr Hra0;generalize hta:itAt lo a=ta at *;generalize htb:itAt ln b'=tb at *;obtain⟨n1,o1,m1,c1',w1',b1,l1⟩:=ta;obtain⟨n2,o2,m2,c2',w2',b2,l2⟩:=tb;dsimp only at *;subst hAo;subst hAx;clear hta htb;by_cases f1:num<1
         ·have he:renErr lo ln ren ⟨old,new,num,den⟩=5:=by rw[Herd.out,if_pos (by simp[factorB];omega)]
          clear Hnext Hst Hstd Herd;go_wp2_with fail;go_ret2;exact newPost_err (by rw[Herr.out (by rw[he];decide),he]) (by decide) HA1.out.below
         by_cases f2:1048576<num
         ·have he:renErr lo ln ren ⟨old,new,num,den⟩=5:=by rw[Herd.out,if_pos (by simp[factorB];omega)]
          clear Hnext Hst Hstd Herd;go_wp2_with fail;go_ret2;exact newPost_err (by rw[Herr.out (by rw[he];decide),he]) (by decide) HA1.out.below
         by_cases f3:den<1
         ·have he:renErr lo ln ren ⟨old,new,num,den⟩=5:=by rw[Herd.out,if_pos (by simp[factorB];omega)]
          clear Hnext Hst Hstd Herd;go_wp2_with fail;go_ret2;exact newPost_err (by rw[Herr.out (by rw[he];decide),he]) (by decide) HA1.out.below
         by_cases f4:1048576<den
         ·have he:renErr lo ln ren ⟨old,new,num,den⟩=5:=by rw[Herd.out,if_pos (by simp[factorB];omega)]
          clear Hnext Hst Hstd Herd;go_wp2_with fail;go_ret2;exact newPost_err (by rw[Herr.out (by rw[he];decide),he]) (by decide) HA1.out.below
         rw[if_neg (by simp[factorB];omega)]at Herd;have BXo:=HA1.out.b1.cell 0;have BXn:=HA1.out.b2.cell 0;have HA2:=HA1;have HX2:=HX;have HSx:Hid (∀U:World,Below (wr.alloc (.cells #[.string old,.string new,.int .i64 num,.int .i64 den] 124)).heap.size (wr.alloc (.cells #[.string old,.string new,.int .i64 num,.int .i64 den] 124)) U->U.cell? ⟨w.heap.size,0,none⟩=some (.slice (some ⟨bq,oq,none⟩) no co)∧U.cell? ⟨w.heap.size+1,0,none⟩=some (.slice (some ⟨bp,op,none⟩) nx cx)∧U.cell? ⟨bq,oq+a*7,none⟩=some (.string n1)∧U.cell? ⟨bq,oq+a*7+1,none⟩=some (.bool o1)∧U.cell? ⟨bq,oq+a*7+2,none⟩=some (.bool m1)∧U.cell? ⟨bq,oq+a*7+3,none⟩=some (.bool c1')∧U.cell? ⟨bq,oq+a*7+4,none⟩=some (.int .i64 w1')∧U.cell? ⟨bq,oq+a*7+5,none⟩=some (.int .i64 b1)∧U.cell? ⟨bq,oq+a*7+6,none⟩=some (.int .i64 l1)∧U.cell? ⟨bp,op+b'*7,none⟩=some (.string n2)∧U.cell? ⟨bp,op+b'*7+1,none⟩=some (.bool o2)∧U.cell? ⟨bp,op+b'*7+2,none⟩=some (.bool m2)∧U.cell? ⟨bp,op+b'*7+3,none⟩=some (.bool c2')∧U.cell? ⟨bp,op+b'*7+4,none⟩=some (.int .i64 w2')∧U.cell? ⟨bp,op+b'*7+5,none⟩=some (.int .i64 b2)∧U.cell? ⟨bp,op+b'*7+6,none⟩=some (.int .i64 l2)∧U.cell? ⟨wr.heap.size,2,none⟩=some (.int .i64 num)∧U.cell? ⟨wr.heap.size,3,none⟩=some (.int .i64 den)):=fun U hU=>by
          have e1:=(HA1.out.grow hU).b1;have e2:=(HA1.out.grow hU).b2;have e3:=HX.out.below hU HX.out.lt;exact⟨e1.cell 0,e2.cell 0,(hU.cell (p:=⟨bq,_,none⟩) hbq).trans qc0,(hU.cell (p:=⟨bq,_,none⟩) hbq).trans qc1,(hU.cell (p:=⟨bq,_,none⟩) hbq).trans qc2,(hU.cell (p:=⟨bq,_,none⟩) hbq).trans qc3,(hU.cell (p:=⟨bq,_,none⟩) hbq).trans qc4,(hU.cell (p:=⟨bq,_,none⟩) hbq).trans qc5,(hU.cell (p:=⟨bq,_,none⟩) hbq).trans qc6,
           (hU.cell (p:=⟨bp,_,none⟩) hbp).trans pc0,(hU.cell (p:=⟨bp,_,none⟩) hbp).trans pc1,(hU.cell (p:=⟨bp,_,none⟩) hbp).trans pc2,(hU.cell (p:=⟨bp,_,none⟩) hbp).trans pc3,(hU.cell (p:=⟨bp,_,none⟩) hbp).trans pc4,(hU.cell (p:=⟨bp,_,none⟩) hbp).trans pc5,(hU.cell (p:=⟨bp,_,none⟩) hbp).trans pc6,e3.cell 2,e3.cell 3⟩
         have HS:=HSx;have AK:=iH (fun U:World=>alike_any ⟨n1,o1,m1,c1',w1',b1,l1⟩ ⟨n2,o2,m2,c2',w2',b2,l2⟩ U);clear qc0 qc1 qc2 qc3 qc4 qc5 qc6 pc0 pc1 pc2 pc3 pc4 pc5 pc6 HA1 HX HSx BXo BXn;go_wp2_with fail;generalize wr.alloc (.cells #[.string old,.string new,.int .i64 num,.int .i64 den] 124)=W at *;generalize wr.heap.size=gx at *;cases hal:alikeB ⟨n1,o1,m1,c1',w1',b1,l1⟩ ⟨n2,o2,m2,c2',w2',b2,l2⟩
         ·rw[hal]at AK;have he:renErr lo ln ren ⟨old,new,num,den⟩=9:=by rw[Herd.out];rw[if_pos (by simp[typeB,hal])]
          obtain⟨s1,s2,s3,s4,s5,s6,s7,s8,s9,s10,s11,s12,s13,s14,s15,s16,s17,s18⟩:=HS.out W (Below.refl _ _);refine wp_region_mid 10 (by kernel_rfl) (by kernel_rfl) ?_;simp only[List.take_succ_cons,List.take_zero,List.drop_succ_cons,List.drop_zero]
          repeat still_step
          try refine wpStill_nil ?_
          go_wp2_with fail;refine(AK.out _).mono ?_;rintro e wA ⟨rfl,hbA⟩;have BA:Below W.heap.size W wA:=(Below.refl W.heap.size W).drew.trans hbA;clear s1 s2 s3 s4 s5 s6 s7 s8 s9 s10 s11 s12 s13 s14 s15 s16 s17 s18;obtain⟨s1,s2,s3,s4,s5,s6,s7,s8,s9,s10,s11,s12,s13,s14,s15,s16,s17,s18⟩:=HS.out wA BA;go_wp2_with fail
          repeat (go_big_quiet_step (fail))
          refine wpQuiet_nil ?_;intro _ hw';obtain⟨nq,hw''⟩:=hw';subst hw'';have BX:Below W.heap.size W (wA.drewN nq):=bel_drewN BA nq;clear s1 s2 s3 s4 s5 s6 s7 s8 s9 s10 s11 s12 s13 s14 s15 s16 s17 s18 hbA BA;generalize wA.drewN nq=X at *;go_wp2_with fail;go_ret2;exact newPost_err (by rw[Herr.out (by rw[he];decide),he]) (by decide) (HA2.out.grow BX).below
         ·rw [hal] at AK;cases o1
          ·skip
           have he:renErr lo ln ren ⟨old,new,num,den⟩=0:=by rw[Herd.out];rw[if_neg (by simp[typeB,hal])]
           obtain⟨s1,s2,s3,s4,s5,s6,s7,s8,s9,s10,s11,s12,s13,s14,s15,s16,s17,s18⟩:=HS.out W (Below.refl _ _);refine wp_region_mid 10 (by kernel_rfl) (by kernel_rfl) ?_;simp only[List.take_succ_cons,List.take_zero,List.drop_succ_cons,List.drop_zero]
           repeat still_step
           try refine wpStill_nil ?_
           go_wp2_with fail;refine(AK.out _).mono ?_;rintro e wA ⟨rfl,hbA⟩;have BA:Below W.heap.size W wA:=(Below.refl W.heap.size W).drew.trans hbA;clear s1 s2 s3 s4 s5 s6 s7 s8 s9 s10 s11 s12 s13 s14 s15 s16 s17 s18;obtain⟨s1,s2,s3,s4,s5,s6,s7,s8,s9,s10,s11,s12,s13,s14,s15,s16,s17,s18⟩:=HS.out wA BA;go_wp2_with fail
           repeat (go_big_quiet_step (fail))
           refine wpQuiet_nil ?_;intro _ hw';obtain⟨nq,hw''⟩:=hw';subst hw'';have BX:Below W.heap.size W (wA.drewN nq):=bel_drewN BA nq;clear s1 s2 s3 s4 s5 s6 s7 s8 s9 s10 s11 s12 s13 s14 s15 s16 s17 s18 hbA BA;generalize wA.drewN nq=X at *;have HA3:=iH (HA2.out.grow BX);have HX3:=iH (HX2.out.below BX HX2.out.lt);have hset:=HA3.out.setR a;have hset2:=hset.setM1 a ((b':Int),num,den) hml;have hx:=HX3.out.far (p:=⟨gr,a,none⟩) (Ne.symm hgx1) (.bool true);have y2:(X.setCell ⟨gr,a,none⟩ (.bool true)).cell? ⟨gx,2,none⟩=some (.int .i64 num):=hx.cell 2;have y3:(X.setCell ⟨gr,a,none⟩ (.bool true)).cell? ⟨gx,3,none⟩=some (.int .i64 den):=hx.cell 3;have t1:X.cell? ⟨gr,a,none⟩=some (.bool false):=(HA3.out.br.cell a).trans Hra.out;have t2:X.frozen? ⟨gr,a,none⟩=false:=HA3.out.br.frozen a;have t3:=HA3.out.br.lt;have u1:(X.setCell ⟨gr,a,none⟩ (.bool true)).cell? ⟨gm,a*3,none⟩=some (.int .i64 (itemAt ml a)):=(hset.bm.cell _).trans (tcells_at ml a hml).1;have u2:(X.setCell ⟨gr,a,none⟩ (.bool true)).cell? ⟨gm,a*3+1,none⟩=some (.int .i64 (numAt ml a)):=(hset.bm.cell _).trans (tcells_at ml a hml).2.1;have u3:(X.setCell ⟨gr,a,none⟩ (.bool true)).cell? ⟨gm,a*3+2,none⟩=some (.int .i64 (denAt ml a)):=(hset.bm.cell _).trans (tcells_at ml a hml).2.2;have v1:(X.setCell ⟨gr,a,none⟩ (.bool true)).frozen? ⟨gm,a*3,none⟩=false:=hset.bm.frozen _;have v2:(X.setCell ⟨gr,a,none⟩ (.bool true)).frozen? ⟨gm,a*3+1,none⟩=false:=hset.bm.frozen _;have v3:(X.setCell ⟨gr,a,none⟩ (.bool true)).frozen? ⟨gm,a*3+2,none⟩=false:=hset.bm.frozen _;have v4:gm<(X.setCell ⟨gr,a,none⟩ (.bool true)).heap.size:=hset.bm.lt;have HF:=iH hset2;have HN:=iH (Hnext.out he);clear hset hset2 hx HA3 HX3;go_wp2_with fail;go_roundw
           case rel=>exact⟨k+1,by omega,by go_num,HN.out,by rw[Hst.out,Hstd.out];exact HF.out⟩
           case measure=>simp[intOf];omega
          ·by_cases g1:num=1
           ·have g1':(num != 1)=false:=by simpa using g1
            by_cases g2:den=1
            ·have g2':(den != 1)=false:=by simpa using g2
             have hq:typeB ⟨n1,true,m1,c1',w1',b1,l1⟩ ⟨n2,o2,m2,c2',w2',b2,l2⟩ ⟨old,new,num,den⟩=true:=by simp[typeB,hal,g1,g2]
             clear g1 g2;have he:renErr lo ln ren ⟨old,new,num,den⟩=0:=by rw[Herd.out];rw[if_neg (by rw[hq];decide)]
             obtain⟨s1,s2,s3,s4,s5,s6,s7,s8,s9,s10,s11,s12,s13,s14,s15,s16,s17,s18⟩:=HS.out W (Below.refl _ _);refine wp_region_mid 10 (by kernel_rfl) (by kernel_rfl) ?_;simp only[List.take_succ_cons,List.take_zero,List.drop_succ_cons,List.drop_zero]
             repeat still_step
             try refine wpStill_nil ?_
             go_wp2_with fail;refine(AK.out _).mono ?_;rintro e wA ⟨rfl,hbA⟩;have BA:Below W.heap.size W wA:=(Below.refl W.heap.size W).drew.trans hbA;clear s1 s2 s3 s4 s5 s6 s7 s8 s9 s10 s11 s12 s13 s14 s15 s16 s17 s18;obtain⟨s1,s2,s3,s4,s5,s6,s7,s8,s9,s10,s11,s12,s13,s14,s15,s16,s17,s18⟩:=HS.out wA BA;go_wp2_with fail
             repeat (go_big_quiet_step (fail))
             refine wpQuiet_nil ?_;intro _ hw';obtain⟨nq,hw''⟩:=hw';subst hw'';have BX:Below W.heap.size W (wA.drewN nq):=bel_drewN BA nq;clear s1 s2 s3 s4 s5 s6 s7 s8 s9 s10 s11 s12 s13 s14 s15 s16 s17 s18 hbA BA;generalize wA.drewN nq=X at *;have HA3:=iH (HA2.out.grow BX);have HX3:=iH (HX2.out.below BX HX2.out.lt);have hset:=HA3.out.setR a;have hset2:=hset.setM1 a ((b':Int),num,den) hml;have hx:=HX3.out.far (p:=⟨gr,a,none⟩) (Ne.symm hgx1) (.bool true);have y2:(X.setCell ⟨gr,a,none⟩ (.bool true)).cell? ⟨gx,2,none⟩=some (.int .i64 num):=hx.cell 2;have y3:(X.setCell ⟨gr,a,none⟩ (.bool true)).cell? ⟨gx,3,none⟩=some (.int .i64 den):=hx.cell 3;have t1:X.cell? ⟨gr,a,none⟩=some (.bool false):=(HA3.out.br.cell a).trans Hra.out;have t2:X.frozen? ⟨gr,a,none⟩=false:=HA3.out.br.frozen a;have t3:=HA3.out.br.lt;have u1:(X.setCell ⟨gr,a,none⟩ (.bool true)).cell? ⟨gm,a*3,none⟩=some (.int .i64 (itemAt ml a)):=(hset.bm.cell _).trans (tcells_at ml a hml).1;have u2:(X.setCell ⟨gr,a,none⟩ (.bool true)).cell? ⟨gm,a*3+1,none⟩=some (.int .i64 (numAt ml a)):=(hset.bm.cell _).trans (tcells_at ml a hml).2.1;have u3:(X.setCell ⟨gr,a,none⟩ (.bool true)).cell? ⟨gm,a*3+2,none⟩=some (.int .i64 (denAt ml a)):=(hset.bm.cell _).trans (tcells_at ml a hml).2.2;have v1:(X.setCell ⟨gr,a,none⟩ (.bool true)).frozen? ⟨gm,a*3,none⟩=false:=hset.bm.frozen _;have v2:(X.setCell ⟨gr,a,none⟩ (.bool true)).frozen? ⟨gm,a*3+1,none⟩=false:=hset.bm.frozen _;have v3:(X.setCell ⟨gr,a,none⟩ (.bool true)).frozen? ⟨gm,a*3+2,none⟩=false:=hset.bm.frozen _;have v4:gm<(X.setCell ⟨gr,a,none⟩ (.bool true)).heap.size:=hset.bm.lt;have HF:=iH hset2;have HN:=iH (Hnext.out he);clear hset hset2 hx HA3 HX3;go_wp2_with fail;go_roundw
             case rel=>exact⟨k+1,by omega,by go_num,HN.out,by rw[Hst.out,Hstd.out];exact HF.out⟩
             case measure=>simp[intOf];omega
            ·have g2':(den != 1)=true:=by simpa using g2
             have hq:typeB ⟨n1,true,m1,c1',w1',b1,l1⟩ ⟨n2,o2,m2,c2',w2',b2,l2⟩ ⟨old,new,num,den⟩=false:=by simp[typeB,g2]
             clear g1 g2;have he:renErr lo ln ren ⟨old,new,num,den⟩=9:=by rw[Herd.out];rw[if_pos hq]
             obtain⟨s1,s2,s3,s4,s5,s6,s7,s8,s9,s10,s11,s12,s13,s14,s15,s16,s17,s18⟩:=HS.out W (Below.refl _ _);refine wp_region_mid 10 (by kernel_rfl) (by kernel_rfl) ?_;simp only[List.take_succ_cons,List.take_zero,List.drop_succ_cons,List.drop_zero]
             repeat still_step
             try refine wpStill_nil ?_
             go_wp2_with fail;refine(AK.out _).mono ?_;rintro e wA ⟨rfl,hbA⟩;have BA:Below W.heap.size W wA:=(Below.refl W.heap.size W).drew.trans hbA;clear s1 s2 s3 s4 s5 s6 s7 s8 s9 s10 s11 s12 s13 s14 s15 s16 s17 s18;obtain⟨s1,s2,s3,s4,s5,s6,s7,s8,s9,s10,s11,s12,s13,s14,s15,s16,s17,s18⟩:=HS.out wA BA;go_wp2_with fail
             repeat (go_big_quiet_step (fail))
             refine wpQuiet_nil ?_;intro _ hw';obtain⟨nq,hw''⟩:=hw';subst hw'';have BX:Below W.heap.size W (wA.drewN nq):=bel_drewN BA nq;clear s1 s2 s3 s4 s5 s6 s7 s8 s9 s10 s11 s12 s13 s14 s15 s16 s17 s18 hbA BA;generalize wA.drewN nq=X at *;go_wp2_with fail;go_ret2;exact newPost_err (by rw[Herr.out (by rw[he];decide),he]) (by decide) (HA2.out.grow BX).below
           ·have g1':(num != 1)=true:=by simpa using g1
            have hq:typeB ⟨n1,true,m1,c1',w1',b1,l1⟩ ⟨n2,o2,m2,c2',w2',b2,l2⟩ ⟨old,new,num,den⟩=false:=by simp[typeB,g1]
            clear g1;have he:renErr lo ln ren ⟨old,new,num,den⟩=9:=by rw[Herd.out];rw[if_pos hq]
            obtain⟨s1,s2,s3,s4,s5,s6,s7,s8,s9,s10,s11,s12,s13,s14,s15,s16,s17,s18⟩:=HS.out W (Below.refl _ _);refine wp_region_mid 10 (by kernel_rfl) (by kernel_rfl) ?_;simp only[List.take_succ_cons,List.take_zero,List.drop_succ_cons,List.drop_zero]
            repeat still_step
            try refine wpStill_nil ?_
            go_wp2_with fail;refine(AK.out _).mono ?_;rintro e wA ⟨rfl,hbA⟩;have BA:Below W.heap.size W wA:=(Below.refl W.heap.size W).drew.trans hbA;clear s1 s2 s3 s4 s5 s6 s7 s8 s9 s10 s11 s12 s13 s14 s15 s16 s17 s18;obtain⟨s1,s2,s3,s4,s5,s6,s7,s8,s9,s10,s11,s12,s13,s14,s15,s16,s17,s18⟩:=HS.out wA BA;go_wp2_with fail
            repeat (go_big_quiet_step (fail))
            refine wpQuiet_nil ?_;intro _ hw';obtain⟨nq,hw''⟩:=hw';subst hw'';have BX:Below W.heap.size W (wA.drewN nq):=bel_drewN BA nq;clear s1 s2 s3 s4 s5 s6 s7 s8 s9 s10 s11 s12 s13 s14 s15 s16 s17 s18 hbA BA;generalize wA.drewN nq=X at *;go_wp2_with fail;go_ret2;exact newPost_err (by rw[Herr.out (by rw[he];decide),he]) (by decide) (HA2.out.grow BX).below
        ·rw[hbr]at rn0 Herd;have he:renErr lo ln ren ⟨old,new,num,den⟩=8:=by rw[Herd.out];rfl
         clear hbr Hra0 Hnext Hst Hstd Herd;subst hAo;subst hAx;go_wp2_with fail;go_ret2;exact newPost_err (by rw[Herr.out (by rw[he];decide),he]) (by decide) HA1.out.below
   ·have hkR : k = R.n := by omega
    have hE0:renE lo ln rs rs.length=0:=by rw[<- Hlr.out,<- hkR];exact HE.out
    have hA0:=HA.out;rw[hkR,Hlr.out]at hA0;obtain⟨len1,len2⟩:=renTo_len lo ln rs rs.length;have HnE:Hid (newE lo ln rs=endE lo ln (renTo lo ln rs rs.length) no):=by
     show newE lo ln rs=_;unfold newE;rw[if_neg (by rw[hE0];decide),Hlo.out]
    have HnL:Hid (newE lo ln rs=0->newL lo ln rs=endTo lo ln (renTo lo ln rs rs.length) no):=fun h=>by unfold newL;rw[if_pos h,Hlo.out]
    rw[<- endTo_zero lo ln (renTo lo ln rs rs.length) len2]at hA0;have HA0:=iH hA0;have Hlen1:=iH len1;have B1c:=HA0.out.b1.cell 0;have qq0:wr.cell? ⟨w.heap.size,0,none⟩=some (.slice Ao no co):=B1c;clear B1c hA0 len1 len2 hE0 hkR HE HA;generalize renTo lo ln rs rs.length=st at *;go_wp2_with fail;clear qq0;go_loopw [135] (fun i wz=>∃k:Nat,k<=no∧i=.int .i64 k∧endE lo ln st k=0∧NewAt w wz ⟨Ao,no,co⟩ ro to_ xo ⟨Ax,nx,cx⟩ rx tx xx bo bn gm gr lo ln st.1 (endTo lo ln st k)) (fun i _=>no-(intOf i).toNat)
    case atStart=>exact⟨0,Nat.zero_le _,rfl,rfl,HA0.out⟩
    case round =>
     obtain⟨k,hk,rfl,hE,hA⟩:=hrel;clear HA0;have HE:=iH hE;have HA:=iH hA;clear hE hA;by_cases hlt:k<no
     ·have hkl:k<lo.length:=by have:=Hlo.out;omega
      obtain⟨bq,oq,rfl,hbq,qc0,qc1,qc2,qc3,qc4,qc5,qc6⟩:=(Ho.out.below HA.out.below).at_ k hlt;have hpm:=size_max (Ho.out.name _ (itAt_mem hkl));have k0:(0:Int)<=(k:Int):=by omega
      have k1:(k:Int)<(no:Int):=by omega
      have HA1:=iH (HA.out.grow ((Below.refl _ wr).alloc (Nat.le_refl _) (.cells #[.string (itAt lo k).name,.bool (itAt lo k).object,.bool (itAt lo k).mixed,.bool (itAt lo k).coin,.int .i64 (itAt lo k).wear,.int .i64 (itAt lo k).bnd,.int .i64 (itAt lo k).level] 42)));have HX:=iH (Bk.new wr 42 [.string (itAt lo k).name,.bool (itAt lo k).object,.bool (itAt lo k).mixed,.bool (itAt lo k).coin,.int .i64 (itAt lo k).wear,.int .i64 (itAt lo k).bnd,.int .i64 (itAt lo k).level]);have rn:=(HA1.out.br.cell k).trans (bools_at st.1 k (by have:=Hlen1.out;omega));have hgm:gm<wr.heap.size:=HA.out.bm.lt;have hml:k<(endTo lo ln st k).length:=by rw[endTo_length];have:=Hlo.out;omega
      have mt:=tcells_at (endTo lo ln st k) k hml;have u1:=(HA.out.bm.cell (k*3)).trans mt.1;have u2:=(HA.out.bm.cell (k*3+1)).trans mt.2.1;have u3:=(HA.out.bm.cell (k*3+2)).trans mt.2.2;have v1:=HA.out.bm.frozen (k*3);have v2:=HA.out.bm.frozen (k*3+1);have v3:=HA.out.bm.frozen (k*3+2);clear mt;have Hsk:=iH (endTo_skip lo ln st k);have Hse:=iH (endTo_set lo ln st k hkl);have HE1:Hid (endE lo ln st (k+1)=if bAt st.1 k=true then 0 else keepErr ln (itAt lo k)):=by show endE lo ln st (k+1)=_;simp only[endE];rw[if_neg (by rw[HE.out];decide)]
      have HEn:Hid (endE lo ln st (k+1)≠0->newE lo ln rs=endE lo ln st (k+1)):=fun h=>by rw[HnE.out];exact endE_stays h no (by omega)
      have lk:=HA1.out.mn.look hpm;have Hkt:Hid (keepT ln (itAt lo k)=match idxTo ln nx (itAt lo k).name with | some b=>((b:Int),1,1) | none=>(-1,0,0)):=by show keepT ln (itAt lo k)=_;rw[Hln.out];rfl
      have Hke:Hid (keepErr ln (itAt lo k)=match idxTo ln nx (itAt lo k).name with | some b=>if alikeB (itAt lo k) (itAt ln b)=false then 9 else 0 | none=>0):=by show keepErr ln (itAt lo k)=_;rw[Hln.out];rfl
      clear hkl;generalize itAt lo k=ta at *;obtain⟨n1,o1,m1,c1',w1',b1,l1⟩:=ta;dsimp only at *;cases hbr:bAt st.1 k
      ·rw [hbr] at rn;rw[if_neg (by rw[hbr];decide)]at HE1;have Hs2:=iH (Hse.out (by rw[hbr];decide));clear hbr Hse Hsk;have HA2:=iH ((HA.out.setM1 k (-1,0,0) hml).grow ((Below.refl _ _).alloc (Nat.le_refl _) (.cells #[.string n1,.bool o1,.bool m1,.bool c1',.int .i64 w1',.int .i64 b1,.int .i64 l1] 42)));have hx2:=Bk.new (((wr.setCell ⟨gm,k*3,none⟩ (.int .i64 (-1))).setCell ⟨gm,k*3+1,none⟩ (.int .i64 0)).setCell ⟨gm,k*3+2,none⟩ (.int .i64 0)) 42 [.string n1,.bool o1,.bool m1,.bool c1',.int .i64 w1',.int .i64 b1,.int .i64 l1];rw[show((((wr.setCell ⟨gm,k*3,none⟩ (.int .i64 (-1))).setCell ⟨gm,k*3+1,none⟩ (.int .i64 0)).setCell ⟨gm,k*3+2,none⟩ (.int .i64 0))).heap.size=wr.heap.size from by simp[World.setCell]]at hx2;have HX2:=iH hx2;clear hx2;have lk2:=HA2.out.mn.look hpm;have x0:=HX2.out.cell 0;have x1:=HX2.out.cell 1;have x2:=HX2.out.cell 2;have x3:=HX2.out.cell 3;have x4:=HX2.out.cell 4;have x5:=HX2.out.cell 5;have x6:=HX2.out.cell 6;clear lk;generalize hmE:endTo lo ln st k=mE at *;clear hmE;cases hb:idxTo ln nx n1 with
       | none =>
         rw[hb]at lk2 Hkt Hke;dsimp only at Hkt Hke;rw[Hke.out]at HE1;rw[Hkt.out]at Hs2;simp only[Option.isSome_none,Option.getD_none]at lk2;clear hb Hkt Hke;go_wp2_with fail;go_roundw
         case rel=>exact⟨k+1,by omega,by go_num,HE1.out,by rw[<- Hs2.out];exact HA2.out⟩
         case measure=>simp[intOf];omega
       | some b' =>
         have hb1:=(idxTo_lt hb).1;rw[hb]at lk2 Hkt Hke;dsimp only at Hkt Hke;rw[Hke.out]at HE1;rw[Hkt.out]at Hs2;simp only[Option.isSome_some,Option.getD_some]at lk2;clear hb Hkt Hke;have i2:(0:Int)<=(b':Int):=by omega
         have i3:(b':Int)<(nx:Int):=by omega
         obtain⟨bp,op,rfl,hbp,pc0,pc1,pc2,pc3,pc4,pc5,pc6⟩:=(Hn.out.below HA2.out.below).at_ b' hb1;have p0:=HA2.out.b2.cell 0;have AK:=iH (fun U:World=>alike_any ⟨n1,o1,m1,c1',w1',b1,l1⟩ (itAt ln b') U);generalize itAt ln b'=tb at *;obtain⟨n2,o2,m2,c2',w2',b2,l2⟩:=tb;dsimp only at *;go_wp2_with fail;have HS2:Hid ((mE.set k (-1,0,0)).set k ((b':Int),1,1)=endTo lo ln st (k+1)):=by show _=_;rw[List.set_set];exact Hs2.out
         generalize(((wr.setCell ⟨gm,k*3,none⟩ (.int .i64 (-1))).setCell ⟨gm,k*3+1,none⟩ (.int .i64 0)).setCell ⟨gm,k*3+2,none⟩ (.int .i64 0)).alloc (.cells #[.string n1,.bool o1,.bool m1,.bool c1',.int .i64 w1',.int .i64 b1,.int .i64 l1] 42)=W at *;clear u1 u2 u3 v1 v2 v3 qc0 qc1 qc2 qc3 qc4 qc5 qc6 HX HA1 HA Hs2 rn lk2;generalize wr.heap.size=gx at *;go_still_tail 6,(by kernel_rfl);change wpList _ _ _ _ _ W.drew;go_wp2_with fail;refine(AK.out _).mono ?_;rintro e wA ⟨rfl,hbA⟩;have BA:Below W.heap.size W wA:=(Below.refl W.heap.size W).drew.trans hbA;have HA3:=iH (HA2.out.grow BA);clear hbA BA x0 x1 x2 x3 x4 x5 x6 pc0 pc1 pc2 pc3 pc4 pc5 pc6 p0 HA2 HX2;cases hal:alikeB ⟨n1,o1,m1,c1',w1',b1,l1⟩ ⟨n2,o2,m2,c2',w2',b2,l2⟩
         ·rw[if_pos hal]at HE1;have HEf:=iH (HEn.out (by rw[HE1.out];decide));rw[HE1.out]at HEf;clear hal;go_wp2_with fail;go_ret2;exact newPost_err HEf.out (by decide) HA3.out.below
         ·rw[if_neg (by rw[hal];decide)]at HE1;clear hal;have hml2:k<(mE.set k (-1,0,0)).length:=by simpa using hml
          have mt:=tcells_at (mE.set k (-1,0,0)) k hml2;have u1:=(HA3.out.bm.cell (k*3)).trans mt.1;have u2:=(HA3.out.bm.cell (k*3+1)).trans mt.2.1;have u3:=(HA3.out.bm.cell (k*3+2)).trans mt.2.2;have v1:=HA3.out.bm.frozen (k*3);have v2:=HA3.out.bm.frozen (k*3+1);have v3:=HA3.out.bm.frozen (k*3+2);have v4:=HA3.out.bm.lt;have hF:=HA3.out.setM1 k ((b':Int),1,1) hml2;rw[HS2.out]at hF;have HF:=iH hF;clear hF mt;generalize itemAt (mE.set k (-1,0,0)) k=q1 at *;generalize numAt (mE.set k (-1,0,0)) k=q2 at *;generalize denAt (mE.set k (-1,0,0)) k=q3 at *;go_wp2_with fail;go_roundw
          case rel=>exact⟨k+1,by omega,by go_num,HE1.out,HF.out⟩
          case measure=>simp[intOf];omega
      ·rw[hbr]at rn;rw[if_pos hbr]at HE1;have Hs2:=iH (Hsk.out hbr);clear hbr Hse Hsk lk u1 u2 u3 v1 v2 v3 hml;go_wp2_with fail;go_roundw
       case rel=>exact⟨k+1,by omega,by go_num,HE1.out,by rw[Hs2.out];exact HA1.out⟩
       case measure=>simp[intOf];omega
     ·obtain rfl:k=no:=by omega
      have hz:newE lo ln rs=0:=by rw[HnE.out];exact HE.out
      have hL:=HnL.out hz;have hfin:NewPost w lo ln rs (.returned (.tuple #[.slice (some ⟨gm,0,none⟩) k k,.int .i64 0])) wr:=by
       refine⟨some ⟨gm,0,none⟩,k,?_,?_,HA.out.below⟩
       ·rw[hL,hz,endTo_length,<- Hlo.out]
       ·rw[hL];exact .of_bk HA.out.bm (by have:=HA.out.gm2;omega) (.inl rfl)
      have HF:=iH hfin;clear hfin hL hz;go_wp2_with fail;go_ret2;exact HF.out
theorem ItemsV.itsR1 {w:World} {A:Option Addr} {n:Nat} {l:List It} (h:ItemsV w A n l):ItsR w A n l:=⟨h.row,h.len,h.small,fun t ht=>by have:=(h.name t ht).len;omega⟩
theorem New_valid {w:World} {io ro to_ xo ix rx tx xx R:Sl} {lo ln:List It} {rs:List Ren} (ho:ItemsV w io.A io.n lo) (hn:ItemsV w ix.A ix.n ln) (hr:RensV w R.A R.n rs)
 (HV:Hid (∀W:World,Below w.heap.size w W->Calls Tryz.prog 65 #[catS io ro to_ xo,catS ix rx tx xx] W fun e w'=>e=.returned (.int .i64 0)∧Below W.heap.size W w')) :
 Calls Tryz.prog 64 #[catS io ro to_ xo,catS ix rx tx xx,.slice R.A R.n R.c] w (NewPost w lo ln rs):=New_valid2 ho.itsR1 hn.itsR1 hr HV
end Go.Proofs.YtiecjoijnkghbaaGreatDoor
