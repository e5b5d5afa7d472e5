/- Add gives a history a version. The law's between. Parts of slices. Between. The state of VersionHistory's first loop. -/
import Derived.Test.YthjfdfdgbpbanaaGreatDoorX16
import Derived.Test.YthjfdfdgbpbanaaGreatDoorX21
import Derived.Test.YthjfdfdgbpbanaaGreatDoorX29
import Derived.Test.YthjfdfdgbpbanaaGreatDoorX31
set_option linter.unusedVariables false
set_option linter.unusedSimpArgs false
set_option maxRecDepth 100000
set_option maxHeartbeats 8000000
open Go.RowKit
namespace Go.Proofs.YthjfdfdgbpbanaaGreatDoor
theorem info28a:(Tryz.prog.info? 28).map (fun i=>(i.zero,i.size,i.bytes))=some (some (.agg #[.slice none 0 0,.slice none 0 0,.slice none 0 0,.slice none 0 0]),4,96):=by kernel_rfl
theorem info33a:(Tryz.prog.info? 33).map (fun i=>(i.zero,i.size,i.bytes))=some (some (.slice none 0 0),1,24):=by kernel_rfl
theorem new4k (w:World) (t:TypeId) (a b c d:Value):∀j u,([a,b,c,d]:List Value)[j]? = some u->(w.alloc (.cells #[a,b,c,d] t)).cell? ((⟨w.heap.size,0,none⟩:Addr).add j)=some u:=by
 intro j u hu;have k:=Bk.new w t [a,b,c,d];have e:(⟨w.heap.size,0,none⟩:Addr).add j=⟨w.heap.size,j,none⟩:=by
  unfold Addr.add;split
  ·subst_vars;rfl
  ·simp
 rw[e];exact(k.cell j).trans hu
theorem one4k (m:CatM):∀u∈m.cells,u.oneCell'=true:=by
 intro u hu;simp only[CatM.cells,List.mem_cons,List.not_mem_nil,or_false]at hu;rcases hu with rfl|rfl|rfl|rfl <;> rfl
theorem newCE_zero {a b:CatM} {rs:List Ren} (h:newCE a b rs=0):codeBoth a b=0:=by
 unfold newCE at h;by_cases e:codeBoth a b≠0
 ·rw[if_pos e]at h;exact absurd h e
 ·exact Classical.not_not.1 e
theorem newCL_len (a b:CatM) (rs:List Ren):(newCL a b rs).length<=a.items.length:=by
 unfold newCL newL;split
 ·simp
 ·split <;> simp
theorem add_any {W : World} {B h : Nat} {vc vh : Value} {ms : List CatM} {sls : List Sl} {chs : List (List Tr)} {L m : CatM} {A Ah : Option Addr} {n nh : Nat} (c ch : Nat) {rs : List Ren} {hs : List Int}
 (H:HistS W B h vc vh (ms ++ [L]) sls chs) (hl:ms.length<=50) (hsl:sls.length<=50) (hB:B<=W.heap.size) (hm:m.Ok W) (hr:RensV W A n rs) (hh:IntsV W Ah nh hs) (hu:unitsB hs=true) (hnh:nh<=1000000) (hT:Tab W) :
 Calls Tryz.prog 37 #[.pointer (some ⟨h,0,none⟩),.agg m.cells.toArray,.slice A n c,.slice Ah nh ch] W (AddQ W B h vc vh (ms ++ [L]) sls chs L m rs hs):=by
 obtain⟨i28,hi28,x0,x1,x2⟩:=info_parts info28a;obtain⟨i33,hi33,y0,y1,y2⟩:=info_parts info33a;obtain⟨mi,mr,mt,mx,⟨Mi,Min,Mic⟩,⟨Mr,Mrn,Mrc⟩,⟨Mt,Mtn,Mtc⟩,⟨Mx,Mxn,Mxc⟩⟩:=m;obtain⟨li,lr,lt,lx,⟨Li,Lin,Lic⟩,⟨Lr,Lrn,Lrc⟩,⟨Lt,Ltn,Ltc⟩,⟨Lx,Lxn,Lxc⟩⟩:=L;have hb0:Below W.heap.size W (W.alloc (.cells #[.slice Mi Min Mic,.slice Mr Mrn Mrc,.slice Mt Mtn Mtc,.slice Mx Mxn Mxc] 28)):=(Below.refl _ _).alloc (Nat.le_refl _) _;have kx:=Bk.new W 28 [.slice Mi Min Mic,.slice Mr Mrn Mrc,.slice Mt Mtn Mtc,.slice Mx Mxn Mxc];obtain⟨k,hk⟩:∃k,ms.length=k:=⟨_,rfl⟩;obtain⟨kn,hkn⟩:∃kn,k+1=kn:=⟨_,rfl⟩;have hlen:(ms ++ [(⟨li,lr,lt,lx,⟨Li,Lin,Lic⟩,⟨Lr,Lrn,Lrc⟩,⟨Lt,Ltn,Ltc⟩,⟨Lx,Lxn,Lxc⟩⟩:CatM)]).length=kn:=by simp[hk,hkn]
 have hk50:k<=50:=by omega
 have hkn51:kn<=51:=by omega
 have hkI:(k:Int)<(kn:Int):=by omega
 have Hkn:=iH hkn;have hrc:=H.rc;rw[hlen]at hrc;obtain⟨gc,cap,hv,_,hgl⟩:=hrc.form (by omega);subst hv;have hlast:(ms ++ [(⟨li,lr,lt,lx,⟨Li,Lin,Lic⟩,⟨Lr,Lrn,Lrc⟩,⟨Lt,Ltn,Ltc⟩,⟨Lx,Lxn,Lxc⟩⟩:CatM)])[k]'(by omega)=⟨li,lr,lt,lx,⟨Li,Lin,Lic⟩,⟨Lr,Lrn,Lrc⟩,⟨Lt,Ltn,Ltc⟩,⟨Lx,Lxn,Lxc⟩⟩:=by subst hk;simp
 have HLast:Hid (∀U:World,HistS U B h (.slice (some ⟨gc,0,none⟩) kn cap) vh (ms ++ [⟨li,lr,lt,lx,⟨Li,Lin,Lic⟩,⟨Lr,Lrn,Lrc⟩,⟨Lt,Ltn,Ltc⟩,⟨Lx,Lxn,Lxc⟩⟩]) sls chs->(⟨li,lr,lt,lx,⟨Li,Lin,Lic⟩,⟨Lr,Lrn,Lrc⟩,⟨Lt,Ltn,Ltc⟩,⟨Lx,Lxn,Lxc⟩⟩:CatM).Ok U∧U.cell? ⟨h,0,none⟩=some (.slice (some ⟨gc,0,none⟩) kn cap)∧U.cell? ⟨gc,k*4,none⟩=some (.slice Li Lin Lic)∧U.cell? ⟨gc,k*4+1,none⟩=some (.slice Lr Lrn Lrc)∧U.cell? ⟨gc,k*4+2,none⟩=some (.slice Lt Ltn Ltc)∧U.cell? ⟨gc,k*4+3,none⟩=some (.slice Lx Lxn Lxc)):=fun U h1=>by
  have h2:=h1.rc;rw[hlen]at h2;exact⟨h1.cats _ (by simp),h1.bk.cell 0,own_at0 CatM.len h2 (by omega) hlast (by omega) rfl,own_at CatM.len h2 (by omega) hlast 1 (by omega) rfl,own_at CatM.len h2 (by omega) hlast 2 (by omega) rfl,own_at CatM.len h2 (by omega) hlast 3 (by omega) rfl⟩
 have HH:=iH (H.below hb0);have HM:=iH (hm.below hb0);have HR:=iH (hr.below hb0);have HI:=iH (hh.below hb0);have HT:=iH (hT.below hb0 hT.1);have HB0:=iH hb0;have HK0:=iH (HKeep.of_below (h:=h) (vc:=(.slice (some ⟨gc,0,none⟩) kn cap)) (vh:=vh) hb0);have HKX:=iH kx;have Hu:=iH hu;have Hk:=iH hk;have HLn:=iH hlen;have HH0:=iH H;have HBs:=iH hB;have hgc:gc<W.heap.size:=hgl;have hhl:h<W.heap.size:=H.bk.lt;have Hhn:=iH hh.len;clear H hm hr hh hT hb0 kx hu hk hkn hlen hrc hlast hgl;show Calls Tryz.prog 37 #[.pointer (some ⟨h,0,none⟩),.agg #[.slice Mi Min Mic,.slice Mr Mrn Mrc,.slice Mt Mtn Mtc,.slice Mx Mxn Mxc],.slice A n c,.slice Ah nh ch] W _;go_enter Tryz.func37,Tryz.ntmps37;go_wp2_with fail;obtain⟨V,hV⟩:∃V,W.alloc (.cells #[.slice Mi Min Mic,.slice Mr Mrn Mrc,.slice Mt Mtn Mtc,.slice Mx Mxn Mxc] 28)=V:=⟨_,rfl⟩;obtain⟨gx,hgx⟩:∃gx,W.heap.size=gx:=⟨_,rfl⟩;rw[hV]at HH HM HR HI HT HB0 HK0 HKX⊢;rw[hgx]at HB0 HKX hgc hhl;(try rw[hgx]);have Hgx:=iH hgx;clear hgx hV;have hLs:Hid (∀U:World,Below V.heap.size V U->Calls Tryz.prog 38 #[.pointer (some ⟨h,0,none⟩)] U fun e w'=>e=.returned (.int .i64 (k:Int))∧U=w'):=fun U hU=>by
  have h1:=last_any (h:=h) (n:=kn) (by have:=Hkn.out;omega) (HLast.out U (HH.out.below hU)).2.1;rw[show((kn:Int)-1)=(k:Int) by have:=Hkn.out;omega]at h1;exact h1
 have HS:Hid (∀U:World,Below V.heap.size V U->U.cell? ⟨h,0,none⟩=some (.slice (some ⟨gc,0,none⟩) kn cap)∧U.cell? ⟨gc,k*4,none⟩=some (.slice Li Lin Lic)∧U.cell? ⟨gc,k*4+1,none⟩=some (.slice Lr Lrn Lrc)∧U.cell? ⟨gc,k*4+2,none⟩=some (.slice Lt Ltn Ltc)∧U.cell? ⟨gc,k*4+3,none⟩=some (.slice Lx Lxn Lxc)):=fun U hU=>(HLast.out U (HH.out.below hU)).2
 have gcV:gc<V.heap.size:=by have:=HKX.out.lt;omega
 go_cut [10] (fun x wx=>∃g,x=.pointer (some ⟨g,0,none⟩)∧Bk wx g 28 [.slice Li Lin Lic,.slice Lr Lrn Lrc,.slice Lt Ltn Ltc,.slice Lx Lxn Lxc]∧Below V.heap.size V wx)
 case first =>
  have hk0:(0:Int)<=(k:Int):=by omega
  go_region_held3 (fun U=>U.cell? ⟨h,0,none⟩=some (.slice (some ⟨gc,0,none⟩) kn cap)∧U.cell? ⟨gc,k*4,none⟩=some (.slice Li Lin Lic)∧U.cell? ⟨gc,k*4+1,none⟩=some (.slice Lr Lrn Lrc)∧U.cell? ⟨gc,k*4+2,none⟩=some (.slice Lt Ltn Ltc)∧U.cell? ⟨gc,k*4+3,none⟩=some (.slice Lx Lxn Lxc)) (first | exact HS.out _ (Below.refl _ V).drew | exact HS.out _ ((Below.refl _ V).drew.alloc (Nat.le_refl _) _))
   (first | (go_at_call 38;(with_reducible refine(hLs.out _ ?_).mono ?_);(first | exact(Below.refl _ V).drew | exact(Below.refl _ V).drew.alloc (Nat.le_refl _) _);rintro e w' ⟨rfl,rfl⟩))
  all_goals (try go_wp2_with fail)
  all_goals go_meet
  all_goals exact⟨_,rfl,Bk.new _ 28 [.slice Li Lin Lic,.slice Lr Lrn Lrc,.slice Lt Ltn Ltc,.slice Lx Lxn Lxc],(Below.refl _ V).drew.alloc (Nat.le_refl _) _⟩
 case rest =>
  obtain⟨g,rfl,kg,hbc⟩:=hcut;have HBk:Hid (∀U:World,Below V.heap.size V U->Below W.heap.size W U):=fun U hU=>by rw[Hgx.out];exact HB0.out.trans (hU.mono (by have:=HKX.out.lt;omega))
  have kx:=HKX.out.below hbc HKX.out.lt;have p0:=kg.k0;have p1:=kg.k1;have p2:=kg.k2;have p3:=kg.k3;have q0:=kx.k0;have q1:=kx.k1;have q2:=kx.k2;have q3:=kx.k3;have pl:=kg.lt;have ql:=kx.lt;have HH2:=iH (HH.out.below hbc);have HOL:=(HLast.out _ HH2.out).1;have HItm:=iH HOL.items.len;have KN:=iH (New_cat (w:=wc) (a:=⟨li,lr,lt,lx,⟨Li,Lin,Lic⟩,⟨Lr,Lrn,Lrc⟩,⟨Lt,Ltn,Ltc⟩,⟨Lx,Lxn,Lxc⟩⟩) (b:=⟨mi,mr,mt,mx,⟨Mi,Min,Mic⟩,⟨Mr,Mrn,Mrc⟩,⟨Mt,Mtn,Mtc⟩,⟨Mx,Mxn,Mxc⟩⟩) (R:=⟨A,n,c⟩) HOL (HM.out.below hbc) (HR.out.below hbc) (HT.out.below hbc HT.out.1));have HBc:=iH hbc;have HG:=iH kg;have HXc:=iH kx;have HNE:Hid (∀w' q,newCE ⟨li,lr,lt,lx,⟨Li,Lin,Lic⟩,⟨Lr,Lrn,Lrc⟩,⟨Lt,Ltn,Ltc⟩,⟨Lx,Lxn,Lxc⟩⟩ ⟨mi,mr,mt,mx,⟨Mi,Min,Mic⟩,⟨Mr,Mrn,Mrc⟩,⟨Mt,Mtn,Mtc⟩,⟨Mx,Mxn,Mxc⟩⟩ rs=q->q≠0->Below W.heap.size W w'->AddQ W B h (.slice (some ⟨gc,0,none⟩) kn cap) vh (ms ++ [⟨li,lr,lt,lx,⟨Li,Lin,Lic⟩,⟨Lr,Lrn,Lrc⟩,⟨Lt,Ltn,Ltc⟩,⟨Lx,Lxn,Lxc⟩⟩]) sls chs ⟨li,lr,lt,lx,⟨Li,Lin,Lic⟩,⟨Lr,Lrn,Lrc⟩,⟨Lt,Ltn,Ltc⟩,⟨Lx,Lxn,Lxc⟩⟩ ⟨mi,mr,mt,mx,⟨Mi,Min,Mic⟩,⟨Mr,Mrn,Mrc⟩,⟨Mt,Mtn,Mtc⟩,⟨Mx,Mxn,Mxc⟩⟩ rs hs (.returned (.tuple #[.int .i64 0,.int .i64 q])) w'):=fun w' q h1 h2 h3=>AddQ.e1 h1 h2 h3
  have HNB:Hid (∀w',newCE ⟨li,lr,lt,lx,⟨Li,Lin,Lic⟩,⟨Lr,Lrn,Lrc⟩,⟨Lt,Ltn,Ltc⟩,⟨Lx,Lxn,Lxc⟩⟩ ⟨mi,mr,mt,mx,⟨Mi,Min,Mic⟩,⟨Mr,Mrn,Mrc⟩,⟨Mt,Mtn,Mtc⟩,⟨Mx,Mxn,Mxc⟩⟩ rs=0->nh≠Lin->Below W.heap.size W w'->AddQ W B h (.slice (some ⟨gc,0,none⟩) kn cap) vh (ms ++ [⟨li,lr,lt,lx,⟨Li,Lin,Lic⟩,⟨Lr,Lrn,Lrc⟩,⟨Lt,Ltn,Ltc⟩,⟨Lx,Lxn,Lxc⟩⟩]) sls chs ⟨li,lr,lt,lx,⟨Li,Lin,Lic⟩,⟨Lr,Lrn,Lrc⟩,⟨Lt,Ltn,Ltc⟩,⟨Lx,Lxn,Lxc⟩⟩ ⟨mi,mr,mt,mx,⟨Mi,Min,Mic⟩,⟨Mr,Mrn,Mrc⟩,⟨Mt,Mtn,Mtc⟩,⟨Mx,Mxn,Mxc⟩⟩ rs hs (.returned (.tuple #[.int .i64 0,.int .i64 1])) w'):=fun w' h1 h2 h3=>AddQ.e2 h1 (by have h4:=HItm.out;have h5:=Hhn.out;dsimp only at h4⊢;omega) h3
  have HNM:Hid (∀w' k,newCE ⟨li,lr,lt,lx,⟨Li,Lin,Lic⟩,⟨Lr,Lrn,Lrc⟩,⟨Lt,Ltn,Ltc⟩,⟨Lx,Lxn,Lxc⟩⟩ ⟨mi,mr,mt,mx,⟨Mi,Min,Mic⟩,⟨Mr,Mrn,Mrc⟩,⟨Mt,Mtn,Mtc⟩,⟨Mx,Mxn,Mxc⟩⟩ rs=0->nh=Lin->missI (newCL ⟨li,lr,lt,lx,⟨Li,Lin,Lic⟩,⟨Lr,Lrn,Lrc⟩,⟨Lt,Ltn,Ltc⟩,⟨Lx,Lxn,Lxc⟩⟩ ⟨mi,mr,mt,mx,⟨Mi,Min,Mic⟩,⟨Mr,Mrn,Mrc⟩,⟨Mt,Mtn,Mtc⟩,⟨Mx,Mxn,Mxc⟩⟩ rs) hs=some k->Below W.heap.size W w'->AddQ W B h (.slice (some ⟨gc,0,none⟩) kn cap) vh (ms ++ [⟨li,lr,lt,lx,⟨Li,Lin,Lic⟩,⟨Lr,Lrn,Lrc⟩,⟨Lt,Ltn,Ltc⟩,⟨Lx,Lxn,Lxc⟩⟩]) sls chs ⟨li,lr,lt,lx,⟨Li,Lin,Lic⟩,⟨Lr,Lrn,Lrc⟩,⟨Lt,Ltn,Ltc⟩,⟨Lx,Lxn,Lxc⟩⟩ ⟨mi,mr,mt,mx,⟨Mi,Min,Mic⟩,⟨Mr,Mrn,Mrc⟩,⟨Mt,Mtn,Mtc⟩,⟨Mx,Mxn,Mxc⟩⟩ rs hs (.returned (.tuple #[.int .i64 (k:Nat),.int .i64 13])) w'):=fun w' k h1 h2 h3 h4=>AddQ.e3 h1 (by have h4:=HItm.out;have h5:=Hhn.out;dsimp only at h4⊢;omega) h3 h4
  have HNO:Hid (∀w' vc' vh' b' s,newCE ⟨li,lr,lt,lx,⟨Li,Lin,Lic⟩,⟨Lr,Lrn,Lrc⟩,⟨Lt,Ltn,Ltc⟩,⟨Lx,Lxn,Lxc⟩⟩ ⟨mi,mr,mt,mx,⟨Mi,Min,Mic⟩,⟨Mr,Mrn,Mrc⟩,⟨Mt,Mtn,Mtc⟩,⟨Mx,Mxn,Mxc⟩⟩ rs=0->nh=Lin->missI (newCL ⟨li,lr,lt,lx,⟨Li,Lin,Lic⟩,⟨Lr,Lrn,Lrc⟩,⟨Lt,Ltn,Ltc⟩,⟨Lx,Lxn,Lxc⟩⟩ ⟨mi,mr,mt,mx,⟨Mi,Min,Mic⟩,⟨Mr,Mrn,Mrc⟩,⟨Mt,Mtn,Mtc⟩,⟨Mx,Mxn,Mxc⟩⟩ rs) hs=none->HistS w' B h vc' vh' (ms ++ [⟨li,lr,lt,lx,⟨Li,Lin,Lic⟩,⟨Lr,Lrn,Lrc⟩,⟨Lt,Ltn,Ltc⟩,⟨Lx,Lxn,Lxc⟩⟩] ++ [b']) (sls ++ [s]) (chs ++ [newCL ⟨li,lr,lt,lx,⟨Li,Lin,Lic⟩,⟨Lr,Lrn,Lrc⟩,⟨Lt,Ltn,Ltc⟩,⟨Lx,Lxn,Lxc⟩⟩ ⟨mi,mr,mt,mx,⟨Mi,Min,Mic⟩,⟨Mr,Mrn,Mrc⟩,⟨Mt,Mtn,Mtc⟩,⟨Mx,Mxn,Mxc⟩⟩ rs])->b'.core=CatM.core ⟨mi,mr,mt,mx,⟨Mi,Min,Mic⟩,⟨Mr,Mrn,Mrc⟩,⟨Mt,Mtn,Mtc⟩,⟨Mx,Mxn,Mxc⟩⟩->s.n=(newCL ⟨li,lr,lt,lx,⟨Li,Lin,Lic⟩,⟨Lr,Lrn,Lrc⟩,⟨Lt,Ltn,Ltc⟩,⟨Lx,Lxn,Lxc⟩⟩ ⟨mi,mr,mt,mx,⟨Mi,Min,Mic⟩,⟨Mr,Mrn,Mrc⟩,⟨Mt,Mtn,Mtc⟩,⟨Mx,Mxn,Mxc⟩⟩ rs).length->HKeep W w' h (.slice (some ⟨gc,0,none⟩) kn cap) vh->Moved W (.slice (some ⟨gc,0,none⟩) kn cap) vc'->Moved W vh vh'->AddQ W B h (.slice (some ⟨gc,0,none⟩) kn cap) vh (ms ++ [⟨li,lr,lt,lx,⟨Li,Lin,Lic⟩,⟨Lr,Lrn,Lrc⟩,⟨Lt,Ltn,Ltc⟩,⟨Lx,Lxn,Lxc⟩⟩]) sls chs ⟨li,lr,lt,lx,⟨Li,Lin,Lic⟩,⟨Lr,Lrn,Lrc⟩,⟨Lt,Ltn,Ltc⟩,⟨Lx,Lxn,Lxc⟩⟩ ⟨mi,mr,mt,mx,⟨Mi,Min,Mic⟩,⟨Mr,Mrn,Mrc⟩,⟨Mt,Mtn,Mtc⟩,⟨Mx,Mxn,Mxc⟩⟩ rs hs (.returned (.tuple #[.int .i64 (kn:Int),.int .i64 0])) w'):=fun w' vc' vh' b' s h1 h2 h3 hH hc hs1 h6 h7 h8=>by
   have:=AddQ.ok h1 (by have h4:=HItm.out;have h5:=Hhn.out;dsimp only at h4⊢;omega) h3 hH hc hs1 h6 h7 h8;rw[HLn.out]at this;exact this
  have HTL:=iH (newCL_len ⟨li,lr,lt,lx,⟨Li,Lin,Lic⟩,⟨Lr,Lrn,Lrc⟩,⟨Lt,Ltn,Ltc⟩,⟨Lx,Lxn,Lxc⟩⟩ ⟨mi,mr,mt,mx,⟨Mi,Min,Mic⟩,⟨Mr,Mrn,Mrc⟩,⟨Mt,Mtn,Mtc⟩,⟨Mx,Mxn,Mxc⟩⟩ rs);have hLs2:Lin<=100000:=HOL.items.small;clear hbc kg kx HOL HS hLs;go_wp2_with fail;(with_reducible refine KN.out.mono ?_);rintro e w1 ⟨A1,c1,rfl,hfr,hb1⟩;obtain⟨q,hq⟩:∃q,newCE ⟨li,lr,lt,lx,⟨Li,Lin,Lic⟩,⟨Lr,Lrn,Lrc⟩,⟨Lt,Ltn,Ltc⟩,⟨Lx,Lxn,Lxc⟩⟩ ⟨mi,mr,mt,mx,⟨Mi,Min,Mic⟩,⟨Mr,Mrn,Mrc⟩,⟨Mt,Mtn,Mtc⟩,⟨Mx,Mxn,Mxc⟩⟩ rs=q:=⟨_,rfl⟩;obtain⟨ts,hts⟩:∃ts,newCL ⟨li,lr,lt,lx,⟨Li,Lin,Lic⟩,⟨Lr,Lrn,Lrc⟩,⟨Lt,Ltn,Ltc⟩,⟨Lx,Lxn,Lxc⟩⟩ ⟨mi,mr,mt,mx,⟨Mi,Min,Mic⟩,⟨Mr,Mrn,Mrc⟩,⟨Mt,Mtn,Mtc⟩,⟨Mx,Mxn,Mxc⟩⟩ rs=ts:=⟨_,rfl⟩;rw[hq]at HNE HNB HNM HNO⊢;rw[hts]at HNM HNO HTL hfr⊢;have HY:=iH (hfr.tosT c1 rfl);have HB1:=iH (HBc.out.trans (hb1.mono HBc.out.size));have htl:ts.length<=100000:=by have h1:=HTL.out;have h2:=HItm.out;(try dsimp only at h1);(try dsimp only at h2);omega
  have HG1:=iH (HG.out.below hb1 HG.out.lt);have HX1:=iH (HXc.out.below hb1 HXc.out.lt);have HQ:=iH hq;clear hq hts hfr hb1 KN p0 p1 p2 p3 q0 q1 q2 q3 HG HXc HTL HItm;obtain⟨tn,htn⟩:∃tn,ts.length=tn:=⟨_,rfl⟩;rw[htn]at HNO htl HY⊢;have Htn:=iH htn;clear htn;by_cases h0:q=0
  ·subst h0;have r0:=HG1.out.k0;have rl:=HG1.out.lt;by_cases hne:nh=Lin
   ·obtain rfl:Lin=nh:=hne.symm;have HNM':=iH (fun w' k=>HNM.out w' k rfl rfl);have HNO':=iH (fun w' vc' vh' b' s=>HNO.out w' vc' vh' b' s rfl rfl);clear HNM HNO HNE HNB hne;have en:((Lin:Int) != (Lin:Int))=false:=by simp
    have HI1:=HI.out.below HB1.out;have KU:=units_any (c:=ch) HI1.row HI1.len (by omega);rw[Hu.out]at KU;have HKU:=iH KU;have KM:=missing_any (c:=c1) (c':=ch) (⟨HY.out.tosV.row,Htn.out.symm⟩:TosV w1 A1 tn ts) HI1 (by omega) (by omega);have HKM:=iH KM;clear KU KM HI1;go_wp2_with fail;refine HKU.out.mono ?_;rintro e w2 ⟨rfl,rfl⟩;go_wp2_with fail;refine HKM.out.mono ?_;rintro e w2 ⟨rfl,rfl⟩;cases hmi:missI ts hs with
    | some k2 =>
      have HF:=iH (HNM'.out w1 k2 hmi (HBk.out _ HB1.out));clear hmi;simp only[Option.getD_some,Option.isSome_some];go_wp2_with fail;go_ret2;exact HF.out
    | none =>
      have HMI:=iH hmi;clear hmi;simp only[Option.getD_none,Option.isSome_none];have HB3:=iH (HB1.out.trans ((Below.refl w1.heap.size w1).drew.mono HB1.out.size));have HH3:=iH (HH.out.below HB3.out);have HX3:=iH (HX1.out.below (Below.refl w1.heap.size w1).drew HX1.out.lt);have HM3:=iH (HM.out.below HB3.out);have HY3:=iH (HY.out.below (Below.refl w1.heap.size w1).drew);have HKb:Hid (∀U:World,Below w1.drew.heap.size w1.drew U->HKeep W U h (.slice (some ⟨gc,0,none⟩) kn cap) vh):=fun U hU=>(HKeep.of_below (HBk.out _ HB3.out)).trans (.of_below hU) (Moved.refl _ _) (Moved.refl _ _)
      have KC:Hid (Calls Tryz.prog 81 #[.agg #[.slice Mi Min Mic,.slice Mr Mrn Mrc,.slice Mt Mtn Mtc,.slice Mx Mxn Mxc]] w1.drew (CatQ w1.drew ⟨mi,mr,mt,mx,⟨Mi,Min,Mic⟩,⟨Mr,Mrn,Mrc⟩,⟨Mt,Mtn,Mtc⟩,⟨Mx,Mxn,Mxc⟩⟩)):=copy_cat ⟨mi,mr,mt,mx,⟨Mi,Min,Mic⟩,⟨Mr,Mrn,Mrc⟩,⟨Mt,Mtn,Mtc⟩,⟨Mx,Mxn,Mxc⟩⟩ HM3.out;clear HG1 r0 rl HB1 HKU HKM;go_wp2_with fail;refine wp_region_X (fun w'=>Bk w' h 143 [(.slice (some ⟨gc,0,none⟩) kn cap),vh]∧Bk w' gx 28 [.slice Mi Min Mic,.slice Mr Mrn Mrc,.slice Mt Mtn Mtc,.slice Mx Mxn Mxc]) 11 (n:=12) rfl (by kernel_rfl) (⟨HH3.out.bk,HX3.out⟩) (fun hS=>?_);refine xS 0 52 hS ?_;refine xS 1 53 hS ?_;refine xS 2 54 hS ?_;refine xS 3 55 hS ?_;refine xS 4 56 hS ?_ (hy:=fun w' hS'=>by have e:=hS'.1.k0;(go_simp;try with_reducible rfl));refine xS 5 57 hS ?_ (hy:=fun w' hS'=>by have e0:=hS'.2.k0;have e1:=hS'.2.k1;have e2:=hS'.2.k2;have e3:=hS'.2.k3;have el:=hS'.2.lt;(go_simp;try with_reducible rfl));refine X_oR 6 rfl fun K hK=>?_
      go_simp;(with_reducible refine KC.out.mono ?_);rintro e w4 ⟨d,rfl,hd,hb4⟩;have HH4:=iH (HH3.out.below hb4);have HX4:=iH (HX3.out.below hb4 HX3.out.lt);have HD4:=iH (hd.ok HM3.out);have HDc:=iH hd.core;have HK4:=iH (HKb.out _ hb4);have HY4:=iH (HY3.out.below hb4);refine hK _ _ ⟨HH4.out.bk,HX4.out⟩ ?_;clear hd hb4 hK;refine X_oR 7 rfl fun K hK=>?_
      go_simp;have yb:Below w4.heap.size w4 (w4.alloc (.cells #[.slice d.si.A d.si.n d.si.c,.slice d.sr.A d.sr.n d.sr.c,.slice d.st.A d.st.n d.st.c,.slice d.sx.A d.sx.n d.sx.c] 28)):=(Below.refl _ _).alloc (Nat.le_refl _) _;have HH5:=iH (HH4.out.below yb);have HX5:=iH (HX4.out.below yb HX4.out.lt);have HD5:=iH (HD4.out.below yb);have HK5:=iH (HK4.out.trans (.of_below yb) (Moved.refl _ _) (Moved.refl _ _));have HY5:=iH (HY4.out.below yb);refine hK _ _ ⟨HH5.out.bk,HX5.out⟩ ?_;clear yb hK;refine X_oR 8 rfl fun K hK=>?_
      have hB5:B<=w4.heap.size+1:=by have:=HK5.out.size;simp at this;have:=HBs.out;omega
      have hown5:=HH5.out.rc;rw[HLn.out]at hown5;refine step_append_lies _ rfl (.tmp 56) (.tmp 59) 74 rfl B 28 i28 (.agg #[.slice none 0 0,.slice none 0 0,.slice none 0 0,.slice none 0 0]) 4 96 Tryz.underlying74 hi28 x0 x1 x2 rfl (by decide) _ kn (ccells (ms ++ [(⟨li,lr,lt,lx,⟨Li,Lin,Lic⟩,⟨Lr,Lrn,Lrc⟩,⟨Lt,Ltn,Ltc⟩,⟨Lx,Lxn,Lxc⟩⟩:CatM)])) rfl hown5 ⟨w4.heap.size,0,none⟩ 1 1 d.cells rfl rfl (new4k _ _ _ _ _ _) (one4k d) (by omega) (by unfold maxLen;omega) (by omega) (by simp;omega) (w4.heap.size+1) (by simp) ?_;intro g8 cap8 w8 hown8 (hgr8:World.grownBy _ w8 (Value.ownBlock (.slice (some ⟨gc,0,none⟩) kn cap))) (hlie:Value.ownBlock (.slice (some ⟨gc,0,none⟩) kn cap)=some g8∨g8=w4.heap.size+1) _;obtain⟨b8,hH8,hK8⟩:=HH5.out.addC hgr8 hown8 (by rw[HLn.out]) HD5.out;have HH8:=iH hH8;have hX8:Bk w8 gx 28 [.slice Mi Min Mic,.slice Mr Mrn Mrc,.slice Mt Mtn Mtc,.slice Mx Mxn Mxc]:=HX5.out.grown hgr8 (by simp[Value.ownBlock];omega);have HM8:Hid (Moved W (.slice (some ⟨gc,0,none⟩) kn cap) (.slice (some ⟨g8,0,none⟩) (kn+1) cap8)):=iH (fun b hb e=>by
       rcases hlie with hl|hl
       ·rw[hl];exact e
       ·have e2:g8=b:=by simpa[Value.ownBlock]using e
        have:=HK5.out.size;simp at this;omega)
      have HK8:=iH (HK5.out.trans hK8 (Moved.refl _ _) (Moved.refl _ _));have HY8:=iH (HY5.out.keep (hK8.keep HH5.out (by decide) (by decide) (by decide)) (hK8.keep HH5.out (by decide) (by decide) (by decide)));have z8:=b8.k0;have f8:=b8.frozen 0;have l8:=b8.lt;refine hK _ _ ⟨b8,hX8⟩ ?_;clear hK hown8 hgr8 hH8 hK8 hlie hown5 hB5;refine X_oR 9 rfl fun K hK=>?_
      go_simp;refine hK _ _ ⟨b8,hX8⟩ ?_;clear hK;refine X_oR 10 rfl fun K hK=>?_
      go_simp;refine hK _ _ ⟨b8,hX8⟩ ?_;clear hK;refine X_tail (by kernel_rfl) ?_;refine A_one 11 (by kernel_rfl) rfl rfl (fun K hK=>?_);go_simp;refine hK _ _ ?_;clear hK;refine A_done (by kernel_rfl) ?_;go_upto_region 11 with fail;obtain⟨X,hX⟩:∃X,w8.setCell ⟨h,0,none⟩ (.slice (some ⟨g8,0,none⟩) (kn+1) cap8)=X:=⟨_,rfl⟩;rw[hX]at HH8 HK8 HY8⊢;clear hX z8 f8 l8 b8 hX8;obtain⟨Av,cv,hv,_⟩:=row_of_owns HH8.out.rh;subst hv;obtain⟨sn,hsn⟩:∃sn,sls.length=sn:=⟨_,rfl⟩;rw[hsn]at hsl HH8 HK8 HNO';have HSn:=iH hsn;clear hsn;have HHX:=HH8;have HYX:=HY8;have HMX:=HM8;have HKX9:=HK8;clear HH8 HK8 HY8 HM8;have yb:Below X.heap.size X (X.alloc (.cells #[.slice A1 tn c1] 33)):=(Below.refl _ _).alloc (Nat.le_refl _) _;have HH9:=iH (HHX.out.below yb);have HY9:=iH (HYX.out.below yb);have HK9:=iH (HKX9.out.trans (.of_below yb) HMX.out (Moved.refl _ _));have hsz9:B<=(X.alloc (.cells #[.slice A1 tn c1] 33)).heap.size:=by have:=HK9.out.size;have:=HBs.out;omega
      have ho9:=HH9.out.rh;rw[HSn.out]at ho9;have HO9:=iH ho9;have z1:=HHX.out.bk.k1;have zl:=HHX.out.bk.lt;clear yb ho9 HHX HYX HKX9;go_wp2_with(at_builtin;refine wpList_append_lies _ rfl (.tmp 67) (.tmp 69) 141 rfl B 33 i33 (.slice none 0 0) 1 24 Tryz.underlying141 hi33 y0 y1 y2 rfl (by decide) _ sn (scells sls) rfl HO9.out ⟨X.heap.size,0,none⟩ 1 1 [.slice A1 tn c1] rfl rfl (new1 _ _ _) (one1sl ⟨A1,tn,c1⟩) (by omega) (by unfold maxLen;omega) (by omega) hsz9 (X.heap.size+1) (by simp) ?_);intro g9 cap9 w9 hown9' hgr9 hlie _;obtain⟨b9,hH9,hK9⟩:=HH9.out.addH (s:=⟨A1,tn,c1⟩) hgr9 hown9' (by rw[HSn.out]) HY9.out;have HHF:=iH hH9;have HMF:Hid (Moved W (.slice Av sn cv) (.slice (some ⟨g9,0,none⟩) (sn+1) cap9)):=iH (fun b hb e=>by
       rcases hlie with hl|hl
       ·rw[hl];exact e
       ·have e2:g9=b:=by simpa[Value.ownBlock]using e
        have:=HK9.out.size;simp at this;omega)
      have HKF:=iH (HK9.out.trans hK9 HMX.out (Moved.refl _ _));have z9:=b9.k1;have f9:=b9.frozen 1;have l9:=b9.lt;clear hown9' hgr9 hH9 hK9 hlie HO9 z1 zl hsz9 HH9;go_upto_region 12 with fail;obtain⟨Z,hZ⟩:∃Z,w9.setCell ⟨h,1,none⟩ (.slice (some ⟨g9,0,none⟩) (sn+1) cap9)=Z:=⟨_,rfl⟩;rw[hZ]at HHF HKF⊢;clear hZ z9 f9 l9 b9;have KL:=last_any (h:=h) (n:=kn+1) (by omega) (HHF.out.bk.cell 0);rw[show(((kn+1:Nat):Int)-1)=(kn:Int) by omega]at KL;have HKL:=iH KL;clear KL;go_wp2_with fail;refine HKL.out.mono ?_;rintro e w' ⟨rfl,rfl⟩;go_wp2;go_ret2;have hF:=HNO'.out Z _ _ d ⟨A1,tn,c1⟩ HMI.out HHF.out HDc.out rfl HKF.out HMX.out HMF.out;rw[<- HSn.out]at hF;exact hF
   ·have en:((nh:Int) != (Lin:Int))=true:=by simp;omega
    have HF:=iH (HNB.out w1 rfl hne (HBk.out _ HB1.out));go_wp2_with fail;go_ret2;exact HF.out
  ·have HF:=iH (HNE.out w1 q rfl h0 (HBk.out _ HB1.out));go_wp2;go_ret2;exact HF.out
def BetwQ (W:World) (r:List Tr×Int) (e:Ending) (w':World):Prop:=∃A c,e=.returned (.tuple #[.slice A r.1.length c,.int .i64 r.2])∧Row w' w'.heap.size A (tcells r.1)∧Below W.heap.size W w'
theorem BetwQ.err {W w':World} {ns:List Nat} {chs:List (List Tr)} {a b q:Int} (h:betwT ns chs a b=([],q)) (hb:Below W.heap.size W w'):BetwQ W (betwT ns chs a b) (.returned (.tuple #[.slice none 0 0,.int .i64 q])) w' :=
 ⟨none,0,by rw[h];rfl,by rw[h];exact .inl rfl,hb⟩
theorem betw_7 {ns:List Nat} {chs:List (List Tr)} {a b:Int} (h:a<0∨(ns.length:Int)<=a∨b<0∨(ns.length:Int)<=b):betwT ns chs a b=([],7):=by unfold betwT;rw[if_pos h]
theorem betw_1 {ns:List Nat} {chs:List (List Tr)} {a b:Int} (h:¬ (a<0∨(ns.length:Int)<=a∨b<0∨(ns.length:Int)<=b)) (h2:b<a):betwT ns chs a b=([],1):=by unfold betwT;rw[if_neg h,if_pos h2]
theorem betw_ok {ns:List Nat} {chs:List (List Tr)} {a b:Nat} (h:a<=b) (hb:b<ns.length):betwT ns chs a b=foldT (idL (ns[a]'(by omega))) ((chs.take b).drop a):=by
 unfold betwT;rw[if_neg (by omega),if_neg (by omega)];simp[show a<ns.length by omega]
theorem info68k:(Tryz.prog.info? 68).map (fun i=>(i.zero,i.size,i.bytes))=some (some (.agg #[.int .i64 0,.int .i64 0,.int .i64 0]),3,24):=by kernel_rfl
theorem TRow.get1 {W:World} {t:TypeId} {A:Option Addr} {xs:List Value} (h:TRow W t A xs) (k:Nat) {u:Value} (hu:xs[k]? = some u):∃b off,A=some ⟨b,off,none⟩∧b<W.heap.size∧W.cell? ⟨b,off+k,none⟩=some u:=by
 rcases h with h|⟨b,off,cur,fl,hA,hb,hc⟩
 ·rw[h]at hu;simp at hu
 ·exact⟨b,off,hA,(Array.getElem?_eq_some_iff.1 hb).1,by simpa[World.cell?,hb]using hc k u hu⟩
def BLoop (W wr:World) (chs:List (List Tr)) (a b:Nat) (r:List Tr×Int) (M:Nat) (v x:Value):Prop :=
 ∃(k:Nat) (out:List Tr) (A:Option Addr) (c:Nat),x=.int .i64 k∧v=.slice A out.length c∧a<=k∧k<=b∧TosV wr A out.length out∧out.length<=M∧r=foldT out ((chs.take b).drop k)∧Below W.heap.size W wr
theorem betw_law {W : World} {A1 A2 : Option Addr} {c1 c2 : Nat} {ms : List CatM} {sls : List Sl} {chs : List (List Tr)} {a b : Int} (hr : TRow W 28 A1 (ccells ms)) (hm : ∀ m ∈ ms, m.Ok W) (hs : TRow W 39 A2 (scells sls)) (hn : sls.length = chs.length) (hc : ∀ (i : Nat) (s : Sl) (ts : List Tr), sls[i]? = some s -> chs[i]? = some ts -> TosT W s ts) (hl : ms.length = chs.length + 1) (hl2 : ms.length <= 100) (hsz : ∀ m ∈ ms, m.items.length <= 100000) (hsz2 : ∀ s ∈ sls, s.n <= 1000000) (ha : In64 a) (hb : In64 b) :
 Calls Tryz.prog 41 #[.slice A1 ms.length c1,.slice A2 sls.length c2,.int .i64 a,.int .i64 b] W (BetwQ W (betwT (ms.map fun m=>m.items.length) chs a b)):=by
 have hnI:(ms.length:Int)<=100:=by omega
 by_cases h7:a<0∨(ms.length:Int)<=a∨b<0∨(ms.length:Int)<=b
 ·have HQ:=iH (betw_7 (ns:=ms.map fun m=>m.items.length) (chs:=chs) (by simpa using h7));have HF:=iH (BetwQ.err HQ.out (Below.refl W.heap.size W));clear hr hm hs hn hc hl hl2 hsz hsz2 HQ;generalize ms.length=n at *;generalize sls.length=n2 at *;generalize BetwQ W (betwT (ms.map fun m=>m.items.length) chs a b)=BQ at *;by_cases q1:a<0
  ·go_enter Tryz.func41,Tryz.ntmps41;go_wp2;exact HF.out
  ·by_cases q2:(n:Int)<=a
   ·go_enter Tryz.func41,Tryz.ntmps41;go_wp2;exact HF.out
   ·by_cases q3:b<0
    ·go_enter Tryz.func41,Tryz.ntmps41;go_wp2;exact HF.out
    ·have q4:(n:Int)<=b:=by omega
     go_enter Tryz.func41,Tryz.ntmps41;go_wp2;exact HF.out
 ·obtain⟨x,rfl⟩:∃x:Nat,a=x:=⟨a.toNat,by omega⟩;obtain⟨y,rfl⟩:∃y:Nat,b=y:=⟨b.toNat,by omega⟩;have hx:x<ms.length:=by omega
  have hy:y<ms.length:=by omega
  by_cases hyx:y<x
  ·have HQ:=iH (betw_1 (ns:=ms.map fun m=>m.items.length) (chs:=chs) (a:=x) (b:=y) (by simpa using h7) (by omega));have HF:=iH (BetwQ.err HQ.out (Below.refl W.heap.size W));clear hr hm hs hn hc hl hl2 hsz hsz2 HQ h7;generalize ms.length=n at *;generalize sls.length=n2 at *;generalize BetwQ W (betwT (ms.map fun m=>m.items.length) chs x y)=BQ at *;have p1:¬ n<=x:=by omega
   have p2:¬ n<=y:=by omega
   go_enter Tryz.func41,Tryz.ntmps41;go_wp2;exact HF.out
  ·have hE := betw_ok (ns := ms.map fun m => m.items.length) (chs := chs) (a := x) (b := y) (by omega) (by simpa using hy);rw[List.getElem_map]at hE;obtain⟨bb,off,rfl,hbb,hcc⟩:=TRow.at_ CatM.len hr x hx (by omega);have e0:W.cell? ⟨bb,off+x*4,none⟩=some (.slice ms[x].si.A ms[x].si.n ms[x].si.c):=hcc 0 _ rfl;have hmx:=hm _ (List.getElem_mem hx);have hln:=hmx.items.len;have hsm:=hsz _ (List.getElem_mem hx);rw[<- hln]at hE hsm;have HE0:=iH e0;have HS:=iH hs;have HC:=iH hc;have HZ2:=iH hsz2;have hly:y<=sls.length:=by omega
   have hyc:y<=chs.length:=by omega
   have HE:=iH hE;have HN:=iH hn;clear hr hm hs hn hc hl hl2 hsz hsz2 h7 hcc e0 hmx hln hE;generalize ms[x].si.n=N0 at *;generalize ms[x].si.A=A0 at *;generalize ms[x].si.c=c0 at *;generalize hr:betwT (ms.map fun m=>m.items.length) chs x y=r at *;clear hr;generalize ms.length=n at *;have p1:¬ n<=x:=by omega
   have p2:¬ n<=y:=by omega
   obtain⟨i0,hi,hz0,hz1,hz2⟩:=info_parts info68k;go_enter Tryz.func41,Tryz.ntmps41;go_wp2_with fail;go_loopw [10,11] (fun v i wr=>∃k:Nat,k<=N0∧i=.int .i64 k∧wr.ownsRow W.heap.size 68 3 v k (tcells (idL k))∧Below W.heap.size W wr) (fun _ i _=>N0-(intOf i).toNat)
   case atStart=>exact⟨0,Nat.zero_le _,rfl,World.ownsRow_nil _ _ _ _,Below.refl _ _⟩
   case round =>
    obtain⟨k,hk,rfl,hown,hb⟩:=hrel;have HO:=iH hown;have HB:=iH hb;have hsz:=hb.size;have e0:wr.cell? ⟨bb,off+x*4,none⟩=some (.slice A0 N0 c0):=(hb.cell (p:=⟨bb,off+x*4,none⟩) hbb).trans HE0.out;have hbw:bb<wr.heap.size:=by omega
    clear hown hb;by_cases hlt:k<N0
    ·go_wp2_with(at_builtin;refine wpList_append_own_at _ rfl _ _ 39 rfl W.heap.size 68 i0 (.agg #[.int .i64 0,.int .i64 0,.int .i64 0]) 3 24 Tryz.underlying39 hi hz0 hz1 hz2 rfl (by decide) _ k (tcells (idL k)) rfl (HO.out.alloc _) ⟨wr.heap.size,0,none⟩ 1 1 [.int .i64 (k:Int),.int .i64 1,.int .i64 1] rfl rfl (new3 _ _ _ _ _) (one3 _ _ _) (by unfold maxLen;omega) (by omega) (by simp;omega) ?_);intro v' w1 hown' hgrow _ _;have hb1:Below W.heap.size W w1:=(HB.out.alloc hsz _).grown hgrow (by simp;omega) (row_base HO.out);have HO1:=iH hown';clear hown' hgrow;go_wp2_with fail;go_roundw
     case rel=>exact⟨k+1,by omega,by go_num,by rw[idL_next,tcells_snoc];exact HO1.out,hb1⟩
     case measure=>simp[intOf];omega
    ·obtain rfl:k=N0:=by omega
     obtain⟨A',c',hv,hrow⟩:=row_of_owns HO.out;subst hv;have HT0:Hid (TosV wr A' (idL k).length (idL k)):=iH ⟨hrow,rfl⟩;have hkl:=idL_len k;clear hrow HO;go_wp2_with fail;go_loopw [10,12] (fun v i wr=>BLoop W wr chs x y r k v i) (fun _ i _=>y-(intOf i).toNat)
     case atStart=>exact⟨x,idL k,A',c',rfl,by rw[hkl],Nat.le_refl _,by omega,HT0.out,by omega,HE.out,HB.out⟩
     case round =>
      obtain⟨j,out,A3,c3,rfl,rfl,hxj,hjy,hT,hol,hfold,hb⟩:=hrel;have HT:=iH hT;have HFo:=iH hfold;have HBw:=iH hb;clear hT hfold hb HT0 HB;by_cases hlt:j<y
      ·have hjs:j<sls.length:=by omega
       have hjc:j<chs.length:=by omega
       obtain⟨sb,so,hA2,hsb,hsc⟩:=HS.out.get1 j (u:=.slice sls[j].A sls[j].n sls[j].c) (by simp[scells,hjs]);subst hA2;have hsw:sb<wr.heap.size:=by have:=HBw.out.size;omega
       have hsc':=(HBw.out.cell (p:=⟨sb,so+j,none⟩) hsb).trans hsc;have hTs:=((HC.out j _ _ (List.getElem?_eq_getElem hjs) (List.getElem?_eq_getElem hjc)).below HBw.out).tosV;have hsn:=HZ2.out _ (List.getElem_mem hjs);have HD:Hid ((chs.take y).drop j=chs[j] :: (chs.take y).drop (j+1)):=iH (drop_take_cons hlt hyc);have KT:=iH (rthen_all c3 sls[j].c HT.out hTs (by omega) hsn);clear hsc hTs;generalize sls[j].A=sA at *;generalize sls[j].n=sn at *;generalize sls[j].c=scp at *;generalize chs[j]=ts at *;go_wp2_with fail;refine KT.out.mono ?_;rintro e w5 ⟨A5,c5,rfl,hfr,hb5⟩;have HB5:=iH (HBw.out.trans (hb5.mono HBw.out.size));have HFR:=iH hfr.row;have hL:=thenL_len out ts;clear KT hfr hb5 HBw hsc';by_cases hz:thenE out ts=0
       ·have HF2:Hid (r=foldT (thenL out ts) ((chs.take y).drop (j+1))):=iH (by rw[HFo.out,HD.out,foldT_ok hz]);rw[hz];clear HFo HD hz HT;generalize hln:(thenL out ts).length=ln at *;have HLn:=iH hln;clear hln;go_wp2_with fail;go_roundw
        case rel=>exact⟨j+1,thenL out ts,A5,c5,by go_num,by rw[HLn.out],by omega,by omega,⟨HFR.out,rfl⟩,by rw[HLn.out];omega,HF2.out,HB5.out⟩
        case measure=>simp[intOf];omega
       ·have HF2:Hid (r=([],thenE out ts)):=iH (by rw[HFo.out,HD.out,foldT_bad hz]);clear HFo HD HT hL HFR;generalize thenE out ts=q at *;generalize(thenL out ts).length=ln at *;go_wp2_with fail;go_ret2;exact⟨none,0,by rw[HF2.out];rfl,by rw[HF2.out];exact .inl rfl,HB5.out⟩
      ·obtain rfl:j=y:=by omega
       have HF2:Hid (r=(out,0)):=iH (by rw[HFo.out,drop_take_nil (Nat.le_refl _)];rfl);clear HFo;generalize hln:out.length=ln at *;have HLn:=iH hln;clear hln;go_wp2_with fail;go_ret2;exact⟨A3,c3,by rw[HF2.out];dsimp only;rw[HLn.out];rfl,by rw[HF2.out];exact HT.out.row,HBw.out⟩
theorem add_none (b o n:Nat):(⟨b,o,none⟩:Addr).add n=⟨b,o+n,none⟩:=by
 unfold Addr.add;split
 ·rename_i h;subst h;rfl
 ·rfl
theorem size141 (wx:World):(sizeOf (Tryz.prog.elem 141)).run Tryz.prog wx=.ok 1 wx:=by kernel_rfl
theorem size22 (wx:World):(sizeOf (Tryz.prog.elem 22)).run Tryz.prog wx=.ok 1 wx:=by kernel_rfl
theorem scells_at (l:List Sl) (k:Nat):(scells l)[k]? = l[k]?.map fun s=>Value.slice s.A s.n s.c:=by simp[scells]
theorem sub_row {W:World} {B n cap x y:Nat} {A:Option Addr} {sls:List Sl} (h:W.ownsRow B 33 1 (.slice A n cap) n (scells sls)) (hx:x<=y) (hy:y<=n) :
 ∃A2 c2,(∀wx:World,(Instr.slice 141 (.slice A n cap) (some (.int .i64 (x:Int))) (some (.int .i64 (y:Int))) none).run Tryz.prog wx=.ok (.slice A2 (y-x) c2) wx)∧TRow W 33 A2 (scells ((sls.take y).drop x)):=by
 have hcap:n<=cap:=by
  rcases h.2 with ⟨hv,h0⟩|⟨g,cap',cur,hv,_,_,hc,_⟩
  ·omega
  ·cases hv;exact hc
 have hrun:∀wx:World,(Instr.slice 141 (.slice A n cap) (some (.int .i64 (x:Int))) (some (.int .i64 (y:Int))) none).run Tryz.prog wx=.ok (.slice (if cap=x then A else A.map (·.add (x*1))) (y-x) (cap-x)) wx:=fun wx=>by
  rw[run_slice_lh wx 141 A n cap (by kernel_rfl) .i64 .i64 (x:Int) (y:Int) (by omega) (by omega) (by omega),size141];simp[sliced,Result.andThen]
 refine⟨_,_,hrun,?_⟩;rcases Nat.lt_or_ge x y with hlt|hge
 ·have ht:=TRow.of_own h;rcases ht with ht|⟨b,off,cur,fl,hA,hb,hc⟩
  ·have hl:=h.1;rw[ht]at hl;simp at hl;omega
  ·subst hA;rw[if_neg (by omega)];refine .inr ⟨b,off+x*1,cur,fl,by simp[add_none],hb,fun j u hu=>?_⟩;rw[scells_at,List.getElem?_drop,List.getElem?_take]at hu;split at hu
   ·have:=hc (x+j) u ((scells_at sls (x+j)).trans hu);rw[show off+x*1+j=off+(x+j) by omega];exact this
   ·simp at hu
 ·left;rw[List.drop_of_length_le (by simp;omega)];rfl
def FarS (W:World) (A:Option Addr) (n c:Nat):Prop:=n<=c∧∀a,A=some a->a.block<W.heap.size
theorem FarS.below {W W':World} {A:Option Addr} {n c:Nat} (h:FarS W A n c) (hb:W.heap.size<=W'.heap.size):FarS W' A n c:=⟨h.1,fun a e=>Nat.lt_of_lt_of_le (h.2 a e) hb⟩
theorem FarS.old {W:World} {A:Option Addr} {n c:Nat} (h:FarS W A n c):∀b off,A=some ⟨b,off,none⟩->b<W.heap.size:=fun b off e=>h.2 _ e
theorem farS_opened {W:World} {base:Nat} {A:Option Addr} {n c:Nat} (h:Value.okWide Tryz.prog W .any base 22 (.slice A n c)):FarS W A n c:=by
 cases A with
 | none =>
   simp only[Value.okWide,Tryz.underlying22,Cell.okWide,Cell.ok]at h;refine⟨?_,fun a e=>by cases e⟩;split at h <;> simp_all
 | some a =>
   simp only[Value.okWide,Tryz.underlying22,Cell.okWide,Cell.ok]at h;obtain⟨h0,_,_,_,row,cells,hs,_⟩:=h;refine⟨h0,fun a' e=>?_⟩;cases e;rcases Nat.lt_or_ge a.block W.heap.size with h1|h1
   ·exact h1
   ·exfalso;simp[World.shape?,Array.getElem?_eq_none h1]at hs
theorem ints_sub {W:World} {n c k:Nat} {A:Option Addr} {zs:List Int} (h:IntsV W A n zs) (hk:k<=n) (hf:FarS W A n c) :
 ∃A2 c2,(∀wx:World,(Instr.slice 22 (.slice A n c) (some (.int .i64 (k:Int))) none none).run Tryz.prog wx=.ok (.slice A2 (n-k) c2) wx)∧IntsV W A2 (n-k) (zs.drop k)∧(∀b off,A2=some ⟨b,off,none⟩->b<W.heap.size):=by
 have hrun:∀wx:World,(Instr.slice 22 (.slice A n c) (some (.int .i64 (k:Int))) none none).run Tryz.prog wx=.ok (.slice (if c=k then A else A.map (·.add (k*1))) (n-k) (c-k)) wx:=fun wx=>by
  rw[run_slice_l wx 22 A n c (by kernel_rfl) .i64 (k:Int) (by omega) (by omega),size22];simp[sliced,Result.andThen]
 have hlen:n-k=(zs.drop k).length:=by simp[h.len]
 have hwf:Wf (zs.drop k):=fun z hz=>h.wf z (List.mem_of_mem_drop hz)
 refine⟨_,_,hrun,⟨?_,hlen,hwf⟩,fun b off e=>?_⟩
 ·rcases h.row with hr | ⟨b,off,hA,hb,hc⟩
  ·left;have:zs=[]:=by simpa[ints]using hr
   simp[this,ints]
  ·subst hA;by_cases e:c=k
   ·left;have h1:=hf.1;have h2:=h.len;have:zs.drop k=[]:=List.drop_of_length_le (by omega);rw[this];rfl
   ·rw[if_neg e];refine .inr ⟨b,off+k*1,by simp[add_none],hb,fun j u hu=>?_⟩;have e2:(ints (zs.drop k))[j]? = (ints zs)[k+j]?:=by simp[ints,List.getElem?_drop]
    rw[e2]at hu;rw[show off+k*1+j=off+(k+j) by omega];exact hc _ u hu
 ·by_cases e2:c=k
  ·rw[if_pos e2]at e;exact hf.old b off e
  ·rw[if_neg e2]at e;cases A with
   | none=>cases e
   | some a =>
     have h1:=hf.2 a rfl;have h2:(a.add (k*1)).block=a.block:=by unfold Addr.add;split <;> rfl
     have h3:a.add (k*1)=⟨b,off,none⟩:=by simpa using e
     rw[h3]at h2;change b=a.block at h2;omega
def idK (n k:Nat):List Tr:=(List.range n).map fun i:Nat=>if i<k then((i:Int),(1:Int),(1:Int)) else(0,0,0)
@[simp] theorem idK_length (n k : Nat) : (idK n k).length = n := by simp [idK]
theorem idK_zero (n:Nat):idK n 0=List.replicate n (0,0,0):=by simp[idK,List.map_const']
theorem idK_all (n:Nat):idK n n=idL n:=by
 unfold idK idL;apply List.map_congr_left;intro i hi;rw[if_pos (by simpa using hi)]
theorem idK_step (n k:Nat) (hk:k<n):(idK n k).set k ((k:Int),1,1)=idK n (k+1):=by
 apply List.ext_getElem?;intro i;by_cases e:k=i
 ·subst e;rw[List.getElem?_set_self (by simpa using hk)];simp[idK,hk]
 ·rw[List.getElem?_set_ne e];by_cases hi:i<n
  ·simp only[idK,List.getElem?_map,List.getElem?_range hi,Option.map_some,Option.some.injEq];by_cases h2:i<k
   ·rw[if_pos h2,if_pos (by omega)]
   ·rw[if_neg h2,if_neg (by omega)]
  ·rw[List.getElem?_eq_none (by simp;omega),List.getElem?_eq_none (by simp;omega)]
def BLoop2 (W wr:World) (chs:List (List Tr)) (a b:Nat) (r:List Tr×Int) (M:Nat) (v x:Value):Prop :=
 ∃(k:Nat) (out:List Tr) (A:Option Addr) (c:Nat),x=.int .i64 k∧v=.slice A out.length c∧a+k<=b∧TosV wr A out.length out∧out.length<=M∧r=foldT out ((chs.take b).drop (a+k))∧Below W.heap.size W wr
theorem betw_any {W : World} {B h : Nat} {vc vh : Value} {ms : List CatM} {sls : List Sl} {chs : List (List Tr)} {a b : Int} (H : HistS W B h vc vh ms sls chs) (hl : ms.length = chs.length + 1) (hl2 : ms.length <= 100) (hsz : ∀ m ∈ ms, m.items.length <= 100000) (hsz2 : ∀ s ∈ sls, s.n <= 1000000) (ha : In64 a) (hb : In64 b) :
 Calls Tryz.prog 40 #[.pointer (some ⟨h,0,none⟩),.int .i64 a,.int .i64 b] W (BetwQ W (betwT (ms.map fun m=>m.items.length) chs a b)):=by
 have hnI:(ms.length:Int)<=100:=by omega
 obtain⟨A1,c1,hv,-⟩:=row_of_owns H.rc;subst hv;have b0:=H.bk.k0;have b1:W.cell? ⟨h,1,none⟩=some vh:=H.bk.cell 1;have bl:=H.bk.lt;have KL:=iH (last_any (by omega) b0);by_cases h7:a<0∨(ms.length:Int)<=a∨b<0∨(ms.length:Int)<=b
 ·have HQ:=iH (betw_7 (ns:=ms.map fun m=>m.items.length) (chs:=chs) (by simpa using h7));have HF:=iH (BetwQ.err HQ.out (Below.refl W.heap.size W));clear H hl hl2 hsz hsz2 HQ;generalize ms.length=n at *;generalize BetwQ W (betwT (ms.map fun m=>m.items.length) chs a b)=BQ at *;by_cases q1:a<0
  ·clear KL;go_enter Tryz.func40,Tryz.ntmps40;go_wp2;exact HF.out
  ·by_cases q2:(n:Int)-1<a
   ·go_enter Tryz.func40,Tryz.ntmps40;go_wp2_with fail;refine KL.out.mono ?_;rintro e w' ⟨rfl,rfl⟩;clear KL;go_wp2;exact HF.out
   ·by_cases q3:b<0
    ·go_enter Tryz.func40,Tryz.ntmps40;go_wp2_with fail;refine KL.out.mono ?_;rintro e w' ⟨rfl,rfl⟩;clear KL;go_wp2;exact HF.out
    ·have q4:(n:Int)-1<b:=by omega
     go_enter Tryz.func40,Tryz.ntmps40;go_wp2_with fail;refine KL.out.mono ?_;rintro e w' ⟨rfl,rfl⟩;go_wp2_with fail;refine KL.out.mono ?_;rintro e w' ⟨rfl,rfl⟩;clear KL;go_wp2;exact HF.out
 ·obtain⟨x,rfl⟩:∃x:Nat,a=x:=⟨a.toNat,by omega⟩;obtain⟨y,rfl⟩:∃y:Nat,b=y:=⟨b.toNat,by omega⟩;have hx:x<ms.length:=by omega
  have hy:y<ms.length:=by omega
  by_cases hyx:y<x
  ·have HQ:=iH (betw_1 (ns:=ms.map fun m=>m.items.length) (chs:=chs) (a:=x) (b:=y) (by simpa using h7) (by omega));have HF:=iH (BetwQ.err HQ.out (Below.refl W.heap.size W));clear H hl hl2 hsz hsz2 HQ h7;generalize ms.length=n at *;generalize BetwQ W (betwT (ms.map fun m=>m.items.length) chs x y)=BQ at *;have p1:¬ (n:Int)-1<(x:Int):=by omega
   have p2:¬ (n:Int)-1<(y:Int):=by omega
   go_enter Tryz.func40,Tryz.ntmps40;go_wp2_with fail;refine KL.out.mono ?_;rintro e w' ⟨rfl,rfl⟩;go_wp2_with fail;refine KL.out.mono ?_;rintro e w' ⟨rfl,rfl⟩;clear KL;go_wp2;exact HF.out
  ·have hE := betw_ok (ns := ms.map fun m => m.items.length) (chs := chs) (a := x) (b := y) (by omega) (by simpa using hy);rw[List.getElem_map]at hE;obtain⟨bb,off,rfl,hbb,hcc⟩:=TRow.at_ CatM.len (TRow.of_own H.rc) x hx (by omega);have e0:W.cell? ⟨bb,off+x*4,none⟩=some (.slice ms[x].si.A ms[x].si.n ms[x].si.c):=hcc 0 _ rfl;have hmx:=H.cats _ (List.getElem_mem hx);have hln:=hmx.items.len;have hsm:=hsz _ (List.getElem_mem hx);rw[<- hln]at hE hsm;have hly:y<=sls.length:=by rw[H.num];omega
   have hyc:y<=chs.length:=by omega
   obtain⟨Ah,sn,ch,hv⟩:∃Ah sn ch,vh=.slice Ah sn ch:=by
    obtain⟨A',c',hv,_⟩:=row_of_owns H.rh;exact⟨A',_,c',hv⟩
   subst hv;have hrh:=H.rh;have hsn:sn=sls.length:=by
    obtain⟨A',c',hv,_⟩:=row_of_owns hrh;cases hv;rfl
   subst hsn;obtain⟨A2,c2,hsub,hrow⟩:=sub_row hrh (show x<=y by omega) hly;have HS:=iH hrow;have HSub:=iH hsub;have HC:=iH H.chg;have HZ2:=iH hsz2;have HE:=iH hE;have HN:=iH H.num;have hn1:(x:Int)<(ms.length:Int):=by omega
   clear hl hl2 hsz hsz2 h7 hcc hmx hln hE hrow hsub hrh H;generalize ms[x].si.n=N0 at *;generalize ms[x].si.A=A0 at *;generalize ms[x].si.c=c0 at *;generalize hr:betwT (ms.map fun m=>m.items.length) chs x y=r at *;clear hr;generalize ms.length=n at *;have p1:¬ (n:Int)-1<(x:Int):=by omega
   have p2:¬ (n:Int)-1<(y:Int):=by omega
   have mk:=fun W=>make_tos N0 (by omega) W
   go_enter Tryz.func40,Tryz.ntmps40;go_wp2_with fail;refine KL.out.mono ?_;rintro e w' ⟨rfl,rfl⟩;go_wp2_with fail;refine KL.out.mono ?_;rintro e w' ⟨rfl,rfl⟩;clear KL;have x0:(0:Int)<=(x:Int):=by omega
   go_wp2_with fail;have hC0:ThenAt W (W.alloc (.cells (tcells (List.replicate N0 (0,0,0))).toArray 64)) W.heap.size (List.replicate N0 (0,0,0)):=⟨Bk.new W 64 _,Nat.le_refl _,(Below.refl _ _).alloc (Nat.le_refl _) _⟩;have HC0:=iH hC0;clear hC0 mk;obtain⟨g,hg⟩:∃g,W.heap.size=g:=⟨_,rfl⟩;rw[hg]at HC0;(try rw[hg]);generalize W.alloc (.cells (tcells (List.replicate N0 (0,0,0))).toArray 64)=W0 at HC0⊢;have HSz:Hid (W.heap.size=g):=iH hg;clear hg;go_loopw [47] (fun i wr=>∃k:Nat,k<=N0∧i=.int .i64 k∧ThenAt W wr g (idK N0 k)) (fun i _=>N0-(intOf i).toNat)
   case atStart=>exact⟨0,Nat.zero_le _,rfl,by rw[idK_zero];exact HC0.out⟩
   case round =>
    obtain⟨k,hk,rfl,hC⟩:=hrel;clear HC0;have HCk:=iH hC;clear hC;by_cases hlt:k<N0
    ·obtain⟨n1,n2,n3⟩:=HCk.out.cells k (by simpa using hlt);have f1:=HCk.out.bk.frozen (k*3);have f2:=HCk.out.bk.frozen (k*3+1);have f3:=HCk.out.bk.frozen (k*3+2);have lg:=HCk.out.bk.lt;have HA:=iH (HCk.out.set k (k:Int) 1 1 (by simpa using hlt));rw[idK_step N0 k hlt]at HA;clear HCk;generalize itemAt (idK N0 k) k=z1 at *;generalize numAt (idK N0 k) k=z2 at *;generalize denAt (idK N0 k) k=z3 at *;go_wp2_with fail;go_roundw
     case rel=>exact⟨k+1,by omega,by go_num,HA.out⟩
     case measure=>simp[intOf];omega
    ·obtain rfl:k=N0:=by omega
     have HB:=iH HCk.out.below;have hT0:TosV wr (some ⟨g,0,none⟩) k (idL k):=⟨by rw[<- idK_all];exact HCk.out.bk.row,(idL_len k).symm⟩;have HT0:=iH hT0;have b1w:wr.cell? ⟨h,1,none⟩=some (.slice Ah sls.length ch):=(HB.out.cell (p:=⟨h,1,none⟩) bl).trans b1;have blw:h<wr.heap.size:=by have:=HB.out.size;omega
     have hsub:=HSub.out;obtain⟨d,hd⟩:∃d,y-x=d:=⟨_,rfl⟩;have Hd:=iH hd;rw[hd]at hsub;clear hT0 HCk hd HSub;go_wp2_with fail;clear hsub b1w blw;have hd2:d<=chs.length:=by have:=Hd.out;omega
     go_loopw [8,64] (fun v i wr=>BLoop2 W wr chs x y r k v i) (fun _ i _=>d-(intOf i).toNat)
     case atStart=>exact⟨0,idL k,_,_,rfl,by rw[idL_len],by omega,by rw[idL_len];exact HT0.out,by rw[idL_len];exact Nat.le_refl _,by rw[Nat.add_zero];exact HE.out,HB.out⟩
     case round =>
      obtain⟨j,out,A3,c3,rfl,rfl,hjy,hT,hol,hfold,hb⟩:=hrel;have HT:=iH hT;have HFo:=iH hfold;have HBw:=iH hb;clear hT hfold hb HT0 HB;by_cases hlt:j<d
      ·have hjy2:x+j<y:=by have:=Hd.out;omega
       have hjs:x+j<sls.length:=by omega
       have hjc:x+j<chs.length:=by omega
       obtain⟨sb,so,hA2,hsb,hsc⟩:=HS.out.get1 j (u:=.slice sls[x+j].A sls[x+j].n sls[x+j].c) (by rw[scells_at,List.getElem?_drop,List.getElem?_take,if_pos hjy2,List.getElem?_eq_getElem hjs];rfl);subst hA2;have hsw:sb<wr.heap.size:=by have:=HBw.out.size;omega
       have hsc':=(HBw.out.cell (p:=⟨sb,so+j,none⟩) hsb).trans hsc;have hTs:=((HC.out (x+j) _ _ (List.getElem?_eq_getElem hjs) (List.getElem?_eq_getElem hjc)).below HBw.out).tosV;have hsn:=HZ2.out _ (List.getElem_mem hjs);have HD:Hid ((chs.take y).drop (x+j)=chs[x+j] :: (chs.take y).drop (x+j+1)):=iH (drop_take_cons hjy2 hyc);have KT:=iH (then_all c3 sls[x+j].c HT.out hTs (by omega) hsn);clear hsc hTs;generalize sls[x+j].A=sA at *;generalize sls[x+j].n=sn at *;generalize sls[x+j].c=scp at *;generalize chs[x+j]=ts at *;go_wp2_with fail;refine KT.out.mono ?_;rintro e w5 ⟨A5,c5,rfl,hfr,hb5⟩;have HB5:=iH (HBw.out.trans (hb5.mono HBw.out.size));have HFR:=iH hfr.row;have hL:=thenL_len out ts;clear KT hfr hb5 HBw hsc';by_cases hz:thenE out ts=0
       ·have HF2:Hid (r=foldT (thenL out ts) ((chs.take y).drop (x+(j+1)))):=iH (by rw[HFo.out,HD.out,foldT_ok hz];rfl);rw[hz];clear HFo HD hz HT;generalize hln:(thenL out ts).length=ln at *;have HLn:=iH hln;clear hln;go_wp2_with fail;go_roundw
        case rel=>exact⟨j+1,thenL out ts,A5,c5,by go_num,by rw[HLn.out],by omega,⟨HFR.out,rfl⟩,by rw[HLn.out];omega,HF2.out,HB5.out⟩
        case measure=>simp[intOf];omega
       ·have HF2:Hid (r=([],thenE out ts)):=iH (by rw[HFo.out,HD.out,foldT_bad hz]);clear HFo HD HT hL HFR;generalize thenE out ts=q at *;generalize(thenL out ts).length=ln at *;go_wp2_with fail;go_ret2;exact⟨none,0,by rw[HF2.out];rfl,by rw[HF2.out];exact .inl rfl,HB5.out⟩
      ·have e1:x+j=y:=by have:=Hd.out;omega
       have HF2:Hid (r=(out,0)):=iH (by rw[HFo.out,e1,drop_take_nil (Nat.le_refl _)];rfl);clear HFo;generalize hln:out.length=ln at *;have HLn:=iH hln;clear hln;go_wp2_with fail;go_ret2;exact⟨A3,c3,by rw[HF2.out];dsimp only;rw[HLn.out];rfl,by rw[HF2.out];exact HT.out.row,HBw.out⟩
section
theorem Bk.keep {W W':World} {g:Nat} {t:TypeId} {xs:List Value} (h:Bk W g t xs) (hk:Keep t W W'):Bk W' g t xs:=hk g _ _ h
def UnitsL (hs:List Int):Prop:=∀z∈hs,0<=z∧z<=1099511627776
theorem UnitsL.b {hs:List Int} (h:UnitsL hs):unitsB hs=true:=by
 simp only[unitsB,decide_eq_true_eq];intro i hi;have:wAt hs i∈hs:=by simp[wAt,hi]
 exact h _ this
theorem UnitsL.wf {hs:List Int} (h:UnitsL hs):Wf hs:=fun z hz=>by have:=h z hz;omega
theorem UnitsL.held (zs:List Int) (a k:Nat):UnitsL (heldL zs a k):=fun z hz=>by
 simp only[heldL,List.mem_map]at hz;obtain⟨i,_,rfl⟩:=hz;exact heldOf_bdS _
theorem UnitsL.zeros (k:Nat):UnitsL (List.replicate k 0):=fun z hz=>by rw[(List.mem_replicate.1 hz).2];omega
theorem UnitsL.snoc {hs:List Int} (h:UnitsL hs):UnitsL (hs ++ [1]):=fun z hz=>by
 rcases List.mem_append.1 hz with h1|h1
 ·exact h z h1
 ·rw[List.mem_singleton.1 h1];omega
theorem ints_of_own {W:World} {B k:Nat} {v:Value} {hs:List Int} (h:W.ownsRow B 3 1 v k (ints hs)) (hu:UnitsL hs) (hk:k=hs.length):∃A c,v=.slice A k c∧IntsV W A k hs:=by
 obtain⟨A,c,hv,hr⟩:=row_of_owns h;exact⟨A,c,hv,hr,hk,hu.wf⟩
structure LS (w W : World) (b7 h : Nat) (m0 : CatM) (vc vh va vs : Value) (ms al : List CatM) (sls ss : List Sl) (chs chs2 : List (List Tr)) : Prop where
 bel:Below w.heap.size w W
 box:Bk W b7 28 m0.cells
 bge:w.heap.size<=b7
 ok0:m0.Ok W
 H:HistS W w.heap.size h vc vh ms sls chs
 ra:W.ownsRow w.heap.size 28 4 va al.length (ccells al)
 rs:W.ownsRow w.heap.size 39 1 vs ss.length (scells ss)
 oka:∀m∈al,m.Ok W
 num:ss.length=chs2.length
 chg:∀(i:Nat) (s:Sl) (ts:List Tr),ss[i]? = some s->chs2[i]? = some ts->TosT W s ts
 codes:∀m∈al,codeC m=0
 small:∀s∈ss,s.n<=64
 small2:∀s∈sls,s.n<=64
 ne1:∀b,vc.ownBlock=some b->va.ownBlock≠some b
 ne2:vc.ownBlock≠some b7
 ne3:va.ownBlock≠some b7
section
variable {w W W' : World} {b7 h : Nat} {m0 : CatM} {vc vh va vs : Value} {ms al : List CatM} {sls ss : List Sl} {chs chs2 : List (List Tr)}
theorem LS.below (L:LS w W b7 h m0 vc vh va vs ms al sls ss chs chs2) (hb:Below W.heap.size W W'):LS w W' b7 h m0 vc vh va vs ms al sls ss chs chs2 :=
 ⟨L.bel.trans (hb.mono L.bel.size),L.box.below hb L.box.lt,L.bge,L.ok0.below hb,L.H.below hb,own_below L.ra hb,own_below L.rs hb,fun m hm=>(L.oka m hm).below hb,L.num,fun i s ts h1 h2=>(L.chg i s ts h1 h2).below hb,L.codes,L.small,L.small2,L.ne1,L.ne2,L.ne3⟩
theorem own_ltH {W:World} {B e size n b:Nat} {v:Value} {xs:List Value} (h:W.ownsRow B e size v n xs) (hv:v.ownBlock=some b):b<W.heap.size:=(h.lt b hv).2
theorem LS.addA {g cap n:Nat} {m:CatM} (L:LS w W b7 h m0 vc vh va vs ms al sls ss chs chs2) (hg:W.grownBy W' va.ownBlock) (ho:W'.ownsRow w.heap.size 28 4 (.slice (some ⟨g,0,none⟩) n cap) n (ccells al ++ m.cells)) (hn:n=al.length+1) (hlie:va.ownBlock=some g∨W.heap.size<=g) (hm:m.Ok W) (hc:codeC m=0) :
 LS w W' b7 h m0 vc vh (.slice (some ⟨g,0,none⟩) n cap) vs ms (al ++ [m]) sls ss chs chs2:=by
 have kp:∀t,t≠28->Keep t W W':=fun t ht=>Keep.own L.ra hg (Ne.symm ht)
 have k7:∀ {x:CatM},x.Ok W->x.Ok W':=fun{x} hx=>hx.keep7 fun t _ h2 _=>kp t h2
 have hne:∀b,b<W.heap.size->va.ownBlock≠some b->(Value.slice (some ⟨g,0,none⟩) n cap).ownBlock≠some b:=fun b hb h1 e=>by
  have e2:g=b:=by simpa[Value.ownBlock]using e
  subst e2;rcases hlie with hl|hl
  ·exact h1 hl
  ·omega
 have hrc:W'.ownsRow w.heap.size 28 4 vc ms.length (ccells ms):=by
  cases hv:va.ownBlock with
  | none=>exact L.H.rc.kept hg (by rw[hv];cases vc.ownBlock <;> simp)
  | some b=>exact L.H.rc.kept hg (.inr (by rw[hv];intro e;exact L.ne1 b e hv))
 refine⟨L.bel.grown hg L.bel.size (row_base L.ra),L.box.grown hg (fun e=>L.ne3 e.symm),L.bge,k7 L.ok0,⟨L.H.ge,L.H.bk.keep (kp 143 (by decide)),hrc,own_far L.H.rh L.ra (by decide) hg,fun x hx=>k7 (L.H.cats x hx),L.H.num,fun i s ts h1 h2=>(L.H.chg i s ts h1 h2).keep (kp 64 (by decide)) (kp 68 (by decide))⟩,?_,own_far L.rs L.ra (by decide) hg,fun x hx=>?_,L.num,fun i s ts h1 h2=>(L.chg i s ts h1 h2).keep (kp 64 (by decide)) (kp 68 (by decide)),fun x hx=>?_,L.small,L.small2,fun b hb=>hne b (own_ltH L.H.rc hb) (L.ne1 b hb),L.ne2,hne b7 L.box.lt L.ne3⟩
 ·rw[ccells_snoc,List.length_append,List.length_singleton,<- hn];exact ho
 ·rcases List.mem_append.1 hx with hx | hx
  ·exact k7 (L.oka x hx)
  ·rw[List.mem_singleton.1 hx];exact k7 hm
 ·rcases List.mem_append.1 hx with hx | hx
  ·exact L.codes x hx
  ·rw[List.mem_singleton.1 hx];exact hc
theorem LS.addS {vs':Value} {n:Nat} {s:Sl} {ts:List Tr} (L:LS w W b7 h m0 vc vh va vs ms al sls ss chs chs2) (hg:W.grownBy W' vs.ownBlock) (ho:W'.ownsRow w.heap.size 39 1 vs' n (scells ss ++ [.slice s.A s.n s.c])) (hn:n=ss.length+1) (hs:TosT W s ts) (h64:s.n<=64) :
 LS w W' b7 h m0 vc vh va vs' ms al sls (ss ++ [s]) chs (chs2 ++ [ts]):=by
 have kp:∀t,t≠39->Keep t W W':=fun t ht=>Keep.own L.rs hg (Ne.symm ht)
 have k7:∀ {x:CatM},x.Ok W->x.Ok W':=fun{x} hx=>⟨hx.items.keep (kp 89 (by decide)),hx.rules.keep (kp 103 (by decide)) (kp 136 (by decide)),hx.tables.keep (kp 107 (by decide)) (kp 109 (by decide)) (kp 136 (by decide)),hx.taxes.keep (kp 115 (by decide)) (kp 129 (by decide))⟩
 refine⟨L.bel.grown hg L.bel.size (row_base L.rs),L.box.keep (kp 28 (by decide)),L.bge,k7 L.ok0,⟨L.H.ge,L.H.bk.keep (kp 143 (by decide)),own_far L.H.rc L.rs (by decide) hg,own_far L.H.rh L.rs (by decide) hg,fun x hx=>k7 (L.H.cats x hx),L.H.num,fun i s ts h1 h2=>(L.H.chg i s ts h1 h2).keep (kp 64 (by decide)) (kp 68 (by decide))⟩,own_far L.ra L.rs (by decide) hg,?_,fun x hx=>k7 (L.oka x hx),by simp[L.num],fun i s' ts' h1 h2=>?_,L.codes,fun x hx=>?_,L.small2,L.ne1,L.ne2,L.ne3⟩
 ·rw[scells_snoc,List.length_append,List.length_singleton,<- hn];exact ho
 ·by_cases hi:i<ss.length
  ·rw[List.getElem?_append_left hi]at h1;rw[List.getElem?_append_left (by rw[<- L.num];exact hi)]at h2;exact(L.chg i s' ts' h1 h2).keep (kp 64 (by decide)) (kp 68 (by decide))
  ·have e1:i=ss.length:=by
    have:=(List.getElem?_eq_some_iff.1 h1).1;simp at this;omega
   subst e1;rw[List.getElem?_append_right (Nat.le_refl _)]at h1;rw[List.getElem?_append_right (by rw[L.num];exact Nat.le_refl _),<- L.num]at h2;simp at h1 h2;subst h1 h2;exact hs.keep (kp 64 (by decide)) (kp 68 (by decide))
 ·rcases List.mem_append.1 hx with hx | hx
  ·exact L.small x hx
  ·rw[List.mem_singleton.1 hx];exact h64
theorem LS.hist {vc' vh':Value} {b':CatM} {s:Sl} {ts:List Tr} (L:LS w W b7 h m0 vc vh va vs ms al sls ss chs chs2) (H':HistS W' w.heap.size h vc' vh' (ms ++ [b']) (sls ++ [s]) (chs ++ [ts])) (k:HKeep W W' h vc vh) (m1:Moved W vc vc') (h64:s.n<=64) :
 LS w W' b7 h m0 vc' vh' va vs (ms ++ [b']) al (sls ++ [s]) ss (chs ++ [ts]) chs2:=by
 have kp:∀t,t≠143->t≠28->t≠33->Keep t W W':=fun t h1 h2 h3=>k.keep L.H h1 h2 h3
 have k7:∀ {x:CatM},x.Ok W->x.Ok W':=fun{x} hx=>hx.keep7 kp
 have hne:∀b,b<W.heap.size->vc.ownBlock≠some b->vc'.ownBlock≠some b:=fun b hb h1 e=>h1 (m1 b hb e)
 have hrs:W'.ownsRow w.heap.size 39 1 vs ss.length (scells ss):=by
  refine⟨L.rs.1,?_⟩;rcases L.rs.2 with h0|⟨g,cap,cur,hv,hb,hc,hr⟩
  ·exact .inl h0
  ·exact .inr ⟨g,cap,cur,hv,hb,kp 39 (by decide) (by decide) (by decide) g cur _ hc,hr⟩
 refine⟨L.bel.trans (k.hist L.H L.bel.size),k.bk L.H L.box L.ne2,L.bge,k7 L.ok0,H',k.own L.H L.ra L.ne1,hrs,fun x hx=>k7 (L.oka x hx),L.num,fun i s ts h1 h2=>(L.chg i s ts h1 h2).keep (kp 64 (by decide) (by decide) (by decide)) (kp 68 (by decide) (by decide) (by decide)),L.codes,L.small,fun x hx=>?_,fun b hb=>?_,hne b7 L.box.lt L.ne2,L.ne3⟩
 ·rcases List.mem_append.1 hx with hx | hx
  ·exact L.small2 x hx
  ·rw[List.mem_singleton.1 hx];exact h64
 ·rcases Nat.lt_or_ge b W.heap.size with h1 | h1
  ·exact L.ne1 b (m1 b h1 hb)
  ·intro e;have:=own_ltH L.ra e;omega
end
end
end Go.Proofs.YthjfdfdgbpbanaaGreatDoor
