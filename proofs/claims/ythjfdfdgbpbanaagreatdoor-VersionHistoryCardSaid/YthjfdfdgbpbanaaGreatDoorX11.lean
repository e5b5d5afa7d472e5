/- The reference's Valid on any catalog. -/
import Derived.Test.YthjfdfdgbpbanaaGreatDoorX10
import Derived.Deep.CutBlock
set_option linter.unusedVariables false
set_option linter.unusedSimpArgs false
set_option maxRecDepth 100000
set_option maxHeartbeats 8000000
open Go.RowKit
namespace Go.Proofs.YthjfdfdgbpbanaaGreatDoor
theorem or_step (p q r:Bool):(p || !(q && r))=(p || !q || !r):=by cases p <;> cases q <;> cases r <;> rfl
theorem itErr_one (t:It):(itErr t == 1) = !itFormedB t:=by
 unfold itErr;cases itFormedB t <;> cases itRangeB t <;> rfl
theorem itRange_not (t:It):(!itRangeB t)=(decide (t.level<0) || decide (100<t.level) || (t.object && (decide (t.wear<1) || decide (1048576<t.wear)))):=by
 simp only[itRangeB,Bool.not_and,not_le_dec,Bool.not_or,Bool.not_not];cases decide (t.level<0) <;> cases decide (100<t.level) <;> cases t.object <;> cases decide (t.wear<1) <;> cases decide (1048576<t.wear) <;> rfl
theorem rvalid_cat {w : World} {m : CatM} (h : m.Ok w) : Calls Tryz.prog 42 #[m.val] w fun e w' => e = .returned (.int .i64 (codeC m)) ∧ Below w.heap.size w w' := by
 have HCode:Hid (codeC m=codeOf (limC m) (fitB m) (diffC m) (wfC m) (rgC m)):=rfl;generalize codeC m=CODE at *;have HLim:=iH (lim_eq m);have HFit:=iH (word_eq m);have HDif:=iH (twice_eq m);have HForm:=iH (form_eq m);have HNum:=iH (num_eq m);have X0:Below w.heap.size w (w.alloc (.cells #[.slice m.si.A m.si.n m.si.c,.slice m.sr.A m.sr.n m.sr.c,.slice m.st.A m.st.n m.st.c,.slice m.sx.A m.sx.n m.sx.c] 28)):=(Below.refl _ _).alloc (Nat.le_refl _) _;have HV0:Hid (RvAt w (w.alloc (.cells #[.slice m.si.A m.si.n m.si.c,.slice m.sr.A m.sr.n m.sr.c,.slice m.st.A m.st.n m.st.c,.slice m.sx.A m.sx.n m.sx.c] 28)) m):=⟨Bk.new w 28 _,h.below X0,X0⟩;have Hni:=iH h.items.len;have Hnr:=iH h.rules.len;have Hnt:=iH h.tables.len;have Hnx:=iH h.taxes.len;have si:=h.items.small;have sr:=h.rules.small;have st:=h.tables.small;have sx:=h.taxes.small;clear h X0;obtain⟨L0,hL0⟩:∃L0,(decide ((64:Int)<(m.si.n:Int)) || decide ((64:Int)<(m.sr.n:Int)) || decide ((32:Int)<(m.st.n:Int)) || decide ((32:Int)<(m.sx.n:Int)))=L0:=⟨_,rfl⟩;have HL0:=iH hL0;rw[<- Hni.out,<- Hnr.out,<- Hnt.out,<- Hnx.out,hL0]at HLim;clear hL0;generalize hV0:w.alloc (.cells #[.slice m.si.A m.si.n m.si.c,.slice m.sr.A m.sr.n m.sr.c,.slice m.st.A m.st.n m.st.c,.slice m.sx.A m.sx.n m.sx.c] 28)=V0 at HV0;have e0:=HV0.out.bx.k0;have e1:=HV0.out.bx.k1;have e2:=HV0.out.bx.k2;have e3:=HV0.out.bx.k3;have hl0:=HV0.out.bx.lt;go_enter Tryz.func42,Tryz.ntmps42;go_upto_region 1 with fail;clear hV0;go_cut [3] (fun b wx=>b=.bool L0∧V0=wx)
 case first=>as_aux_lemma =>
  cases q0:decide ((64:Int)<(m.si.n:Int));rotate_left
  ·go_wp2;go_meet;exact⟨by rw[<- HL0.out,q0];rfl,rfl⟩
  cases q1:decide ((64:Int)<(m.sr.n:Int));rotate_left
  ·go_wp2;go_meet;exact⟨by rw[<- HL0.out,q0,q1];rfl,rfl⟩
  cases q2:decide ((32:Int)<(m.st.n:Int));rotate_left
  ·go_wp2;go_meet;exact⟨by rw[<- HL0.out,q0,q1,q2];rfl,rfl⟩
  ·go_wp2;go_meet;exact⟨by rw[<- HL0.out,q0,q1,q2];rfl,rfl⟩
 case rest =>
  obtain⟨rfl,rfl⟩:=hcut;clear HL0;go_wp2_with fail;(with_reducible refine(rnames_any HV0.out.ok).mono ?_);intro e V1 hN;obtain⟨g,L,rfl,hNm,hb⟩:=nmAt_of HV0.out.ok hN;have HV1:=iH (HV0.out.below hb);have HNm:=iH hNm;clear hN hNm hb HV0 e0 e1 e2 e3 hl0;go_upto_block 0 with fail;go_cut [4,5] (fun a b wx=>a=.bool (!fitB m)∧b=.bool (!diffC m)∧RvAt w wx m)
  case first => as_aux_lemma =>
   go_wp2_with fail;go_loopw [4,5,9] (fun a b i wr=>∃k:Nat,k<=4∧i=.int .i64 k∧a=.bool (!((nameL m).take k).all fun l=>l.all fitG)∧b=.bool (!((nameL m).take k).all diffB)∧Below V1.heap.size V1 wr) (fun _ _ i _=>4-(intOf i).toNat)
   case atStart=>exact⟨0,by omega,rfl,rfl,rfl,Below.refl _ _⟩
   case round =>
    obtain⟨k,hk,rfl,rfl,rfl,hb⟩:=hrel;by_cases hlt:k<4
    ·have hkl : k < L.length := by rw [HNm.out.len]; exact hlt
     have hkn:k<(nameL m).length:=hlt;have hN:=HNm.out.below hb;have cg:wr.cell? ⟨g,k,none⟩=some (.slice L[k].1 L[k].2.2.length L[k].2.1):=(hN.bk.cell k).trans (by simp[hkl]);obtain⟨hrow,hcap,hsm,hsz⟩:=hN.rows _ (List.getElem_mem hkl);have hnm:(nameL m)[k]=L[k].2.2:=by
      have:=hN.nms;have e:(nameL m)[k]? = some L[k].2.2:=by rw[<- this];simp[hkl]
      exact(List.getElem?_eq_some_iff.1 e).2
     have HW:=iH (all_take_succ (fun l=>l.all fitG) (nameL m) k hkn);have HD:=iH (all_take_succ diffB (nameL m) k hkn);rw[hnm]at HW HD;have hgl:=hN.bk.lt;have Hrow:=iH hrow;have Hsz:=iH hsz;have HB:=iH hb;clear hN hrow hsz hnm hb;generalize L[k]=p at *;obtain⟨A,c,l⟩:=p;dsimp only at *;clear hkl hkn;obtain⟨P,hP⟩:∃P,((nameL m).take k).all (fun l=>l.all fitG)=P:=⟨_,rfl⟩;obtain⟨Q,hQ⟩:∃Q,((nameL m).take k).all diffB=Q:=⟨_,rfl⟩;rw[hP]at HW⊢;rw[hQ]at HD⊢;clear hP hQ;obtain⟨n,hn⟩:∃n,l.length=n:=⟨_,rfl⟩;rw[hn]at cg hcap hsm;have Hn:=iH hn;clear hn;obtain⟨V2,hV2⟩:∃V2,wr=V2:=⟨_,rfl⟩;rw[hV2]at cg hgl Hrow HB⊢;clear hV2;have kk0:(0:Int)<=(k:Int):=by omega
     have kk1:(k:Int)<4:=by omega
     go_wp2_with fail;go_loopw [4,5,10] (fun a b i wr=>∃j:Nat,j<=n∧i=.int .i64 j∧a=.bool (!(P && allK fitG l j))∧b=.bool (!(Q && diffTo l j))∧Below V2.heap.size V2 wr) (fun _ _ i _=>n-(intOf i).toNat)
     case atStart=>exact⟨0,by omega,rfl,by cases P <;> rfl,by cases Q <;> rfl,Below.refl _ _⟩
     case round =>
      obtain⟨j,hj,rfl,rfl,rfl,hb⟩:=hrel;have cg2:wr.cell? ⟨g,k,none⟩=some (.slice A n c):=(hb.cell (p:=⟨g,k,none⟩) hgl).trans cg;have hgl2:g<wr.heap.size:=Nat.lt_of_lt_of_le hgl hb.size;have HB2:=iH hb;by_cases hltj:j<n
      ·have hjl:j<l.length:=by rw[Hn.out];exact hltj
       obtain⟨b,off,rfl,hbb,hc⟩:=Hrow.out.at_ j (by simpa[strs]using hjl);have c0:=hc j (.string l[j]) (by simp[strs,hjl]);have HA:=iH (allK_succ fitG l j hjl);have HT:=iH (diffTo_succ l j hjl);have hz:=Hsz.out l[j] (List.getElem_mem hjl);have c1:wr.cell? ⟨b,off+j,none⟩=some (.string l[j]):=(hb.cell (p:=⟨b,_,none⟩) hbb).trans c0;have hbl:b<wr.heap.size:=Nat.lt_of_lt_of_le hbb hb.size;have HC0:=iH c0;clear hc c0;generalize l[j]=s at *;clear hjl;have HIn:Hid (∀(U:World) (q:Nat),Below V2.heap.size V2 U->Calls Tryz.prog 89 #[.slice (some ⟨b,off,none⟩) j c,.string s] (U.drewN q) fun e w'=>e=.returned (.bool (hasS (l.take j) s))∧w'=U.drewN q):=fun U q hU=>by
        have hr:Row (U.drewN q) (U.drewN q).heap.size (some ⟨b,off,none⟩) ((l.take j).map Value.string):=by
         refine .inr ⟨b,off,rfl,Nat.lt_of_lt_of_le hbb hU.size,fun i u hu=>?_⟩;have h1:(strs l)[i]? = some u:=by
          rw[List.map_take,List.getElem?_take]at hu;split at hu
          ·exact hu
          ·cases hu
         have hrw:=Hrow.out;rcases hrw with hnil|⟨b',off',hA',_,hc'⟩
         ·rw[hnil]at h1;simp at h1
         ·cases hA';exact(hU.cell (p:=⟨b,off+i,none⟩) hbb).trans (hc' i u h1)
        refine(rin_any (c:=c) hr (by rw[List.length_take,Hn.out];omega) (by omega) s).mono ?_;rintro e w' ⟨h1,h2⟩;exact⟨h1,h2.symm⟩
       generalize hasS (l.take j) s=hs at *;have SW:Hid ((!(P && allK fitG l (j+1)))=((!(P && allK fitG l j)) || !fitG s)):=by show _=_;rw[HA.out];cases P <;> cases allK fitG l j <;> cases fitG s <;> rfl
       have SD:Hid ((!(Q && diffTo l (j+1)))=((!(Q && diffTo l j)) || hs)):=by show _=_;rw[HT.out];cases Q <;> cases diffTo l j <;> cases hs <;> rfl
       clear HA HT;generalize(!(P && allK fitG l j))=wd at *;generalize(!(Q && diffTo l j))=tw at *;have jj0:(0:Int)<=(j:Int):=by omega
       have jj1:(j:Int)<(n:Int):=by omega
       have jj2:(j:Int)<=(c:Int):=by omega
       have jj3:j<=c:=by omega
       clear hb;go_upto_region 13 with fail;go_cut [4] (fun a wx=>a=.bool (wd || !fitG s)∧Below V2.heap.size V2 wx)
       case first=>as_aux_lemma =>
        cases wd
        ·go_wp2_with fail;(with_reducible refine(Word_any s hz _).mono ?_);rintro e w3 ⟨rfl,hb3⟩;have HB3:=iH (HB2.out.trans (hb3.mono HB2.out.size));clear hb3;go_wp2;go_meet;exact⟨rfl,HB3.out⟩
        ·go_wp2;go_meet;exact⟨rfl,HB2.out⟩
       case rest =>
        obtain⟨rfl,hb⟩:=hcut;clear cg2 hgl2 HB2 c1 hbl;have cg2:wc.cell? ⟨g,k,none⟩=some (.slice (some ⟨b,off,none⟩) n c):=(hb.cell (p:=⟨g,k,none⟩) hgl).trans cg;have hgl2:g<wc.heap.size:=Nat.lt_of_lt_of_le hgl hb.size;have hbl:b<wc.heap.size:=Nat.lt_of_lt_of_le hbb hb.size;have HB2:=iH hb;have hc1:wc.cell? ⟨b,off+j,none⟩=some (.string s):=(hb.cell (p:=⟨b,off+j,none⟩) hbb).trans HC0.out;have K:=iH (fun q=>HIn.out wc q hb);clear hb;cases tw
        ·go_wp2_with fail;go_quiet ((go_at_call 89;exact Calls.quiet_of_same (K.out _)));go_wp2;go_roundw
         case rel=>exact⟨j+1,by omega,by go_num,by rw[SW.out],by rw[SD.out];rfl,bel_drewN HB2.out _⟩
         case measure=>simp[intOf];omega
        ·go_wp2_with fail;go_quiet (fail);go_wp2;go_roundw
         case rel=>exact⟨j+1,by omega,by go_num,by rw[SW.out],by rw[SD.out];rfl,bel_drewN HB2.out _⟩
         case measure=>simp[intOf];omega
      ·obtain rfl:n=j:=by omega
       have SW:Hid ((!(P && allK fitG l n))=(!((nameL m).take (k+1)).all fun l=>l.all fitG)):=by show _=_;rw[HW.out,allK_all fitG l n Hn.out.symm]
       have SD:Hid ((!(Q && diffTo l n))=(!((nameL m).take (k+1)).all diffB)):=by show _=_;rw[HD.out,diffB,Hn.out]
       have HB3:=iH (HB.out.trans (HB2.out.mono HB.out.size));rw[SW.out,SD.out];clear hb SW SD HW HD HB HB2;go_wp2;go_roundw
       case rel=>exact⟨k+1,by omega,by go_num,rfl,rfl,HB3.out⟩
       case measure=>simp[intOf];omega
    ·obtain rfl:4=k:=by omega
     have SW:Hid (((nameL m).take 4).all (fun l=>l.all fitG)=fitB m):=HFit.out;have SD:Hid (((nameL m).take 4).all diffB=diffC m):=HDif.out;rw[SW.out,SD.out];have HR:=iH (HV1.out.below hb);clear SW SD hb;go_wp2;go_meet;exact⟨rfl,rfl,HR.out⟩
  case rest =>
   obtain⟨rfl,rfl,hR⟩:=hcut;have HR:=iH hR;clear hR HV1 HNm HFit HDif;generalize fitB m=FB at *;generalize diffC m=DC at *;obtain⟨V2,hV2⟩:∃V2,wc=V2:=⟨_,rfl⟩;rw[hV2]at HR⊢;clear hV2;go_upto_block 4 with fail;go_cut [6,7] (fun a b wx=>a=.bool (!m.items.all itFormedB)∧b=.bool (!m.items.all itRangeB)∧RvAt w wx m)
   case first => as_aux_lemma =>
    go_wp2_with fail;go_loopw [6,7,11] (fun a b i wr=>∃k:Nat,k<=m.si.n∧i=.int .i64 k∧a=.bool (!allK itFormedB m.items k)∧b=.bool (!allK itRangeB m.items k)∧RvAt w wr m) (fun _ _ i _=>m.si.n-(intOf i).toNat)
    case atStart=>exact⟨0,by omega,rfl,rfl,rfl,HR.out⟩
    case round =>
     obtain⟨k,hk,rfl,rfl,rfl,hR⟩:=hrel;have e0:=hR.bx.k0;have hl:=hR.bx.lt;clear HR;have HR:=iH hR;clear hR;by_cases hlt:k<m.si.n
     ·have hkl:k<m.items.length:=by have:=Hni.out;omega
      obtain⟨b,off,hA,hbb,c0,c1,c2,c3,c4,c5,c6⟩:=HR.out.ok.items.at_ k hkl;rw[hA]at e0;have HF:=iH (allK_succ itFormedB m.items k hkl);have HN:=iH (allK_succ itRangeB m.items k hkl);generalize m.items[k]=t at *;clear hkl hA;obtain⟨nm,ob,mi,co,we,bi,le⟩:=t;dsimp only at *;have SF:Hid ((!allK itFormedB m.items (k+1))=((!allK itFormedB m.items k) || (itErr ⟨nm,ob,mi,co,we,bi,le⟩ == 1))):=by show _=_;rw[HF.out,itErr_one,Bool.not_and]
      have SN:Hid ((!allK itRangeB m.items (k+1))=((!allK itRangeB m.items k) || (decide (le<0) || decide (100<le) || (ob && (decide (we<1) || decide (1048576<we)))))):=by show _=_;rw[HN.out,Bool.not_and,itRange_not]
      clear HF HN;generalize(!allK itFormedB m.items k)=F at *;generalize(!allK itRangeB m.items k)=G at *;have hb1:Below wr.heap.size wr (wr.alloc (.cells #[.string nm,.bool ob,.bool mi,.bool co,.int .i64 we,.int .i64 bi,.int .i64 le] 89)):=(Below.refl _ _).alloc (Nat.le_refl _) _;have HR1:=iH (HR.out.below hb1);have kx:=Bk.new wr 89 [.string nm,.bool ob,.bool mi,.bool co,.int .i64 we,.int .i64 bi,.int .i64 le];have HKx:=iH kx;generalize hE:itErr ⟨nm,ob,mi,co,we,bi,le⟩=E at *;have K:=iH (item_error ⟨nm,ob,mi,co,we,bi,le⟩ (wr.alloc (.cells #[.string nm,.bool ob,.bool mi,.bool co,.int .i64 we,.int .i64 bi,.int .i64 le] 89)));rw[hE]at K;clear hb1 kx HR hE;go_wp2_with fail;(with_reducible refine K.out.mono ?_);rintro e w3 ⟨rfl,hb3⟩;have HR3:=iH (HR1.out.below hb3);have k3:=HKx.out.below hb3 HKx.out.lt;have d1:=k3.k1;have d4:=k3.k4;have d6:=k3.k6;have hl3:=k3.lt;clear hb3 k3 HKx HR1 K e0 c0 c1 c2 c3 c4 c5 c6;go_upto_region 20 with fail;go_cut [6] (fun a wx=>a=.bool (F || (E == 1))∧w3=wx)
      case first=>as_aux_lemma =>
       cases F
       ·go_wp2;go_meet;exact⟨rfl,rfl⟩
       ·go_wp2;go_meet;exact⟨rfl,rfl⟩
      case rest =>
       obtain⟨rfl,rfl⟩:=hcut;cases G;rotate_left
       ·skip
        go_wp2;go_roundw
        case rel=>exact⟨k+1,by omega,by go_num,by rw[SF.out],by rw[SN.out];rfl,HR3.out⟩
        case measure=>simp[intOf];omega
       cases q0:decide (le<0);rotate_left
       ·skip
        go_wp2;go_roundw
        case rel=>exact⟨k+1,by omega,by go_num,by rw[SF.out],by rw[SN.out,q0];rfl,HR3.out⟩
        case measure=>simp[intOf];omega
       cases q1:decide (100<le);rotate_left
       ·skip
        go_wp2;go_roundw
        case rel=>exact⟨k+1,by omega,by go_num,by rw[SF.out],by rw[SN.out,q0,q1];rfl,HR3.out⟩
        case measure=>simp[intOf];omega
       cases ob
       ·skip
        go_wp2;go_roundw
        case rel=>exact⟨k+1,by omega,by go_num,by rw[SF.out],by rw[SN.out,q0,q1];rfl,HR3.out⟩
        case measure=>simp[intOf];omega
       cases q2:decide (we<1)
       ·skip
        go_wp2;go_roundw
        case rel=>exact⟨k+1,by omega,by go_num,by rw[SF.out],by rw[SN.out,q0,q1,q2];rfl,HR3.out⟩
        case measure=>simp[intOf];omega
       ·skip
        go_wp2;go_roundw
        case rel=>exact⟨k+1,by omega,by go_num,by rw[SF.out],by rw[SN.out,q0,q1,q2];rfl,HR3.out⟩
        case measure=>simp[intOf];omega
     ·obtain rfl:m.si.n=k:=by omega
      have SF:Hid (allK itFormedB m.items m.si.n=m.items.all itFormedB):=allK_all _ _ _ Hni.out;have SN:Hid (allK itRangeB m.items m.si.n=m.items.all itRangeB):=allK_all _ _ _ Hni.out;rw[SF.out,SN.out];clear SF SN;go_wp2;go_meet;exact⟨rfl,rfl,HR.out⟩
   case rest =>
    obtain⟨rfl,rfl,hR⟩:=hcut;clear HR;have HR:=iH hR;clear hR;obtain⟨V3,hV3⟩:∃V3,wc=V3:=⟨_,rfl⟩;rw[hV3]at HR⊢;clear hV3;obtain⟨F3,hF3⟩:∃F3,(!m.items.all itFormedB)=F3:=⟨_,rfl⟩;obtain⟨N3,hN3⟩:∃N3,(!m.items.all itRangeB)=N3:=⟨_,rfl⟩;rw[hF3,hN3];have HF3:=iH hF3;have HN3:=iH hN3;have HL3:Hid (L0=L0):=rfl;clear hF3 hN3;obtain⟨L3,hL3⟩:∃L3,L0=L3:=⟨_,rfl⟩;rw[hL3]at HL3 HLim⊢;clear hL3;go_upto_block 6 with fail;go_cut [3,6,7] (fun a b c wx=>a=.bool (L3 || !m.rules.all ruLim)∧b=.bool (F3 || !m.rules.all (fun r=>ruFormed r && contB r.take r.back))∧c=.bool (N3 || !m.rules.all ruRange)∧RvAt w wx m)
    case first=>as_aux_lemma =>
     go_wp2_with fail;go_loopw [3,6,7,14] (fun a b c i wr=>∃k:Nat,k<=m.sr.n∧i=.int .i64 k∧a=.bool (L3 || !allK ruLim m.rules k)∧b=.bool (F3 || !allK (fun r=>ruFormed r && contB r.take r.back) m.rules k)∧c=.bool (N3 || !allK ruRange m.rules k)∧RvAt w wr m) (fun _ _ _ i _=>m.sr.n-(intOf i).toNat)
     case atStart=>exact⟨0,by omega,rfl,by cases L3 <;> rfl,by cases F3 <;> rfl,by cases N3 <;> rfl,HR.out⟩
     case round =>
      obtain⟨k,hk,rfl,rfl,rfl,rfl,hR⟩:=hrel;have e1:=hR.bx.k1;have hl:=hR.bx.lt;clear HR;have HR:=iH hR;clear hR;by_cases hlt:k<m.sr.n
      ·have hkl:k<m.rules.length:=by have:=Hnr.out;omega
       obtain⟨b,off,hA,hbb,c0,c1,c2,c3,c4,c5,c6,c7,c8⟩:=HR.out.ok.rules.at_ k hkl;rw[hA]at e1;have SL:Hid ((L3 || !allK ruLim m.rules (k+1))=(L3 || !allK ruLim m.rules k || !ruLim m.rules[k])):=by show _=_;rw[allK_succ _ _ _ hkl,or_step]
       have SF:Hid ((F3 || !allK (fun r=>ruFormed r && contB r.take r.back) m.rules (k+1))=(F3 || !allK (fun r=>ruFormed r && contB r.take r.back) m.rules k || !(fun r=>ruFormed r && contB r.take r.back) m.rules[k])):=by show _=_;rw[allK_succ _ _ _ hkl,or_step]
       have SN:Hid ((N3 || !allK ruRange m.rules (k+1))=(N3 || !allK ruRange m.rules k || !ruRange m.rules[k])):=by show _=_;rw[allK_succ _ _ _ hkl,or_step]
       have K:=iH (rule_errors m.rules[k] wr (HR.out.ok.rules.each _ (List.getElem_mem hkl)));dsimp only at SF SN K;generalize m.rules[k]=t at *;clear hkl hA;generalize(L3 || !allK ruLim m.rules k)=xl at *;generalize(F3 || !allK (fun r=>ruFormed r && contB r.take r.back) m.rules k)=xf at *;generalize(N3 || !allK ruRange m.rules k)=xn at *;generalize(!ruLim t)=xa at *;generalize(!(ruFormed t && contB t.take t.back))=xb at *;generalize(!ruRange t)=xd at *;go_wp2_with fail;(with_reducible refine K.out.mono ?_);rintro e w3 ⟨rfl,hb3⟩;have HR3:=iH (HR.out.below hb3);clear hb3 HR K e1 c0 c1 c2 c3 c4 c5 c6 c7 c8;cases xl <;> cases xf <;> cases xn
       all_goals
        go_wp2;go_roundw
        case rel=>exact⟨k+1,by omega,by go_num,by rw[SL.out];rfl,by rw[SF.out];rfl,by rw[SN.out];rfl,HR3.out⟩
        case measure=>simp[intOf];omega
      ·obtain rfl:m.sr.n=k:=by omega
       have SL:Hid (allK ruLim m.rules m.sr.n=m.rules.all ruLim):=allK_all _ _ _ Hnr.out;have SF:Hid (allK (fun r=>ruFormed r && contB r.take r.back) m.rules m.sr.n=m.rules.all (fun r=>ruFormed r && contB r.take r.back)):=allK_all _ _ _ Hnr.out;have SN:Hid (allK ruRange m.rules m.sr.n=m.rules.all ruRange):=allK_all _ _ _ Hnr.out;rw[SL.out,SF.out,SN.out];clear SL SF SN;go_wp2;go_meet;exact⟨rfl,rfl,rfl,HR.out⟩
    case rest =>
     obtain⟨rfl,rfl,rfl,hR⟩:=hcut;clear HR;have HR:=iH hR;clear hR;obtain⟨V4,hV4⟩:∃V4,wc=V4:=⟨_,rfl⟩;rw[hV4]at HR⊢;clear hV4;obtain⟨L4,hL4⟩:∃L4,(L3 || !m.rules.all ruLim)=L4:=⟨_,rfl⟩;obtain⟨F4,hF4⟩:∃F4,(F3 || !m.rules.all (fun r=>ruFormed r && contB r.take r.back))=F4:=⟨_,rfl⟩;obtain⟨N4,hN4⟩:∃N4,(N3 || !m.rules.all ruRange)=N4:=⟨_,rfl⟩;rw[hL4,hF4,hN4];have HL4:=iH hL4;have HF4:=iH hF4;have HN4:=iH hN4;clear hL4 hF4 hN4;go_upto_block 8 with fail;go_cut [3,6,7] (fun a b c wx=>a=.bool (L4 || !m.tables.all tbLim)∧b=.bool (F4 || !m.tables.all (fun t=>decide (0<t.rows.length)))∧c=.bool (N4 || !m.tables.all (fun t=>t.rows.all wtP))∧RvAt w wx m)
     case first=>as_aux_lemma =>
      go_wp2_with fail;go_loopw [3,6,7,18] (fun a b c i wr=>∃k:Nat,k<=m.st.n∧i=.int .i64 k∧a=.bool (L4 || !allK tbLim m.tables k)∧b=.bool (F4 || !allK (fun t=>decide (0<t.rows.length)) m.tables k)∧c=.bool (N4 || !allK (fun t=>t.rows.all wtP) m.tables k)∧RvAt w wr m) (fun _ _ _ i _=>m.st.n-(intOf i).toNat)
      case atStart=>exact⟨0,by omega,rfl,by cases L4 <;> rfl,by cases F4 <;> rfl,by cases N4 <;> rfl,HR.out⟩
      case round =>
       obtain⟨k,hk,rfl,rfl,rfl,rfl,hR⟩:=hrel;have e2:=hR.bx.k2;have hl:=hR.bx.lt;clear HR;have HR:=iH hR;clear hR;by_cases hlt:k<m.st.n
       ·have hkl:k<m.tables.length:=by have:=Hnt.out;omega
        obtain⟨b,off,hA,hbb,c0,c1⟩:=HR.out.ok.tables.at_ k hkl;rw[hA]at e2;have SL:Hid ((L4 || !allK tbLim m.tables (k+1))=(L4 || !allK tbLim m.tables k || !tbLim m.tables[k])):=by show _=_;rw[allK_succ _ _ _ hkl,or_step]
        have SF:Hid ((F4 || !allK (fun t=>decide (0<t.rows.length)) m.tables (k+1))=(F4 || !allK (fun t=>decide (0<t.rows.length)) m.tables k || !(fun t=>decide (0<t.rows.length)) m.tables[k])):=by show _=_;rw[allK_succ _ _ _ hkl,or_step]
        have SN:Hid ((N4 || !allK (fun t=>t.rows.all wtP) m.tables (k+1))=(N4 || !allK (fun t=>t.rows.all wtP) m.tables k || !(fun t=>t.rows.all wtP) m.tables[k])):=by show _=_;rw[allK_succ _ _ _ hkl,or_step]
        have K:=iH (table_errors m.tables[k] wr (HR.out.ok.tables.each _ (List.getElem_mem hkl)));dsimp only at SF SN K;generalize m.tables[k]=t at *;clear hkl hA;generalize(L4 || !allK tbLim m.tables k)=xl at *;generalize(F4 || !allK (fun t=>decide (0<t.rows.length)) m.tables k)=xf at *;generalize(N4 || !allK (fun t=>t.rows.all wtP) m.tables k)=xn at *;generalize(!tbLim t)=xa at *;generalize(!decide (0<t.rows.length))=xb at *;generalize(!t.rows.all wtP)=xd at *;go_wp2_with fail;(with_reducible refine K.out.mono ?_);rintro e w3 ⟨rfl,hb3⟩;have HR3:=iH (HR.out.below hb3);clear hb3 HR K e2 c0 c1;cases xl <;> cases xf <;> cases xn
        all_goals
         go_wp2;go_roundw
         case rel=>exact⟨k+1,by omega,by go_num,by rw[SL.out];rfl,by rw[SF.out];rfl,by rw[SN.out];rfl,HR3.out⟩
         case measure=>simp[intOf];omega
       ·obtain rfl:m.st.n=k:=by omega
        have SL:Hid (allK tbLim m.tables m.st.n=m.tables.all tbLim):=allK_all _ _ _ Hnt.out;have SF:Hid (allK (fun t=>decide (0<t.rows.length)) m.tables m.st.n=m.tables.all (fun t=>decide (0<t.rows.length))):=allK_all _ _ _ Hnt.out;have SN:Hid (allK (fun t=>t.rows.all wtP) m.tables m.st.n=m.tables.all (fun t=>t.rows.all wtP)):=allK_all _ _ _ Hnt.out;rw[SL.out,SF.out,SN.out];clear SL SF SN;go_wp2;go_meet;exact⟨rfl,rfl,rfl,HR.out⟩
     case rest =>
      obtain⟨rfl,rfl,rfl,hR⟩:=hcut;clear HR;have HR:=iH hR;clear hR;obtain⟨V5,hV5⟩:∃V5,wc=V5:=⟨_,rfl⟩;rw[hV5]at HR⊢;clear hV5;obtain⟨L5,hL5⟩:∃L5,(L4 || !m.tables.all tbLim)=L5:=⟨_,rfl⟩;obtain⟨F5,hF5⟩:∃F5,(F4 || !m.tables.all (fun t=>decide (0<t.rows.length)))=F5:=⟨_,rfl⟩;obtain⟨N5,hN5⟩:∃N5,(N4 || !m.tables.all (fun t=>t.rows.all wtP))=N5:=⟨_,rfl⟩;rw[hL5,hF5,hN5];have HL5:=iH hL5;have HF5:=iH hF5;have HN5:=iH hN5;clear hL5 hF5 hN5;go_upto_block 10 with fail;go_cut [3,6,7] (fun a b c wx=>a=.bool (L5 || !m.taxes.all txLim)∧b=.bool (F5 || !m.taxes.all wfX)∧c=.bool (N5 || !m.taxes.all (fun t=>rangeB t.brs t.brs.length))∧RvAt w wx m)
      case first=>as_aux_lemma =>
       go_wp2_with fail;go_loopw [3,6,7,22] (fun a b c i wr=>∃k:Nat,k<=m.sx.n∧i=.int .i64 k∧a=.bool (L5 || !allK txLim m.taxes k)∧b=.bool (F5 || !allK wfX m.taxes k)∧c=.bool (N5 || !allK (fun t=>rangeB t.brs t.brs.length) m.taxes k)∧RvAt w wr m) (fun _ _ _ i _=>m.sx.n-(intOf i).toNat)
       case atStart=>exact⟨0,by omega,rfl,by cases L5 <;> rfl,by cases F5 <;> rfl,by cases N5 <;> rfl,HR.out⟩
       case round =>
        obtain⟨k,hk,rfl,rfl,rfl,rfl,hR⟩:=hrel;have e3:=hR.bx.k3;have hl:=hR.bx.lt;clear HR;have HR:=iH hR;clear hR;by_cases hlt:k<m.sx.n
        ·have hkl:k<m.taxes.length:=by have:=Hnx.out;omega
         obtain⟨b,off,hA,hbb,c0,c1⟩:=HR.out.ok.taxes.at_ k hkl;rw[hA]at e3;have SL:Hid ((L5 || !allK txLim m.taxes (k+1))=(L5 || !allK txLim m.taxes k || !txLim m.taxes[k])):=by show _=_;rw[allK_succ _ _ _ hkl,or_step]
         have SF:Hid ((F5 || !allK wfX m.taxes (k+1))=(F5 || !allK wfX m.taxes k || !wfX m.taxes[k])):=by show _=_;rw[allK_succ _ _ _ hkl,or_step]
         have SN:Hid ((N5 || !allK (fun t=>rangeB t.brs t.brs.length) m.taxes (k+1))=(N5 || !allK (fun t=>rangeB t.brs t.brs.length) m.taxes k || !(fun t=>rangeB t.brs t.brs.length) m.taxes[k])):=by show _=_;rw[allK_succ _ _ _ hkl,or_step]
         have K:=iH (tax_errors3 m.taxes[k] wr (HR.out.ok.taxes.each _ (List.getElem_mem hkl)));dsimp only at SF SN K;generalize m.taxes[k]=t at *;clear hkl hA;generalize(L5 || !allK txLim m.taxes k)=xl at *;generalize(F5 || !allK wfX m.taxes k)=xf at *;generalize(N5 || !allK (fun t=>rangeB t.brs t.brs.length) m.taxes k)=xn at *;generalize(!txLim t)=xa at *;generalize(!wfX t)=xb at *;generalize(!rangeB t.brs t.brs.length)=xd at *;go_wp2_with fail;(with_reducible refine K.out.mono ?_);rintro e w3 ⟨rfl,hb3⟩;have HR3:=iH (HR.out.below hb3);clear hb3 HR K e3 c0 c1;cases xl <;> cases xf <;> cases xn
         all_goals
          go_wp2;go_roundw
          case rel=>exact⟨k+1,by omega,by go_num,by rw[SL.out];rfl,by rw[SF.out];rfl,by rw[SN.out];rfl,HR3.out⟩
          case measure=>simp[intOf];omega
        ·obtain rfl:m.sx.n=k:=by omega
         have SL:Hid (allK txLim m.taxes m.sx.n=m.taxes.all txLim):=allK_all _ _ _ Hnx.out;have SF:Hid (allK wfX m.taxes m.sx.n=m.taxes.all wfX):=allK_all _ _ _ Hnx.out;have SN:Hid (allK (fun t=>rangeB t.brs t.brs.length) m.taxes m.sx.n=m.taxes.all (fun t=>rangeB t.brs t.brs.length)):=allK_all _ _ _ Hnx.out;rw[SL.out,SF.out,SN.out];clear SL SF SN;go_wp2;go_meet;exact⟨rfl,rfl,rfl,HR.out⟩
      case rest =>
       obtain⟨rfl,rfl,rfl,hR⟩:=hcut;clear HR;have HR:=iH hR;clear hR;obtain⟨V6,hV6⟩:∃V6,wc=V6:=⟨_,rfl⟩;rw[hV6]at HR⊢;clear hV6;obtain⟨L6,hL6⟩:∃L6,(L5 || !m.taxes.all txLim)=L6:=⟨_,rfl⟩;obtain⟨F6,hF6⟩:∃F6,(F5 || !m.taxes.all wfX)=F6:=⟨_,rfl⟩;obtain⟨N6,hN6⟩:∃N6,(N5 || !m.taxes.all (fun t=>rangeB t.brs t.brs.length))=N6:=⟨_,rfl⟩;rw[hL6,hF6,hN6];have HL6:=iH hL6;have HF6:=iH hF6;have HN6:=iH hN6;clear hL6 hF6 hN6;have e0:=HR.out.bx.k0;have e1:=HR.out.bx.k1;have e2:=HR.out.bx.k2;have e3:=HR.out.bx.k3;have hl:=HR.out.bx.lt;go_wp2_with fail;(with_reducible refine(rlists_any HR.out.ok).mono ?_);rintro e V7 ⟨Al,cl,rfl,hrow,hb⟩;have HLs:Hid (∀p∈listsOf m,PrV V7 136 p.1 p.2):=fun p hp=>(lists_ok HR.out.ok p hp).below hb
       have HRow:=iH hrow;have HR7:=iH (HR.out.below hb);have hlen:=lists_small HR.out.ok;clear hrow hb HR e0 e1 e2 e3 hl;obtain⟨ls,hls⟩:∃ls,listsOf m=ls:=⟨_,rfl⟩;rw[hls]at HLs HRow hlen⊢;have Hls:=iH hls;clear hls;obtain⟨nl,hnl⟩:∃nl,ls.length=nl:=⟨_,rfl⟩;rw[hnl]at hlen⊢;have Hnl:=iH hnl.symm;clear hnl;go_upto_block 12 with fail;go_cut [6,7] (fun a b wx=>a=.bool (F6 || !ls.all fun p=>sortB m.si.n p.2)∧b=.bool (N6 || !ls.all fun p=>p.2.all unitP)∧Below w.heap.size w wx)
       case first => as_aux_lemma =>
        go_wp2_with fail;go_loopw [6,7,27] (fun a b i wr=>∃k:Nat,k<=nl∧i=.int .i64 k∧a=.bool (F6 || !allK (fun p:SL=>sortB m.si.n p.2) ls k)∧b=.bool (N6 || !allK (fun p:SL=>p.2.all unitP) ls k)∧Below V7.heap.size V7 wr) (fun _ _ i _=>nl-(intOf i).toNat)
        case atStart=>exact⟨0,by omega,rfl,by cases F6 <;> rfl,by cases N6 <;> rfl,Below.refl _ _⟩
        case round =>
         obtain⟨k,hk,rfl,rfl,rfl,hb⟩:=hrel;have HB:=iH hb;by_cases hlt:k<nl
         ·have hkl:k<ls.length:=by have:=Hnl.out;omega
          obtain⟨bl,ol,rfl,hbl,hc⟩:=HRow.out.at_ k (by simpa using hkl);have c0:=hc k (.slice ls[k].1.A ls[k].1.n ls[k].1.c) (by simp[lcells,hkl]);have hP:=HLs.out ls[k] (List.getElem_mem hkl);have SF:Hid ((F6 || !allK (fun p:SL=>sortB m.si.n p.2) ls (k+1))=(F6 || !allK (fun p:SL=>sortB m.si.n p.2) ls k || !sortB m.si.n ls[k].2)):=by show _=_;rw[allK_succ _ _ _ hkl,or_step]
          have SN:Hid ((N6 || !allK (fun p:SL=>p.2.all unitP) ls (k+1))=(N6 || !allK (fun p:SL=>p.2.all unitP) ls k || !ls[k].2.all unitP)):=by show _=_;rw[allK_succ _ _ _ hkl,or_step]
          clear hc;generalize ls[k]=q at *;clear hkl;obtain⟨⟨A,n,c⟩,l⟩:=q;dsimp only at *;have Hn:=iH hP.len;have hsm:=hP.small;dsimp only at Hn hsm;have HP:=iH hP;clear hP hb;obtain⟨xf,hxf⟩:∃xf,(F6 || !allK (fun p:SL=>sortB m.si.n p.2) ls k)=xf:=⟨_,rfl⟩;obtain⟨xn,hxn⟩:∃xn,(N6 || !allK (fun p:SL=>p.2.all unitP) ls k)=xn:=⟨_,rfl⟩;rw[hxf]at SF⊢;rw[hxn]at SN⊢;clear hxf hxn;have HC0:=iH c0;obtain⟨V8,hV8⟩:∃V8,wr=V8:=⟨_,rfl⟩;rw[hV8]at HB⊢;clear hV8 c0;have kk0:(0:Int)<=(k:Int):=by omega
          have kk1:(k:Int)<(nl:Int):=by omega
          have c0:V8.cell? ⟨bl,ol+k,none⟩=some (.slice A n c):=(HB.out.cell (p:=⟨bl,_,none⟩) hbl).trans HC0.out;have hbl8:bl<V8.heap.size:=Nat.lt_of_lt_of_le hbl HB.out.size;go_wp2_with fail;go_loopw [6,7,28] (fun a b i wr=>∃j:Nat,j<=n∧i=.int .i64 j∧a=.bool (xf || !sortTo m.si.n l j)∧b=.bool (xn || !allK unitP l j)∧Below V7.heap.size V7 wr) (fun _ _ i _=>n-(intOf i).toNat)
          case atStart=>exact⟨0,by omega,rfl,by cases xf <;> rfl,by cases xn <;> rfl,HB.out⟩
          case round =>
           clear c0 hbl8 HB;obtain⟨j,hj,rfl,rfl,rfl,hb⟩:=hrel;have c0:wr.cell? ⟨bl,ol+k,none⟩=some (.slice A n c):=(hb.cell (p:=⟨bl,_,none⟩) hbl).trans HC0.out;have hbl8:bl<wr.heap.size:=Nat.lt_of_lt_of_le hbl hb.size;have HB:=iH hb;by_cases hltj:j<n
           ·have hjl:j<l.length:=by have:=Hn.out;omega
            have hAt:=(HP.out.below hb).at_ j hjl;dsimp only at hAt;obtain⟨b,off,rfl,hbb,c1,c2⟩:=hAt;have hprev:0<j->wr.cell? ⟨b,off+(j-1)*2,none⟩=some (.int .i64 (lastAt l j)):=fun h0=>by
             have hAt:=(HP.out.below hb).at_ (j-1) (by omega);dsimp only at hAt;obtain⟨b',off',e',_,c1',_⟩:=hAt;cases e';have e:lastAt l j=l[j-1].1:=by unfold lastAt;rw[if_neg (by omega)];simp[show j-1<l.length by omega]
             rw[e];exact c1'
            have ST:Hid ((xf || !sortTo m.si.n l (j+1))=(xf || !sortTo m.si.n l j || (decide (l[j].1<=lastAt l j) || decide ((m.si.n:Int)<=l[j].1)))):=by
             show _=_;have e:itemK l j=l[j].1:=by simp[itemK,hjl]
             have e2:sortTo m.si.n l (j+1)=(sortTo m.si.n l j && (decide (lastAt l j<l[j].1) && decide (l[j].1<m.si.n))):=by rw[<- e];rfl
             rw[e2,or_step,Bool.not_and,not_lt_dec,not_lt_dec]
            have SU:Hid ((xn || !allK unitP l (j+1))=(xn || !allK unitP l j || (decide (l[j].2<1) || decide (1099511627776<l[j].2)))):=by
             show _=_;rw[allK_succ _ _ _ hjl,or_step,unitP,Bool.not_and,not_le_dec,not_le_dec]
            have HLT:Hid (sortTo m.si.n l j=true -> -1<=lastAt l j):=fun h=>sort_last h
            have HXS:Hid (sortTo m.si.n l j=false->(xf || !sortTo m.si.n l j)=true):=fun h=>by rw[h];cases xf <;> rfl
            have HL1:Hid (j=0->lastAt l j = -1):=fun h=>by rw[h];rfl
            generalize l[j]=p at *;obtain⟨x,y⟩:=p;dsimp only at *;clear hjl;obtain⟨la,hla⟩:∃la,lastAt l j=la:=⟨_,rfl⟩;rw[hla]at hprev ST HLT HL1;clear hla;obtain⟨yf,hyf⟩:∃yf,(xf || !sortTo m.si.n l j)=yf:=⟨_,rfl⟩;obtain⟨yn,hyn⟩:∃yn,(xn || !allK unitP l j)=yn:=⟨_,rfl⟩;rw[hyf]at ST HXS⊢;rw[hyn]at SU⊢;have HLA:Hid (yf=false -> -1<=la):=fun h=>HLT.out (by cases hs:sortTo m.si.n l j with | true=>rfl | false=>rw[HXS.out hs]at h;cases h)
            clear hyf hyn HLT HXS;have hb1:Below wr.heap.size wr (wr.alloc (.cells #[.int .i64 x,.int .i64 y] 136)):=(Below.refl _ _).alloc (Nat.le_refl _) _;obtain⟨V9,hV9⟩:∃V9,wr.alloc (.cells #[.int .i64 x,.int .i64 y] 136)=V9:=⟨_,rfl⟩;have kx:=Bk.new wr 136 [.int .i64 x,.int .i64 y];have f0:V9.cell? ⟨wr.heap.size,0,none⟩=some (.int .i64 x):=by rw[<- hV9];exact kx.cell 0
            have f1:V9.cell? ⟨wr.heap.size,1,none⟩=some (.int .i64 y):=by rw[<- hV9];exact kx.cell 1
            have hl9:wr.heap.size<V9.heap.size:=by rw[<- hV9];exact kx.lt
            have g0:V9.cell? ⟨bl,ol+k,none⟩=some (.slice (some ⟨b,off,none⟩) n c):=by rw[<- hV9];exact(hb1.cell (p:=⟨bl,_,none⟩) hbl8).trans c0
            have hgl9:bl<V9.heap.size:=by omega
            have hprev9:0<j->V9.cell? ⟨b,off+(j-1)*2,none⟩=some (.int .i64 la):=fun h0=>by rw[<- hV9];exact(hb1.cell (p:=⟨b,_,none⟩) hbb).trans (hprev h0)
            have hbb9:b<V9.heap.size:=by omega
            have HB9:Hid (Below V7.heap.size V7 V9):=by show Below V7.heap.size V7 V9;rw[<- hV9];exact hb.trans (hb1.mono hb.size)
            have HR9:=HR7.out.below HB9.out;have i0:=HR9.bx.k0;have hil9:=HR9.bx.lt;have jj0:(0:Int)<=(j:Int):=by omega
            have jj1:(j:Int)<(n:Int):=by omega
            have HV9:=iH hV9;clear HR9 hb1 kx hprev hV9;go_upto_region 51 with fail;rw[HV9.out];clear HV9 c0 c1 c2 hb HB hbl8 hbb;go_cut [6] (fun a wx=>a=.bool (yf || (decide (x<=la) || decide ((m.si.n:Int)<=x)))∧Below V9.heap.size V9 wx)
            case first=>as_aux_lemma =>
             have HNR:Hid (x<0->yf=false->decide (x<=la)=true):=fun h1 h2=>decide_eq_true (by have:=HLA.out h2;omega)
             cases yf;rotate_left
             ·go_wp2_with fail;go_quiet (fail);go_wp2;go_meet;exact⟨rfl,bel_drewN (Below.refl _ _) _⟩
             cases q0:decide (x<0);rotate_left
             ·have q9:=HNR.out (of_decide_eq_true q0) rfl;clear hprev9;go_wp2_with fail;go_quiet (fail);go_wp2;go_meet;exact⟨by rw[q9];rfl,bel_drewN (Below.refl _ _) _⟩
             cases q1:decide ((m.si.n:Int)<=x);rotate_left
             ·clear hprev9;go_wp2_with fail;go_quiet (fail);go_wp2;go_meet;exact⟨by rw[q1];simp,bel_drewN (Below.refl _ _) _⟩
             by_cases hj0:0<j
             ·have hp:=hprev9 hj0;have q2:decide (0<j)=true:=decide_eq_true hj0;have q3:decide ((0:Int)<(j:Int))=true:=decide_eq_true (by omega);have z1:IntKind.i64.wrap ((j:Int)-1)=(j:Int)-1:=IntWalk.i64_in _ (by omega);have z2:((j:Int)-1).toNat=j-1:=by omega
              have z3:(0:Int)<=(j:Int)-1:=by omega
              have z4:(1:Int)<=(j:Int):=by omega
              have z5:(j:Int)-1<(n:Int):=by omega
              have z6:j-1<n:=by omega
              clear hprev9;go_wp2_with fail;go_quiet (fail);go_wp2;go_meet;exact⟨by rw[q1];simp,bel_drewN (Below.refl _ _) _⟩
             ·have q2:decide (0<j)=false:=decide_eq_false hj0;have q3:decide ((0:Int)<(j:Int))=false:=decide_eq_false (by omega);have q4:decide (x<=la)=false:=decide_eq_false (by have h1:=HL1.out (by omega);have h2:=of_decide_eq_false q0;omega);clear hprev9;go_wp2_with fail;go_quiet (fail);go_wp2;go_meet;exact⟨by rw[q1,q4];rfl,bel_drewN (Below.refl _ _) _⟩
            case rest =>
             obtain⟨rfl,hb⟩:=hcut;have f1':wc.cell? ⟨wr.heap.size,1,none⟩=some (.int .i64 y):=(hb.cell (p:=⟨wr.heap.size,1,none⟩) hl9).trans f1;have hl9':wr.heap.size<wc.heap.size:=Nat.lt_of_lt_of_le hl9 hb.size;have HB:=iH (HB9.out.trans (hb.mono HB9.out.size));clear hb f0 f1 g0 i0 hprev9;cases yn;rotate_left
             ·go_wp2;go_roundw
              case rel=>exact⟨j+1,by omega,by go_num,by rw[ST.out],by rw[SU.out];rfl,HB.out⟩
              case measure=>simp[intOf];omega
             cases q0:decide (y<1)
             ·go_wp2;go_roundw
              case rel=>exact⟨j+1,by omega,by go_num,by rw[ST.out],by rw[SU.out,q0];rfl,HB.out⟩
              case measure=>simp[intOf];omega
             ·go_wp2;go_roundw
              case rel=>exact⟨j+1,by omega,by go_num,by rw[ST.out],by rw[SU.out,q0];rfl,HB.out⟩
              case measure=>simp[intOf];omega
           ·obtain rfl:n=j:=by omega
            have ST:Hid ((xf || !sortTo m.si.n l n)=(F6 || !allK (fun p:SL=>sortB m.si.n p.2) ls (k+1))):=by show _=_;rw[SF.out,sortB,<- Hn.out]
            have SU:Hid ((xn || !allK unitP l n)=(N6 || !allK (fun p:SL=>p.2.all unitP) ls (k+1))):=by show _=_;rw[SN.out,allK_all unitP l n Hn.out]
            rw[ST.out,SU.out];clear ST SU SF SN hb;go_wp2;go_roundw
            case rel=>exact⟨k+1,by omega,by go_num,rfl,rfl,HB.out⟩
            case measure=>simp[intOf];omega
         ·obtain rfl:nl=k:=by omega
          have SF:Hid (allK (fun p:SL=>sortB m.si.n p.2) ls nl=ls.all fun p=>sortB m.si.n p.2):=allK_all _ _ _ Hnl.out;have SN:Hid (allK (fun p:SL=>p.2.all unitP) ls nl=ls.all fun p=>p.2.all unitP):=allK_all _ _ _ Hnl.out;rw[SF.out,SN.out];clear SF SN hb;go_wp2;go_meet;exact⟨rfl,rfl,(HR7.out.below HB.out).bel⟩
       case rest =>
        obtain⟨rfl,rfl,hb⟩:=hcut;obtain⟨F7,hF7⟩:∃F7,(F6 || !ls.all fun p=>sortB m.si.n p.2)=F7:=⟨_,rfl⟩;obtain⟨N7,hN7⟩:∃N7,(N6 || !ls.all fun p=>p.2.all unitP)=N7:=⟨_,rfl⟩;have E4:L6 = !limC m:=by
         rw[<- HLim.out,<- HL6.out,<- HL5.out,<- HL4.out];unfold refLim;cases L3 <;> cases m.rules.all ruLim <;> cases m.tables.all tbLim <;> cases m.taxes.all txLim <;> rfl
        have E6:F7 = !wfC m:=by
         rw[<- HForm.out,<- hF7,<- HF6.out,<- HF5.out,<- HF4.out,<- HF3.out];unfold refForm;rw[Hls.out,<- Hni.out];cases m.items.all itFormedB <;> cases(m.rules.all fun r=>ruFormed r && contB r.take r.back) <;> cases(m.tables.all fun t=>decide (0<t.rows.length)) <;> cases m.taxes.all wfX <;> cases(ls.all fun p=>sortB m.si.n p.2) <;> rfl
        have E7:N7 = !rgC m:=by
         rw[<- HNum.out,<- hN7,<- HN6.out,<- HN5.out,<- HN4.out,<- HN3.out];unfold refNum;rw[Hls.out];cases m.items.all itRangeB <;> cases m.rules.all ruRange <;> cases(m.tables.all fun t=>t.rows.all wtP) <;> cases(m.taxes.all fun t=>rangeB t.brs t.brs.length) <;> cases(ls.all fun p=>p.2.all unitP) <;> rfl
        rw[hF7,hN7,E4,E6,E7];clear hF7 hN7 E4 E6 E7 HL6 HL5 HL4 HL3 HF6 HF5 HF4 HF3 HN6 HN5 HN4 HN3 HLim HForm HNum;generalize limC m=q0 at *;generalize wfC m=q3 at *;generalize rgC m=q4 at *;have hsz:=hb.size;have HB:Hid (Below w.heap.size w ((wc.alloc (.cells #[.bool !q0,.bool !FB,.bool !DC,.bool !q3,.bool !q4] 4)).alloc (.cells #[.int .i64 4,.int .i64 6,.int .i64 8,.int .i64 1,.int .i64 5] 34))):=(hb.alloc hsz _).alloc (by simp;omega) _;clear hb;go_wp2_with fail;refine wp_loop_rounds 6 ?_;rw[rounds_succ];cases q0
        ·go_wp2;go_ret;exact⟨by rw[HCode.out];rfl,HB.out⟩
        ·go_wp2;rw[rounds_succ];cases FB
         ·go_wp2;go_ret;exact⟨by rw[HCode.out];rfl,HB.out⟩
         ·go_wp2;rw[rounds_succ];cases DC
          ·go_wp2;go_ret;exact⟨by rw[HCode.out];rfl,HB.out⟩
          ·go_wp2;rw[rounds_succ];cases q3
           ·go_wp2;go_ret;exact⟨by rw[HCode.out];rfl,HB.out⟩
           ·go_wp2;rw[rounds_succ];cases q4
            ·go_wp2;go_ret;exact⟨by rw[HCode.out];rfl,HB.out⟩
            ·go_wp2;rw[rounds_succ];go_wp2;go_ret;exact⟨by rw[HCode.out];rfl,HB.out⟩
end Go.Proofs.YthjfdfdgbpbanaaGreatDoor
