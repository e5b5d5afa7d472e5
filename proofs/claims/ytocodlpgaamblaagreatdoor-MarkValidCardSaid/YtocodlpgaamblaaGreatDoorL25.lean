/- The reference's Valid. The reference's named, at a condition that names a rule or an item. A drawn region: an operation whose guard is off. The reference's named, on any valid mark. The reference's text of a condition. -/
import Derived.Test.YtocodlpgaamblaaGreatDoorL7
import Derived.Test.YtocodlpgaamblaaGreatDoorL12
import Derived.Test.YtocodlpgaamblaaGreatDoorL13
import Derived.Test.YtocodlpgaamblaaGreatDoorL24
set_option linter.unusedVariables false
set_option linter.unusedSimpArgs false
set_option maxRecDepth 100000
set_option maxHeartbeats 2000000
open Go.RowKit
namespace Go.Proofs.YtocodlpgaamblaaGreatDoor
theorem rown_any {w:World} (op:ByteArray) (a b:Int) (A:Option Addr) (n c:Nat) (si sr st sx:Sl) (hn:n<=100000) (hi:si.n<=1000000) (hr:sr.n<=1000000) :
 Calls Tryz.prog 106 #[.agg #[.slice si.A si.n si.c,.slice sr.A sr.n sr.c,.slice st.A st.n st.c,.slice sx.A sx.n sx.c],.agg #[.string op,.int .i64 a,.int .i64 b,.slice A n c]] w fun e w'=>e=.returned (.int .i64 (aloneE si.n sr.n op a b n))∧Below w.heap.size w w':=by
 by_cases h1:op=sAnd
 ·exact rown_join op a b A n c si sr st sx hn (.inl h1)
 by_cases h2:op=sOr
 ·exact rown_join op a b A n c si sr st sx hn (.inr (.inl h2))
 by_cases h3:op=sNot
 ·exact rown_join op a b A n c si sr st sx hn (.inr (.inr h3))
 exact rown_cond op a b A n c si sr st sx hn hi hr h1 h2 h3
theorem rall_any (si sr st sx:Sl) (hi:si.n<=1000000) (hr:sr.n<=1000000):∀(M:MkM) (w:World) (P:Nat->Prop),M.Ok w 35 P ->
 Calls Tryz.prog 58 #[.agg #[.slice si.A si.n si.c,.slice sr.A sr.n sr.c,.slice st.A st.n st.c,.slice sx.A sx.n sx.c],.agg #[.string M.op,.int .i64 M.a,.int .i64 M.b,.slice M.s.A M.s.n M.s.c]] w fun e w'=>e=.returned (.int .i64 (M.core.check si.n sr.n))∧Below w.heap.size w w':=by
 intro M
 induction M using MkM.ind with
 | h M ih =>
   intro w P h;have y:Below w.heap.size w ((w.alloc (.cells #[.slice si.A si.n si.c,.slice sr.A sr.n sr.c,.slice st.A st.n st.c,.slice sx.A sx.n sx.c] 28)).alloc (.cells #[.string M.op,.int .i64 M.a,.int .i64 M.b,.slice M.s.A M.s.n M.s.c] 35)):=((Below.refl _ _).alloc (Nat.le_refl _) _).alloc (by simp) _;have Y:=iH y;have KA:=iH (rown_any (w:=((w.alloc (.cells #[.slice si.A si.n si.c,.slice sr.A sr.n sr.c,.slice st.A st.n st.c,.slice sx.A sx.n sx.c] 28)).alloc (.cells #[.string M.op,.int .i64 M.a,.int .i64 M.b,.slice M.s.A M.s.n M.s.c] 35))) M.op M.a M.b M.s.A M.s.n M.s.c si sr st sx h.small hi hr);have B0:=iH ((Bk.new w 28 [.slice si.A si.n si.c,.slice sr.A sr.n sr.c,.slice st.A st.n st.c,.slice sx.A sx.n sx.c]).alloc (.cells #[.string M.op,.int .i64 M.a,.int .i64 M.b,.slice M.s.A M.s.n M.s.c] 35));have B1:Hid (Bk ((w.alloc (.cells #[.slice si.A si.n si.c,.slice sr.A sr.n sr.c,.slice st.A st.n st.c,.slice sx.A sx.n sx.c] 28)).alloc (.cells #[.string M.op,.int .i64 M.a,.int .i64 M.b,.slice M.s.A M.s.n M.s.c] 35)) (w.heap.size+1) 35 [.string M.op,.int .i64 M.a,.int .i64 M.b,.slice M.s.A M.s.n M.s.c]):=by
    have:=Bk.new (w.alloc (.cells #[.slice si.A si.n si.c,.slice sr.A sr.n sr.c,.slice st.A st.n st.c,.slice sx.A sx.n sx.c] 28)) 35 [.string M.op,.int .i64 M.a,.int .i64 M.b,.slice M.s.A M.s.n M.s.c];rw[World.size_alloc]at this;exact iH this
   have Hn:=iH h.len;have H:=iH h;have hs:=h.small;have hT:M.core.check si.n sr.n=if aloneE si.n sr.n M.op M.a M.b M.s.n≠0 then aloneE si.n sr.n M.op M.a M.b M.s.n else Mk.checkL si.n sr.n ((M.ks.drop 0).map MkM.core):=by
    rw[List.drop_zero,<- coreL_map,h.len,<- coreL_len];cases M;rfl
   have HT:=iH hT;have HI:=iH ih;generalize M.core.check si.n sr.n=T at *;obtain⟨mop,ma,mbb,l,s⟩:=M;dsimp only[MkM.ks,MkM.s,MkM.op,MkM.a,MkM.b]at *;obtain⟨A,n,c⟩:=s;dsimp only at *;clear h hT ih y;generalize aloneE si.n sr.n mop ma mbb n=E0 at *;go_enter Tryz.func58,Tryz.ntmps58;go_wp2_with fail;refine KA.out.mono ?_;rintro e w1 ⟨rfl,hb1⟩;have Y1:=iH (Y.out.trans (hb1.mono Y.out.size));have B01:=iH (B0.out.below hb1 B0.out.lt);have B11:=iH (B1.out.below hb1 B1.out.lt);clear KA hb1 B0 B1 Y;go_wp2_with fail;go_loopw [5,6] (fun v i wr=>∃(k:Nat) (er:Int),k<=n∧i=.int .i64 k∧v=.int .i64 er∧T=(if er≠0 then er else Mk.checkL si.n sr.n ((l.drop k).map MkM.core))∧Below w.heap.size w wr∧Bk wr w.heap.size 28 [.slice si.A si.n si.c,.slice sr.A sr.n sr.c,.slice st.A st.n st.c,.slice sx.A sx.n sx.c]∧Bk wr (w.heap.size+1) 35 [.string mop,.int .i64 ma,.int .i64 mbb,.slice A n c]) (fun _ i _=>n-(intOf i).toNat)
   case atStart=>exact⟨0,E0,Nat.zero_le _,rfl,rfl,HT.out,Y1.out,B01.out,B11.out⟩
   case round =>
    obtain⟨k,er,hk,rfl,rfl,hR,hb,hb0,hb1⟩:=hrel;have HB:=iH hb;have HB0:=iH hb0;have HB1:=iH hb1;have HR:=iH hR;have f3:=hb1.k3;have fl:=hb1.lt;clear hb hb0 hb1 hR HT B01 B11 Y1;by_cases hlt:k<n
    ·by_cases her:er=0
     ·subst her;have hkl:k<l.length:=by have:=Hn.out;omega
      obtain⟨bb,off,rfl,hbb,c0,c1,c2,c3⟩:=(H.out.bel HB.out).at_ k hkl;dsimp only[MkM.ks,MkM.s]at c0 c1 c2 c3;have hdr:l.drop k=l[k] :: l.drop (k+1):=List.drop_eq_getElem_cons hkl;have HR2:Hid (T=if l[k].core.check si.n sr.n≠0 then l[k].core.check si.n sr.n else Mk.checkL si.n sr.n ((l.drop (k+1)).map MkM.core)):=by
       show T=_;rw[HR.out,if_neg (by simp),hdr,List.map_cons];rfl
      have hmem:=List.getElem_mem hkl;have hbw:bb<w.heap.size:=by
       obtain⟨b2,off2,hA2,hb2,_⟩:=H.out.at_ k hkl;dsimp only[MkM.s]at hA2;simp only[Option.some.injEq,Addr.mk.injEq]at hA2;omega
      have HEL:Hid (∀w',Below w.heap.size w w'->((w'.cell? ⟨bb,off+k*4,none⟩=some (.string l[k].op)∧w'.cell? ⟨bb,off+k*4+1,none⟩=some (.int .i64 l[k].a)∧w'.cell? ⟨bb,off+k*4+2,none⟩=some (.int .i64 l[k].b)∧w'.cell? ⟨bb,off+k*4+3,none⟩=some (.slice l[k].s.A l[k].s.n l[k].s.c))∧bb<w'.heap.size)):=iH fun U hU=>by
       obtain⟨b2,off2,hA2,hb2,d0,d1,d2,d3⟩:=H.out.at_ k hkl;dsimp only[MkM.ks,MkM.s]at hA2 d0 d1 d2 d3;simp only[Option.some.injEq,Addr.mk.injEq]at hA2;obtain⟨rfl,rfl,-⟩:=hA2;exact⟨⟨(hU.cell (p:=⟨bb,off+k*4,none⟩) hb2).trans d0,(hU.cell (p:=⟨bb,off+k*4+1,none⟩) hb2).trans d1,(hU.cell (p:=⟨bb,off+k*4+2,none⟩) hb2).trans d2,(hU.cell (p:=⟨bb,off+k*4+3,none⟩) hb2).trans d3⟩,Nat.lt_of_lt_of_le hb2 hU.size⟩
      have HC:=iH (HI.out l[k] hmem wr.drew P (((H.out.bel HB.out.drew).each l[k] hmem)));clear hmem hdr HR c0 c1 c2 c3 hbb;generalize l[k]=t at *;generalize t.core.check si.n sr.n=z at *;clear hkl hbw;go_wp2;refine wp_region_X (fun w'=>(Bk w' w.heap.size 28 [.slice si.A si.n si.c,.slice sr.A sr.n sr.c,.slice st.A st.n st.c,.slice sx.A sx.n sx.c]∧Bk w' (w.heap.size+1) 35 [.string mop,.int .i64 ma,.int .i64 mbb,.slice (some ⟨bb,off,none⟩) n c])∧((w'.cell? ⟨bb,off+k*4,none⟩=some (.string t.op)∧w'.cell? ⟨bb,off+k*4+1,none⟩=some (.int .i64 t.a)∧w'.cell? ⟨bb,off+k*4+2,none⟩=some (.int .i64 t.b)∧w'.cell? ⟨bb,off+k*4+3,none⟩=some (.slice t.s.A t.s.n t.s.c))∧bb<w'.heap.size)) 8 (n:=8) rfl (by kernel_rfl) (⟨⟨HB0.out.drew,HB1.out.drew⟩,HEL.out _ HB.out.drew⟩) (fun hS=>?_);refine tU 0 (some 21) (v:=?_) rfl ⟨rfl,?_⟩ hS ?_;rotate_left
      ·intro w' hS';have e0:=hS'.1.1.k0;have e1:=hS'.1.1.k1;have e2:=hS'.1.1.k2;have e3:=hS'.1.1.k3;have el:=hS'.1.1.lt;(go_simp;try with_reducible rfl)
      refine tU 1 (some 22) (v:=?_) rfl ⟨rfl,?_⟩ hS ?_;rotate_left
      ·intro w' hS';(go_simp;try with_reducible rfl)
      refine tU 2 (some 23) (v:=?_) rfl ⟨rfl,?_⟩ hS ?_;rotate_left
      ·intro w' hS';have e0:=hS'.1.2.k0;have e1:=hS'.1.2.k1;have e2:=hS'.1.2.k2;have e3:=hS'.1.2.k3;have el:=hS'.1.2.lt;(go_simp;try with_reducible rfl)
      refine tU 3 (some 24) (v:=?_) rfl ⟨rfl,?_⟩ hS ?_;rotate_left
      ·intro w' hS';(go_simp;try with_reducible rfl)
      refine tU 4 (some 25) (v:=?_) rfl ⟨rfl,?_⟩ hS ?_;rotate_left
      ·intro w' hS';(go_simp;try with_reducible rfl)
      refine tU 5 (some 26) (v:=?_) rfl ⟨rfl,?_⟩ hS ?_;rotate_left
      ·intro w' hS';have e0:=hS'.2.1.1;have e1:=hS'.2.1.2.1;have e2:=hS'.2.1.2.2.1;have e3:=hS'.2.1.2.2.2;have el:=hS'.2.2;(go_simp;try with_reducible rfl)
      refine X_o 6 rfl fun K hK=>?_;go_simp;(with_reducible refine HC.out.mono ?_);rintro e w1 ⟨rfl,hb1⟩;have hd:=(Below.refl wr.heap.size wr).drew.trans hb1;have HBn:=iH (HB.out.trans (hd.mono HB.out.size));have HB0n:=iH (HB0.out.below hd HB0.out.lt);have HB1n:=iH (HB1.out.below hd HB1.out.lt);refine hK _ _ ⟨⟨HB0n.out,HB1n.out⟩,HEL.out _ HBn.out⟩ ?_;clear hK HC hb1 hd HB HB0 HB1;refine X_o 7 rfl fun K hK=>?_;go_simp;refine hK _ _ ⟨⟨HB0n.out,HB1n.out⟩,HEL.out _ HBn.out⟩ ?_;clear hK;refine X_done (by kernel_rfl) ?_;clear hS;go_wp2;go_roundw
      case rel=>exact⟨k+1,z,by omega,by go_num,rfl,HR2.out,HBn.out,HB0n.out,HB1n.out⟩
      case measure=>simp[intOf];omega
     ·have her1:(er == 0)=false:=by simpa using her
      have HF:Hid (T=er):=by show T=_;rw[HR.out,if_pos her]
      clear HR;go_wp2;go_ret;exact⟨by rw[HF.out];rfl,HB.out⟩
    ·have hkn:k=n:=by omega
     have HF:Hid (T=er):=by
      show T=er;rw[HR.out,hkn,List.drop_of_length_le (by have:=Hn.out;omega)];by_cases her:er=0
      ·rw[if_neg (by simpa using her),her];rfl
      ·rw[if_pos her]
     clear hkn HR;go_wp2;go_ret;exact⟨by rw[HF.out];rfl,HB.out⟩
theorem rvalid_any (si sr st sx:Sl) (hi:si.n<=1000000) (hr:sr.n<=1000000) (M:MkM) (w:World) (P:Nat->Prop) (h:M.Ok w 35 P) (hsz:M.core.size<=1000000000) :
 Calls Tryz.prog 21 #[.agg #[.slice si.A si.n si.c,.slice sr.A sr.n sr.c,.slice st.A st.n st.c,.slice sx.A sx.n sx.c],.agg #[.string M.op,.int .i64 M.a,.int .i64 M.b,.slice M.s.A M.s.n M.s.c]] w fun e w'=>e=.returned (.int .i64 (validM si.n sr.n M.core))∧Below w.heap.size w w':=by
 have y:Below w.heap.size w ((w.alloc (.cells #[.slice si.A si.n si.c,.slice sr.A sr.n sr.c,.slice st.A st.n st.c,.slice sx.A sx.n sx.c] 28)).alloc (.cells #[.string M.op,.int .i64 M.a,.int .i64 M.b,.slice M.s.A M.s.n M.s.c] 35)):=((Below.refl _ _).alloc (Nat.le_refl _) _).alloc (by simp) _;have Y:=iH y;have B0:=iH ((Bk.new w 28 [.slice si.A si.n si.c,.slice sr.A sr.n sr.c,.slice st.A st.n st.c,.slice sx.A sx.n sx.c]).alloc (.cells #[.string M.op,.int .i64 M.a,.int .i64 M.b,.slice M.s.A M.s.n M.s.c] 35));have B1:Hid (Bk ((w.alloc (.cells #[.slice si.A si.n si.c,.slice sr.A sr.n sr.c,.slice st.A st.n st.c,.slice sx.A sx.n sx.c] 28)).alloc (.cells #[.string M.op,.int .i64 M.a,.int .i64 M.b,.slice M.s.A M.s.n M.s.c] 35)) (w.heap.size+1) 35 [.string M.op,.int .i64 M.a,.int .i64 M.b,.slice M.s.A M.s.n M.s.c]):=by
  have:=Bk.new (w.alloc (.cells #[.slice si.A si.n si.c,.slice sr.A sr.n sr.c,.slice st.A st.n st.c,.slice sx.A sx.n sx.c] 28)) 35 [.string M.op,.int .i64 M.a,.int .i64 M.b,.slice M.s.A M.s.n M.s.c];rw[World.size_alloc]at this;exact iH this
 have K1:=iH (size_any M ((w.alloc (.cells #[.slice si.A si.n si.c,.slice sr.A sr.n sr.c,.slice st.A st.n st.c,.slice sx.A sx.n sx.c] 28)).alloc (.cells #[.string M.op,.int .i64 M.a,.int .i64 M.b,.slice M.s.A M.s.n M.s.c] 35)) P (h.bel y) hsz);have H:=iH h;have HS:=iH hsz;have hd:=depth_size M.core;clear y h hsz;go_enter Tryz.func21,Tryz.ntmps21;go_wp2_with fail;refine K1.out.mono ?_;rintro e w1 ⟨rfl,hb1⟩;have Y1:=iH (Y.out.trans (hb1.mono Y.out.size));have B01:=iH (B0.out.below hb1 B0.out.lt);have B11:=iH (B1.out.below hb1 B1.out.lt);clear K1 hb1 B0 B1 Y;by_cases h1:64<M.core.size
 ·have HQ:Hid (validM si.n sr.n M.core=4):=iH (by unfold validM;rw[if_pos (.inl h1)]);have h1':(64:Int)<(M.core.size:Int):=by omega
  clear h1 hd;generalize(M.core.size:Int)=cc at *;go_wp2;go_ret;exact⟨by rw[HQ.out];rfl,Y1.out⟩
 ·have h1':¬ (64:Int)<(M.core.size:Int):=by omega
  have K2:=iH (depth_any M w1 P (H.out.bel Y1.out) HS.out);have HV:Hid (validM si.n sr.n M.core=if 16<M.core.depth then 4 else M.core.check si.n sr.n):=iH (by unfold validM;simp[h1]);have K3:=iH (fun U (hU:Below w.heap.size w U)=>rall_any si sr st sx hi hr M U P (H.out.bel hU));clear h1 hd HS;generalize(M.core.size:Int)=cc at *;have b0:=B11.out.k0;have b1:=B11.out.k1;have b2:=B11.out.k2;have b3:=B11.out.k3;have bl:=B11.out.lt;go_wp2_with fail;refine K2.out.mono ?_;rintro e w2 ⟨rfl,hb2⟩;have Y2:=iH (Y1.out.trans (hb2.mono Y1.out.size));have B02:=iH (B01.out.below hb2 B01.out.lt);have B12:=iH (B11.out.below hb2 B11.out.lt);clear K2 hb2 B01 B11 Y1 b0 b1 b2 b3 bl;by_cases h2:16<M.core.depth
  ·have HQ:Hid (validM si.n sr.n M.core=4):=iH (by rw[HV.out,if_pos h2]);have h2':(16:Int)<(M.core.depth:Int):=by omega
   clear h2;generalize(M.core.depth:Int)=cd at *;go_wp2;go_ret;exact⟨by rw[HQ.out];rfl,Y2.out⟩
  ·have HQ:Hid (validM si.n sr.n M.core=M.core.check si.n sr.n):=iH (by rw[HV.out,if_neg h2]);have h2':¬ (16:Int)<(M.core.depth:Int):=by omega
   clear h2 HV;generalize(M.core.depth:Int)=cd at *;have K4:=iH (K3.out _ Y2.out);have b0:=B12.out.k0;have b1:=B12.out.k1;have b2:=B12.out.k2;have b3:=B12.out.k3;have bl:=B12.out.lt;have d0:=B02.out.k0;have d1:=B02.out.k1;have d2:=B02.out.k2;have d3:=B02.out.k3;clear K3;go_wp2_with fail;refine K4.out.mono ?_;rintro e w3 ⟨rfl,hb3⟩;have Y3:=iH (Y2.out.trans (hb3.mono Y2.out.size));clear K4 hb3;go_wp2;go_ret;exact⟨by rw[HQ.out];rfl,Y3.out⟩
theorem nameIx_mem {l:List ByteArray} {s:ByteArray} (h:s∈l):∃j,nameIx l s=some j:=by
 induction l with
 | nil=>cases h
 | cons x xs ih =>
   simp only[nameIx];by_cases e:x=s
   ·exact⟨0,if_pos e⟩
   ·rw[if_neg e];rcases List.mem_cons.1 h with e'|h'
    ·exact absurd e'.symm e
    ·obtain⟨j,hj⟩:=ih h';exact⟨j+1,by rw[hj];rfl⟩
theorem rnamed_rule {w:World} {m:CatM} (hi:ItsV w m.si m.items) (hr:RulesV w m.sr m.rules) (k:Nat) (hk:k<m.rules.length) (b:Int) (A:Option Addr) (c:Nat) :
 Calls Tryz.prog 38 #[.agg #[.slice m.si.A m.si.n m.si.c,.slice m.sr.A m.sr.n m.sr.c,.slice m.st.A m.st.n m.st.c,.slice m.sx.A m.sx.n m.sx.c],.agg #[.string sRule,.int .i64 (k:Int),.int .i64 b,.slice A 0 c]] w fun e w'=>e=.returned (.bool (wordOk (m.rules.map RuM.name) k))∧Below w.heap.size w w':=by
 obtain⟨its,rus,tbs,txs,si,sr,st,sx⟩:=m;obtain⟨As,ns,cs⟩:=sr;dsimp only at *;obtain⟨bb,off,hA,hbb,hc0,-⟩:=hr.at_ k hk;have hkn:(k:Int)<ns:=by have:=hr.len;dsimp only at this;omega
 have hkm:(ns:Int)<=100000:=by have:=hr.small;dsimp only at this;omega
 have hsz:rus[k].name.size<=8192:=(hr.each _ (List.getElem_mem hk)).name;dsimp only at hA;subst hA;have y:Below w.heap.size w ((w.alloc (.cells #[.slice si.A si.n si.c,.slice (some ⟨bb,off,none⟩) ns cs,.slice st.A st.n st.c,.slice sx.A sx.n sx.c] 28)).alloc (.cells #[.string sRule,.int .i64 (k:Int),.int .i64 b,.slice A 0 c] 35)):=((Below.refl _ _).alloc (Nat.le_refl _) _).alloc (by simp) _;have Y:=iH y;have B0:=iH ((Bk.new w 28 [.slice si.A si.n si.c,.slice (some ⟨bb,off,none⟩) ns cs,.slice st.A st.n st.c,.slice sx.A sx.n sx.c]).alloc (.cells #[.string sRule,.int .i64 (k:Int),.int .i64 b,.slice A 0 c] 35));have B1:Hid (Bk ((w.alloc (.cells #[.slice si.A si.n si.c,.slice (some ⟨bb,off,none⟩) ns cs,.slice st.A st.n st.c,.slice sx.A sx.n sx.c] 28)).alloc (.cells #[.string sRule,.int .i64 (k:Int),.int .i64 b,.slice A 0 c] 35)) (w.heap.size+1) 35 [.string sRule,.int .i64 (k:Int),.int .i64 b,.slice A 0 c]):=by
  have:=Bk.new (w.alloc (.cells #[.slice si.A si.n si.c,.slice (some ⟨bb,off,none⟩) ns cs,.slice st.A st.n st.c,.slice sx.A sx.n sx.c] 28)) 35 [.string sRule,.int .i64 (k:Int),.int .i64 b,.slice A 0 c];rw[World.size_alloc]at this;exact iH this
 have qRule:(sRule.toList == [114,117,108,101])=true:=by rw[<- lRule',eqL];decide
 have qItem:(sRule.toList == [105,116,101,109])=false:=by rw[<- lItem',eqL];decide
 have qMore:(sRule.toList == [109,111,114,101])=false:=by rw[<- lMore',eqL];decide
 have KF:=iH (rrule_any (m:=⟨its,rus,tbs,txs,si,⟨some ⟨bb,off,none⟩,ns,cs⟩,st,sx⟩) (hr.below y.drew) rus[k].name);have KW:=iH (fun U=>Word_any rus[k].name hsz U);have HNC:Hid (∀U,Below w.heap.size w U->(U.cell? ⟨bb,off+k*9,none⟩=some (.string rus[k].name)∧bb<U.heap.size)):=iH fun U hU=>⟨(hU.cell (p:=⟨bb,off+k*9,none⟩) hbb).trans hc0,Nat.lt_of_lt_of_le hbb hU.size⟩
 obtain⟨j0,hj0⟩:=nameIx_mem (l:=rus.map RuM.name) (s:=rus[k].name) (List.mem_map_of_mem (List.getElem_mem hk));have HW:Hid (wordOk (rus.map RuM.name) k=(fitG rus[k].name && decide (j0=k))):=iH (by
  unfold wordOk
  rw[List.getElem?_map,List.getElem?_eq_getElem hk]
  simp[hj0])
 unfold FindQ at KF;rw[hj0]at KF;simp only[Option.getD_some,Option.isSome_some]at KF;clear y hj0 hc0 hi hr;generalize rus[k].name=nm at *;generalize wordOk (rus.map RuM.name) k=wo at *;generalize fitG nm=fw at *;clear hsz hk;go_enter Tryz.func38,Tryz.ntmps38;go_upto_region 3 with fail;refine wp_region_X (fun w'=>(Bk w' w.heap.size 28 [.slice si.A si.n si.c,.slice (some ⟨bb,off,none⟩) ns cs,.slice st.A st.n st.c,.slice sx.A sx.n sx.c]∧Bk w' (w.heap.size+1) 35 [.string sRule,.int .i64 (k:Int),.int .i64 b,.slice A 0 c])∧(w'.cell? ⟨bb,off+k*9,none⟩=some (.string nm)∧bb<w'.heap.size)) 14 (n:=14) rfl (by kernel_rfl) (⟨⟨B0.out.drew,B1.out.drew⟩,HNC.out _ Y.out.drew⟩) (fun hS=>?_);refine tU 0 (some 16) (v:=?_) rfl ⟨rfl,?_⟩ hS ?_;rotate_left
 ·intro w' hS';have e0:=hS'.1.1.k0;have e1:=hS'.1.1.k1;have e2:=hS'.1.1.k2;have e3:=hS'.1.1.k3;have el:=hS'.1.1.lt;(go_simp;try with_reducible rfl)
 refine tU 1 (some 17) (v:=?_) rfl ⟨rfl,?_⟩ hS ?_;rotate_left
 ·intro w' hS';(go_simp;try with_reducible rfl)
 refine tU 2 (some 18) (v:=?_) rfl ⟨rfl,?_⟩ hS ?_;rotate_left
 ·intro w' hS';have e0:=hS'.1.1.k0;have e1:=hS'.1.1.k1;have e2:=hS'.1.1.k2;have e3:=hS'.1.1.k3;have el:=hS'.1.1.lt;(go_simp;try with_reducible rfl)
 refine tU 3 (some 19) (v:=?_) rfl ⟨rfl,?_⟩ hS ?_;rotate_left
 ·intro w' hS';(go_simp;try with_reducible rfl)
 refine tU 4 (some 20) (v:=?_) rfl ⟨rfl,?_⟩ hS ?_;rotate_left
 ·intro w' hS';have e0:=hS'.1.2.k0;have e1:=hS'.1.2.k1;have e2:=hS'.1.2.k2;have e3:=hS'.1.2.k3;have el:=hS'.1.2.lt;(go_simp;try with_reducible rfl)
 refine tU 5 (some 21) (v:=?_) rfl ⟨rfl,?_⟩ hS ?_;rotate_left
 ·intro w' hS';(go_simp;try with_reducible rfl)
 refine tU 6 (some 22) (v:=?_) rfl ⟨rfl,?_⟩ hS ?_;rotate_left
 ·intro w' hS';(go_simp;try with_reducible rfl)
 refine tU 7 (some 23) (v:=?_) rfl ⟨rfl,?_⟩ hS ?_;rotate_left
 ·intro w' hS';have e0:=hS'.2.1;have el:=hS'.2.2;(go_simp;try with_reducible rfl)
 refine X_o 8 rfl fun K hK=>?_;go_simp;(with_reducible refine KF.out.mono ?_);rintro e w1 ⟨rfl,hb1⟩;have hd:=(Below.refl ((w.alloc (.cells #[.slice si.A si.n si.c,.slice (some ⟨bb,off,none⟩) ns cs,.slice st.A st.n st.c,.slice sx.A sx.n sx.c] 28)).alloc (.cells #[.string sRule,.int .i64 (k:Int),.int .i64 b,.slice A 0 c] 35)).heap.size ((w.alloc (.cells #[.slice si.A si.n si.c,.slice (some ⟨bb,off,none⟩) ns cs,.slice st.A st.n st.c,.slice sx.A sx.n sx.c] 28)).alloc (.cells #[.string sRule,.int .i64 (k:Int),.int .i64 b,.slice A 0 c] 35))).drew.trans hb1;have Y1:=iH (Y.out.trans (hd.mono Y.out.size));have B01:=iH (B0.out.below hd B0.out.lt);have B11:=iH (B1.out.below hd B1.out.lt);refine hK _ _ ⟨⟨B01.out,B11.out⟩,HNC.out _ Y1.out⟩ ?_;clear hK KF hb1 hd;refine X_o 9 rfl fun K hK=>?_;go_simp;refine hK _ _ ⟨⟨B01.out,B11.out⟩,HNC.out _ Y1.out⟩ ?_;clear hK;refine tU 10 (some 25) (v:=?_) rfl ⟨rfl,?_⟩ ⟨⟨B01.out,B11.out⟩,HNC.out _ Y1.out⟩ ?_;rotate_left
 ·intro w' hS';(go_simp;try with_reducible rfl)
 refine tU 11 (some 26) (v:=?_) rfl ⟨rfl,?_⟩ ⟨⟨B01.out,B11.out⟩,HNC.out _ Y1.out⟩ ?_;rotate_left
 ·intro w' hS';(go_simp;try with_reducible rfl)
 refine X_o 12 rfl fun K hK=>?_;go_simp;refine hK _ _ ⟨⟨B01.out,B11.out⟩,HNC.out _ Y1.out⟩ ?_;clear hK;refine X_o 13 rfl fun K hK=>?_;go_simp;refine hK _ _ ⟨⟨B01.out,B11.out⟩,HNC.out _ Y1.out⟩ ?_;clear hK;refine X_done (by kernel_rfl) ?_;clear hS;have f0:=B01.out.k0;have f1:=B01.out.k1;have f2:=B01.out.k2;have f3:=B01.out.k3;have fl:=B01.out.lt;have g0:=B11.out.k0;have g1:=B11.out.k1;have g2:=B11.out.k2;have g3:=B11.out.k3;have gl:=B11.out.lt;have hnc:=HNC.out _ Y1.out;have hn0:=hnc.1;have hn1:=hnc.2;clear hnc;by_cases hjk:j0=k
 ·subst hjk;have KW1:=iH (KW.out w1);clear KW HNC;go_wp2_with fail;refine KW1.out.mono ?_;rintro e w2 ⟨rfl,hb2⟩;have Y2:=iH (Y1.out.trans (hb2.mono Y1.out.size));have B12:=B11.out.below hb2 B11.out.lt;have g0':w2.cell? ⟨w.heap.size+1,0,none⟩=some (.string sRule):=B12.cell 0;have g1':w2.cell? ⟨w.heap.size+1,1,none⟩=some (.int .i64 (j0:Int)):=B12.cell 1;have g2':w2.cell? ⟨w.heap.size+1,2,none⟩=some (.int .i64 b):=B12.cell 2;have g3':w2.cell? ⟨w.heap.size+1,3,none⟩=some (.slice A 0 c):=B12.cell 3;have gl':=B12.lt;clear KW1 hb2 B12 f0 f1 f2 f3 fl g0 g1 g2 g3 gl hn0 hn1;go_wp2_with fail;go_loopw [5,11] (fun v i wr=>v=.bool fw∧i=.int .i64 0∧wr=w2) (fun _ _ _=>0)
  case atStart=>exact⟨rfl,rfl,rfl⟩
  case round =>
   obtain⟨rfl,rfl,rfl⟩:=hrel;go_wp2;go_ret;exact⟨by rw[HW.out];simp,Y2.out⟩
 ·have hji:((j0:Int) == (k:Int))=false:=by simp;omega
  clear KW HNC;go_wp2_with fail;go_loopw [5,11] (fun v i wr=>v=.bool false∧i=.int .i64 0∧wr=w1) (fun _ _ _=>0)
  case atStart=>exact⟨rfl,rfl,rfl⟩
  case round =>
   obtain⟨rfl,rfl,rfl⟩:=hrel;go_wp2;go_ret;exact⟨by rw[HW.out];simp[hjk],Y1.out⟩
theorem rnamed_item {w:World} {m:CatM} (hi:ItsV w m.si m.items) (hr:RulesV w m.sr m.rules) (k:Nat) (hk:k<m.items.length) (b:Int) (A:Option Addr) (c:Nat) :
 Calls Tryz.prog 38 #[.agg #[.slice m.si.A m.si.n m.si.c,.slice m.sr.A m.sr.n m.sr.c,.slice m.st.A m.st.n m.st.c,.slice m.sx.A m.sx.n m.sx.c],.agg #[.string sItem,.int .i64 (k:Int),.int .i64 b,.slice A 0 c]] w fun e w'=>e=.returned (.bool (wordOk (m.items.map It.name) k))∧Below w.heap.size w w':=by
 obtain⟨its,rus,tbs,txs,si,sr,st,sx⟩:=m;obtain⟨As,ns,cs⟩:=si;dsimp only at *;obtain⟨bb,off,hA,hbb,hc0,-⟩:=hi.at_ k hk;have hkn:(k:Int)<ns:=by have:=hi.len;dsimp only at this;omega
 have hkm:(ns:Int)<=100000:=by have:=hi.small;dsimp only at this;omega
 have hsz:its[k].name.size<=8192:=hi.each _ (List.getElem_mem hk);dsimp only at hA;subst hA;have y:Below w.heap.size w ((w.alloc (.cells #[.slice (some ⟨bb,off,none⟩) ns cs,.slice sr.A sr.n sr.c,.slice st.A st.n st.c,.slice sx.A sx.n sx.c] 28)).alloc (.cells #[.string sItem,.int .i64 (k:Int),.int .i64 b,.slice A 0 c] 35)):=((Below.refl _ _).alloc (Nat.le_refl _) _).alloc (by simp) _;have Y:=iH y;have B0:=iH ((Bk.new w 28 [.slice (some ⟨bb,off,none⟩) ns cs,.slice sr.A sr.n sr.c,.slice st.A st.n st.c,.slice sx.A sx.n sx.c]).alloc (.cells #[.string sItem,.int .i64 (k:Int),.int .i64 b,.slice A 0 c] 35));have B1:Hid (Bk ((w.alloc (.cells #[.slice (some ⟨bb,off,none⟩) ns cs,.slice sr.A sr.n sr.c,.slice st.A st.n st.c,.slice sx.A sx.n sx.c] 28)).alloc (.cells #[.string sItem,.int .i64 (k:Int),.int .i64 b,.slice A 0 c] 35)) (w.heap.size+1) 35 [.string sItem,.int .i64 (k:Int),.int .i64 b,.slice A 0 c]):=by
  have:=Bk.new (w.alloc (.cells #[.slice (some ⟨bb,off,none⟩) ns cs,.slice sr.A sr.n sr.c,.slice st.A st.n st.c,.slice sx.A sx.n sx.c] 28)) 35 [.string sItem,.int .i64 (k:Int),.int .i64 b,.slice A 0 c];rw[World.size_alloc]at this;exact iH this
 have qRule:(sItem.toList == [114,117,108,101])=false:=by rw[<- lRule',eqL];decide
 have qItem:(sItem.toList == [105,116,101,109])=true:=by rw[<- lItem',eqL];decide
 have qMore:(sItem.toList == [109,111,114,101])=false:=by rw[<- lMore',eqL];decide
 have KF:=iH (ritemN_any (m:=⟨its,rus,tbs,txs,⟨some ⟨bb,off,none⟩,ns,cs⟩,sr,st,sx⟩) (hi.below y.drew) its[k].name);have KW:=iH (fun U=>Word_any its[k].name hsz U);have HNC:Hid (∀U,Below w.heap.size w U->(U.cell? ⟨bb,off+k*7,none⟩=some (.string its[k].name)∧bb<U.heap.size)):=iH fun U hU=>⟨(hU.cell (p:=⟨bb,off+k*7,none⟩) hbb).trans hc0,Nat.lt_of_lt_of_le hbb hU.size⟩
 obtain⟨j0,hj0⟩:=nameIx_mem (l:=its.map It.name) (s:=its[k].name) (List.mem_map_of_mem (List.getElem_mem hk));have HW:Hid (wordOk (its.map It.name) k=(fitG its[k].name && decide (j0=k))):=iH (by
  unfold wordOk
  rw[List.getElem?_map,List.getElem?_eq_getElem hk]
  simp[hj0])
 unfold FindQ at KF;rw[hj0]at KF;simp only[Option.getD_some,Option.isSome_some]at KF;clear y hj0 hc0 hi hr;generalize its[k].name=nm at *;generalize wordOk (its.map It.name) k=wo at *;generalize fitG nm=fw at *;clear hsz hk;go_enter Tryz.func38,Tryz.ntmps38;go_upto_region 11 with fail;refine wp_region_X (fun w'=>(Bk w' w.heap.size 28 [.slice (some ⟨bb,off,none⟩) ns cs,.slice sr.A sr.n sr.c,.slice st.A st.n st.c,.slice sx.A sx.n sx.c]∧Bk w' (w.heap.size+1) 35 [.string sItem,.int .i64 (k:Int),.int .i64 b,.slice A 0 c])∧(w'.cell? ⟨bb,off+k*7,none⟩=some (.string nm)∧bb<w'.heap.size)) 13 (n:=13) rfl (by kernel_rfl) (⟨⟨B0.out.drew,B1.out.drew⟩,HNC.out _ Y.out.drew⟩) (fun hS=>?_);refine tU 0 (some 54) (v:=?_) rfl ⟨rfl,?_⟩ hS ?_;rotate_left
 ·intro w' hS';have e0:=hS'.1.1.k0;have e1:=hS'.1.1.k1;have e2:=hS'.1.1.k2;have e3:=hS'.1.1.k3;have el:=hS'.1.1.lt;(go_simp;try with_reducible rfl)
 refine tU 1 (some 55) (v:=?_) rfl ⟨rfl,?_⟩ hS ?_;rotate_left
 ·intro w' hS';(go_simp;try with_reducible rfl)
 refine tU 2 (some 56) (v:=?_) rfl ⟨rfl,?_⟩ hS ?_;rotate_left
 ·intro w' hS';have e0:=hS'.1.1.k0;have e1:=hS'.1.1.k1;have e2:=hS'.1.1.k2;have e3:=hS'.1.1.k3;have el:=hS'.1.1.lt;(go_simp;try with_reducible rfl)
 refine tU 3 (some 57) (v:=?_) rfl ⟨rfl,?_⟩ hS ?_;rotate_left
 ·intro w' hS';(go_simp;try with_reducible rfl)
 refine tU 4 (some 58) (v:=?_) rfl ⟨rfl,?_⟩ hS ?_;rotate_left
 ·intro w' hS';(go_simp;try with_reducible rfl)
 refine tU 5 (some 59) (v:=?_) rfl ⟨rfl,?_⟩ hS ?_;rotate_left
 ·intro w' hS';(go_simp;try with_reducible rfl)
 refine tU 6 (some 60) (v:=?_) rfl ⟨rfl,?_⟩ hS ?_;rotate_left
 ·intro w' hS';have e0:=hS'.2.1;have el:=hS'.2.2;(go_simp;try with_reducible rfl)
 refine X_o 7 rfl fun K hK=>?_;go_simp;(with_reducible refine KF.out.mono ?_);rintro e w1 ⟨rfl,hb1⟩;have hd:=(Below.refl ((w.alloc (.cells #[.slice (some ⟨bb,off,none⟩) ns cs,.slice sr.A sr.n sr.c,.slice st.A st.n st.c,.slice sx.A sx.n sx.c] 28)).alloc (.cells #[.string sItem,.int .i64 (k:Int),.int .i64 b,.slice A 0 c] 35)).heap.size ((w.alloc (.cells #[.slice (some ⟨bb,off,none⟩) ns cs,.slice sr.A sr.n sr.c,.slice st.A st.n st.c,.slice sx.A sx.n sx.c] 28)).alloc (.cells #[.string sItem,.int .i64 (k:Int),.int .i64 b,.slice A 0 c] 35))).drew.trans hb1;have Y1:=iH (Y.out.trans (hd.mono Y.out.size));have B01:=iH (B0.out.below hd B0.out.lt);have B11:=iH (B1.out.below hd B1.out.lt);refine hK _ _ ⟨⟨B01.out,B11.out⟩,HNC.out _ Y1.out⟩ ?_;clear hK KF hb1 hd;refine X_o 8 rfl fun K hK=>?_;go_simp;refine hK _ _ ⟨⟨B01.out,B11.out⟩,HNC.out _ Y1.out⟩ ?_;clear hK;refine tU 9 (some 62) (v:=?_) rfl ⟨rfl,?_⟩ ⟨⟨B01.out,B11.out⟩,HNC.out _ Y1.out⟩ ?_;rotate_left
 ·intro w' hS';(go_simp;try with_reducible rfl)
 refine tU 10 (some 63) (v:=?_) rfl ⟨rfl,?_⟩ ⟨⟨B01.out,B11.out⟩,HNC.out _ Y1.out⟩ ?_;rotate_left
 ·intro w' hS';(go_simp;try with_reducible rfl)
 refine X_o 11 rfl fun K hK=>?_;go_simp;refine hK _ _ ⟨⟨B01.out,B11.out⟩,HNC.out _ Y1.out⟩ ?_;clear hK;refine X_o 12 rfl fun K hK=>?_;go_simp;refine hK _ _ ⟨⟨B01.out,B11.out⟩,HNC.out _ Y1.out⟩ ?_;clear hK;refine X_done (by kernel_rfl) ?_;clear hS;have f0:=B01.out.k0;have f1:=B01.out.k1;have f2:=B01.out.k2;have f3:=B01.out.k3;have fl:=B01.out.lt;have g0:=B11.out.k0;have g1:=B11.out.k1;have g2:=B11.out.k2;have g3:=B11.out.k3;have gl:=B11.out.lt;have hnc:=HNC.out _ Y1.out;have hn0:=hnc.1;have hn1:=hnc.2;clear hnc;by_cases hjk:j0=k
 ·subst hjk;have KW1:=iH (KW.out w1);clear KW HNC;go_wp2_with fail;refine KW1.out.mono ?_;rintro e w2 ⟨rfl,hb2⟩;have Y2:=iH (Y1.out.trans (hb2.mono Y1.out.size));have B12:=B11.out.below hb2 B11.out.lt;have g0':w2.cell? ⟨w.heap.size+1,0,none⟩=some (.string sItem):=B12.cell 0;have g1':w2.cell? ⟨w.heap.size+1,1,none⟩=some (.int .i64 (j0:Int)):=B12.cell 1;have g2':w2.cell? ⟨w.heap.size+1,2,none⟩=some (.int .i64 b):=B12.cell 2;have g3':w2.cell? ⟨w.heap.size+1,3,none⟩=some (.slice A 0 c):=B12.cell 3;have gl':=B12.lt;clear KW1 hb2 B12 f0 f1 f2 f3 fl g0 g1 g2 g3 gl hn0 hn1;go_wp2_with fail;go_loopw [5,11] (fun v i wr=>v=.bool fw∧i=.int .i64 0∧wr=w2) (fun _ _ _=>0)
  case atStart=>exact⟨rfl,rfl,rfl⟩
  case round =>
   obtain⟨rfl,rfl,rfl⟩:=hrel;go_wp2;go_ret;exact⟨by rw[HW.out];simp,Y2.out⟩
 ·have hji:((j0:Int) == (k:Int))=false:=by simp;omega
  clear KW HNC;go_wp2_with fail;go_loopw [5,11] (fun v i wr=>v=.bool false∧i=.int .i64 0∧wr=w1) (fun _ _ _=>0)
  case atStart=>exact⟨rfl,rfl,rfl⟩
  case round =>
   obtain⟨rfl,rfl,rfl⟩:=hrel;go_wp2;go_ret;exact⟨by rw[HW.out];simp[hjk],Y1.out⟩
theorem rnamed_more {w:World} {m:CatM} (hi:ItsV w m.si m.items) (hr:RulesV w m.sr m.rules) (k:Nat) (hk:k<m.items.length) (a:Int) (A:Option Addr) (c:Nat) :
 Calls Tryz.prog 38 #[.agg #[.slice m.si.A m.si.n m.si.c,.slice m.sr.A m.sr.n m.sr.c,.slice m.st.A m.st.n m.st.c,.slice m.sx.A m.sx.n m.sx.c],.agg #[.string sMore,.int .i64 a,.int .i64 (k:Int),.slice A 0 c]] w fun e w'=>e=.returned (.bool (wordOk (m.items.map It.name) k))∧Below w.heap.size w w':=by
 obtain⟨its,rus,tbs,txs,si,sr,st,sx⟩:=m;obtain⟨As,ns,cs⟩:=si;dsimp only at *;obtain⟨bb,off,hA,hbb,hc0,-⟩:=hi.at_ k hk;have hkn:(k:Int)<ns:=by have:=hi.len;dsimp only at this;omega
 have hkm:(ns:Int)<=100000:=by have:=hi.small;dsimp only at this;omega
 have hsz:its[k].name.size<=8192:=hi.each _ (List.getElem_mem hk);dsimp only at hA;subst hA;have y:Below w.heap.size w ((w.alloc (.cells #[.slice (some ⟨bb,off,none⟩) ns cs,.slice sr.A sr.n sr.c,.slice st.A st.n st.c,.slice sx.A sx.n sx.c] 28)).alloc (.cells #[.string sMore,.int .i64 a,.int .i64 (k:Int),.slice A 0 c] 35)):=((Below.refl _ _).alloc (Nat.le_refl _) _).alloc (by simp) _;have Y:=iH y;have B0:=iH ((Bk.new w 28 [.slice (some ⟨bb,off,none⟩) ns cs,.slice sr.A sr.n sr.c,.slice st.A st.n st.c,.slice sx.A sx.n sx.c]).alloc (.cells #[.string sMore,.int .i64 a,.int .i64 (k:Int),.slice A 0 c] 35));have B1:Hid (Bk ((w.alloc (.cells #[.slice (some ⟨bb,off,none⟩) ns cs,.slice sr.A sr.n sr.c,.slice st.A st.n st.c,.slice sx.A sx.n sx.c] 28)).alloc (.cells #[.string sMore,.int .i64 a,.int .i64 (k:Int),.slice A 0 c] 35)) (w.heap.size+1) 35 [.string sMore,.int .i64 a,.int .i64 (k:Int),.slice A 0 c]):=by
  have:=Bk.new (w.alloc (.cells #[.slice (some ⟨bb,off,none⟩) ns cs,.slice sr.A sr.n sr.c,.slice st.A st.n st.c,.slice sx.A sx.n sx.c] 28)) 35 [.string sMore,.int .i64 a,.int .i64 (k:Int),.slice A 0 c];rw[World.size_alloc]at this;exact iH this
 have qRule:(sMore.toList == [114,117,108,101])=false:=by rw[<- lRule',eqL];decide
 have qItem:(sMore.toList == [105,116,101,109])=false:=by rw[<- lItem',eqL];decide
 have qMore:(sMore.toList == [109,111,114,101])=true:=by rw[<- lMore',eqL];decide
 have KF:=iH (ritemN_any (m:=⟨its,rus,tbs,txs,⟨some ⟨bb,off,none⟩,ns,cs⟩,sr,st,sx⟩) (hi.below y.drew) its[k].name);have KW:=iH (fun U=>Word_any its[k].name hsz U);have HNC:Hid (∀U,Below w.heap.size w U->(U.cell? ⟨bb,off+k*7,none⟩=some (.string its[k].name)∧bb<U.heap.size)):=iH fun U hU=>⟨(hU.cell (p:=⟨bb,off+k*7,none⟩) hbb).trans hc0,Nat.lt_of_lt_of_le hbb hU.size⟩
 obtain⟨j0,hj0⟩:=nameIx_mem (l:=its.map It.name) (s:=its[k].name) (List.mem_map_of_mem (List.getElem_mem hk));have HW:Hid (wordOk (its.map It.name) k=(fitG its[k].name && decide (j0=k))):=iH (by
  unfold wordOk
  rw[List.getElem?_map,List.getElem?_eq_getElem hk]
  simp[hj0])
 unfold FindQ at KF;rw[hj0]at KF;simp only[Option.getD_some,Option.isSome_some]at KF;clear y hj0 hc0 hi hr;generalize its[k].name=nm at *;generalize wordOk (its.map It.name) k=wo at *;generalize fitG nm=fw at *;clear hsz hk;go_enter Tryz.func38,Tryz.ntmps38;go_upto_region 11 with fail;refine wp_region_X (fun w'=>(Bk w' w.heap.size 28 [.slice (some ⟨bb,off,none⟩) ns cs,.slice sr.A sr.n sr.c,.slice st.A st.n st.c,.slice sx.A sx.n sx.c]∧Bk w' (w.heap.size+1) 35 [.string sMore,.int .i64 a,.int .i64 (k:Int),.slice A 0 c])∧(w'.cell? ⟨bb,off+k*7,none⟩=some (.string nm)∧bb<w'.heap.size)) 13 (n:=13) rfl (by kernel_rfl) (⟨⟨B0.out.drew,B1.out.drew⟩,HNC.out _ Y.out.drew⟩) (fun hS=>?_);refine tU 0 (some 54) (v:=?_) rfl ⟨rfl,?_⟩ hS ?_;rotate_left
 ·intro w' hS';have e0:=hS'.1.1.k0;have e1:=hS'.1.1.k1;have e2:=hS'.1.1.k2;have e3:=hS'.1.1.k3;have el:=hS'.1.1.lt;(go_simp;try with_reducible rfl)
 refine tU 1 (some 55) (v:=?_) rfl ⟨rfl,?_⟩ hS ?_;rotate_left
 ·intro w' hS';(go_simp;try with_reducible rfl)
 refine tU 2 (some 56) (v:=?_) rfl ⟨rfl,?_⟩ hS ?_;rotate_left
 ·intro w' hS';have e0:=hS'.1.1.k0;have e1:=hS'.1.1.k1;have e2:=hS'.1.1.k2;have e3:=hS'.1.1.k3;have el:=hS'.1.1.lt;(go_simp;try with_reducible rfl)
 refine tU 3 (some 57) (v:=?_) rfl ⟨rfl,?_⟩ hS ?_;rotate_left
 ·intro w' hS';(go_simp;try with_reducible rfl)
 refine tU 4 (some 58) (v:=?_) rfl ⟨rfl,?_⟩ hS ?_;rotate_left
 ·intro w' hS';(go_simp;try with_reducible rfl)
 refine tU 5 (some 59) (v:=?_) rfl ⟨rfl,?_⟩ hS ?_;rotate_left
 ·intro w' hS';(go_simp;try with_reducible rfl)
 refine tU 6 (some 60) (v:=?_) rfl ⟨rfl,?_⟩ hS ?_;rotate_left
 ·intro w' hS';have e0:=hS'.2.1;have el:=hS'.2.2;(go_simp;try with_reducible rfl)
 refine X_o 7 rfl fun K hK=>?_;go_simp;(with_reducible refine KF.out.mono ?_);rintro e w1 ⟨rfl,hb1⟩;have hd:=(Below.refl ((w.alloc (.cells #[.slice (some ⟨bb,off,none⟩) ns cs,.slice sr.A sr.n sr.c,.slice st.A st.n st.c,.slice sx.A sx.n sx.c] 28)).alloc (.cells #[.string sMore,.int .i64 a,.int .i64 (k:Int),.slice A 0 c] 35)).heap.size ((w.alloc (.cells #[.slice (some ⟨bb,off,none⟩) ns cs,.slice sr.A sr.n sr.c,.slice st.A st.n st.c,.slice sx.A sx.n sx.c] 28)).alloc (.cells #[.string sMore,.int .i64 a,.int .i64 (k:Int),.slice A 0 c] 35))).drew.trans hb1;have Y1:=iH (Y.out.trans (hd.mono Y.out.size));have B01:=iH (B0.out.below hd B0.out.lt);have B11:=iH (B1.out.below hd B1.out.lt);refine hK _ _ ⟨⟨B01.out,B11.out⟩,HNC.out _ Y1.out⟩ ?_;clear hK KF hb1 hd;refine X_o 8 rfl fun K hK=>?_;go_simp;refine hK _ _ ⟨⟨B01.out,B11.out⟩,HNC.out _ Y1.out⟩ ?_;clear hK;refine tU 9 (some 62) (v:=?_) rfl ⟨rfl,?_⟩ ⟨⟨B01.out,B11.out⟩,HNC.out _ Y1.out⟩ ?_;rotate_left
 ·intro w' hS';(go_simp;try with_reducible rfl)
 refine tU 10 (some 63) (v:=?_) rfl ⟨rfl,?_⟩ ⟨⟨B01.out,B11.out⟩,HNC.out _ Y1.out⟩ ?_;rotate_left
 ·intro w' hS';(go_simp;try with_reducible rfl)
 refine X_o 11 rfl fun K hK=>?_;go_simp;refine hK _ _ ⟨⟨B01.out,B11.out⟩,HNC.out _ Y1.out⟩ ?_;clear hK;refine X_o 12 rfl fun K hK=>?_;go_simp;refine hK _ _ ⟨⟨B01.out,B11.out⟩,HNC.out _ Y1.out⟩ ?_;clear hK;refine X_done (by kernel_rfl) ?_;clear hS;have f0:=B01.out.k0;have f1:=B01.out.k1;have f2:=B01.out.k2;have f3:=B01.out.k3;have fl:=B01.out.lt;have g0:=B11.out.k0;have g1:=B11.out.k1;have g2:=B11.out.k2;have g3:=B11.out.k3;have gl:=B11.out.lt;have hnc:=HNC.out _ Y1.out;have hn0:=hnc.1;have hn1:=hnc.2;clear hnc;by_cases hjk:j0=k
 ·subst hjk;have KW1:=iH (KW.out w1);clear KW HNC;go_wp2_with fail;refine KW1.out.mono ?_;rintro e w2 ⟨rfl,hb2⟩;have Y2:=iH (Y1.out.trans (hb2.mono Y1.out.size));have B12:=B11.out.below hb2 B11.out.lt;have g0':w2.cell? ⟨w.heap.size+1,0,none⟩=some (.string sMore):=B12.cell 0;have g1':w2.cell? ⟨w.heap.size+1,1,none⟩=some (.int .i64 a):=B12.cell 1;have g2':w2.cell? ⟨w.heap.size+1,2,none⟩=some (.int .i64 (j0:Int)):=B12.cell 2;have g3':w2.cell? ⟨w.heap.size+1,3,none⟩=some (.slice A 0 c):=B12.cell 3;have gl':=B12.lt;clear KW1 hb2 B12 f0 f1 f2 f3 fl g0 g1 g2 g3 gl hn0 hn1;go_wp2_with fail;go_loopw [5,11] (fun v i wr=>v=.bool fw∧i=.int .i64 0∧wr=w2) (fun _ _ _=>0)
  case atStart=>exact⟨rfl,rfl,rfl⟩
  case round =>
   obtain⟨rfl,rfl,rfl⟩:=hrel;go_wp2;go_ret;exact⟨by rw[HW.out];simp,Y2.out⟩
 ·have hji:((j0:Int) == (k:Int))=false:=by simp;omega
  clear KW HNC;go_wp2_with fail;go_loopw [5,11] (fun v i wr=>v=.bool false∧i=.int .i64 0∧wr=w1) (fun _ _ _=>0)
  case atStart=>exact⟨rfl,rfl,rfl⟩
  case round =>
   obtain⟨rfl,rfl,rfl⟩:=hrel;go_wp2;go_ret;exact⟨by rw[HW.out];simp[hjk],Y1.out⟩
section
section
variable {P : Program} {ops : Array Oper} {Q : Exit -> Act -> World -> Prop} {md : Region.Mode} {S : World -> Prop} {T : Nat}
theorem X_skipU (i:Nat) (d:Option Tmp) {oi:Oper} {fuel:Nat} {listed listed':Array Bool} {a:Act} {w:World} (hi:ops[i]? = some oi) (hd:oi.dst=d) (hl:listed.setIfInBounds i true=listed')
 (hB:(Region.noSelect ops && Region.free md ops listed i && (Region.ready md ops listed).contains i)=true) (hT:ops[T]? = none)
 (hQ:∀c a w,Q (.panic c) (a.put oi.dst undef) w->Q (.panic c) a w) (hw:Region.wanted oi (yielded ops a.tmps)=false) (hS:S w)
 (h:wpAnyX P md ops Q S T fuel listed' (a.put d undef) w):wpAnyX P md ops Q S T (fuel+1) listed a w:=by
  simp only[Bool.and_eq_true]at hB;subst hd hl;exact wpAnyX_firstU hi (Region.noSelect_spec hB.1.1) hT hQ fuel listed a w (Region.free_spec hi hB.1.2) (by simpa using hB.2) (.inr ⟨hw,rfl⟩) hS h
end
end
def NamedS (m:CatM) (M:MkM):Prop:=∀(w:World) (P:Nat->Prop),M.Ok w 35 P->ItsV w m.si m.items->RulesV w m.sr m.rules->M.core.check m.si.n m.sr.n=0 ->
 Calls Tryz.prog 38 #[.agg #[.slice m.si.A m.si.n m.si.c,.slice m.sr.A m.sr.n m.sr.c,.slice m.st.A m.st.n m.st.c,.slice m.sx.A m.sx.n m.sx.c],.agg #[.string M.op,.int .i64 M.a,.int .i64 M.b,.slice M.s.A M.s.n M.s.c]] w fun e w'=>e=.returned (.bool (Mk.named (m.rules.map RuM.name) (m.items.map It.name) M.core))∧Below w.heap.size w w'
theorem rnamed_rest {m:CatM} {op:ByteArray} {a b:Int} {l:List MkM} {A:Option Addr} {n c:Nat} {w:World} {P:Nat->Prop} (h1:op≠sRule) (h2:op≠sItem) (h3:op≠sMore) (ih:∀t∈l,NamedS m t) (h:MkM.Ok w 35 P ⟨op,a,b,l,⟨A,n,c⟩⟩) (hi:ItsV w m.si m.items) (hr:RulesV w m.sr m.rules) (hc:∀t∈l,t.core.check m.si.n m.sr.n=0) :
 Calls Tryz.prog 38 #[.agg #[.slice m.si.A m.si.n m.si.c,.slice m.sr.A m.sr.n m.sr.c,.slice m.st.A m.st.n m.st.c,.slice m.sx.A m.sx.n m.sx.c],.agg #[.string op,.int .i64 a,.int .i64 b,.slice A n c]] w fun e w'=>e=.returned (.bool (Mk.namedL (m.rules.map RuM.name) (m.items.map It.name) (l.map MkM.core)))∧Below w.heap.size w w':=by
 have y:Below w.heap.size w ((w.alloc (.cells #[.slice m.si.A m.si.n m.si.c,.slice m.sr.A m.sr.n m.sr.c,.slice m.st.A m.st.n m.st.c,.slice m.sx.A m.sx.n m.sx.c] 28)).alloc (.cells #[.string op,.int .i64 a,.int .i64 b,.slice A n c] 35)):=((Below.refl _ _).alloc (Nat.le_refl _) _).alloc (by simp) _;have Y:=iH y;have B0:=iH ((Bk.new w 28 [.slice m.si.A m.si.n m.si.c,.slice m.sr.A m.sr.n m.sr.c,.slice m.st.A m.st.n m.st.c,.slice m.sx.A m.sx.n m.sx.c]).alloc (.cells #[.string op,.int .i64 a,.int .i64 b,.slice A n c] 35));have B1:Hid (Bk ((w.alloc (.cells #[.slice m.si.A m.si.n m.si.c,.slice m.sr.A m.sr.n m.sr.c,.slice m.st.A m.st.n m.st.c,.slice m.sx.A m.sx.n m.sx.c] 28)).alloc (.cells #[.string op,.int .i64 a,.int .i64 b,.slice A n c] 35)) (w.heap.size+1) 35 [.string op,.int .i64 a,.int .i64 b,.slice A n c]):=by
  have:=Bk.new (w.alloc (.cells #[.slice m.si.A m.si.n m.si.c,.slice m.sr.A m.sr.n m.sr.c,.slice m.st.A m.st.n m.st.c,.slice m.sx.A m.sx.n m.sx.c] 28)) 35 [.string op,.int .i64 a,.int .i64 b,.slice A n c];rw[World.size_alloc]at this;exact iH this
 have qRule:(op.toList == [114,117,108,101])=false:=by rw[<- lRule',eqL,decide_eq_false h1]
 have qItem:(op.toList == [105,116,101,109])=false:=by rw[<- lItem',eqL,decide_eq_false h2]
 have qMore:(op.toList == [109,111,114,101])=false:=by rw[<- lMore',eqL,decide_eq_false h3]
 have Hn:=iH h.len;have H:=iH h;have hs:=h.small;dsimp only at Hn hs;have HI:=iH fun t ht U hU=>ih t ht U P (h.bel hU |>.each t ht) (hi.below hU) (hr.below hU) (hc t ht)
 clear h y h1 h2 h3 ih hi hr hc;generalize hrn:m.rules.map RuM.name=rn at *;generalize hit:m.items.map It.name=it at *;clear hrn hit;go_enter Tryz.func38,Tryz.ntmps38;go_wp2_with fail;go_loopw [5,11] (fun v i wr=>∃(k:Nat) (x:Bool),k<=n∧v=.bool x∧i=.int .i64 k∧x=Mk.namedL rn it ((l.map MkM.core).take k)∧Below w.heap.size w wr∧Bk wr w.heap.size 28 [.slice m.si.A m.si.n m.si.c,.slice m.sr.A m.sr.n m.sr.c,.slice m.st.A m.st.n m.st.c,.slice m.sx.A m.sx.n m.sx.c]∧Bk wr (w.heap.size+1) 35 [.string op,.int .i64 a,.int .i64 b,.slice A n c]) (fun _ i _=>n-(intOf i).toNat)
 case atStart=>exact⟨0,true,Nat.zero_le _,rfl,rfl,rfl,Y.out,B0.out,B1.out⟩
 case round =>
  obtain⟨k,x,hk,rfl,rfl,hx,hb,hb0,hb1⟩:=hrel;have HB:=iH hb;have HB0:=iH hb0;have HB1:=iH hb1;have f3:=hb1.k3;have fl:=hb1.lt;clear hb hb0 hb1 Y B0 B1;by_cases hlt:k<n
  ·have hkl:k<l.length:=by have:=Hn.out;omega
   obtain⟨bb,off,hA,hbb,c0,c1,c2,c3⟩:=H.out.at_ k hkl;dsimp only[MkM.ks,MkM.s]at hA c0 c1 c2 c3;subst hA;have HEL:Hid (∀w',Below w.heap.size w w'->((w'.cell? ⟨bb,off+k*4,none⟩=some (.string l[k].op)∧w'.cell? ⟨bb,off+k*4+1,none⟩=some (.int .i64 l[k].a)∧w'.cell? ⟨bb,off+k*4+2,none⟩=some (.int .i64 l[k].b)∧w'.cell? ⟨bb,off+k*4+3,none⟩=some (.slice l[k].s.A l[k].s.n l[k].s.c))∧bb<w'.heap.size)):=iH fun U hU =>
    ⟨⟨(hU.cell (p:=⟨bb,off+k*4,none⟩) hbb).trans c0,(hU.cell (p:=⟨bb,off+k*4+1,none⟩) hbb).trans c1,(hU.cell (p:=⟨bb,off+k*4+2,none⟩) hbb).trans c2,(hU.cell (p:=⟨bb,off+k*4+3,none⟩) hbb).trans c3⟩,Nat.lt_of_lt_of_le hbb hU.size⟩
   have HX:Hid (Mk.namedL rn it ((l.map MkM.core).take (k+1))=(x && Mk.named rn it l[k].core)):=by
    show _=_;rw[namedL_take _ k (by simpa using hkl),<- hx];simp
   have HC:=iH (HI.out l[k] (List.getElem_mem hkl) wr.drew HB.out.drew);clear c0 c1 c2 c3 hbb hx;generalize l[k]=t at *;generalize Mk.named rn it t.core=z at *;clear hkl;cases x
   ·have HX2:Hid (false=Mk.namedL rn it ((l.map MkM.core).take (k+1))):=iH (by rw[HX.out];rfl);clear HX HC;go_wp2;refine wp_region_X (fun w'=>(Bk w' w.heap.size 28 [.slice m.si.A m.si.n m.si.c,.slice m.sr.A m.sr.n m.sr.c,.slice m.st.A m.st.n m.st.c,.slice m.sx.A m.sx.n m.sx.c]∧Bk w' (w.heap.size+1) 35 [.string op,.int .i64 a,.int .i64 b,.slice (some ⟨bb,off,none⟩) n c])∧((w'.cell? ⟨bb,off+k*4,none⟩=some (.string t.op)∧w'.cell? ⟨bb,off+k*4+1,none⟩=some (.int .i64 t.a)∧w'.cell? ⟨bb,off+k*4+2,none⟩=some (.int .i64 t.b)∧w'.cell? ⟨bb,off+k*4+3,none⟩=some (.slice t.s.A t.s.n t.s.c))∧bb<w'.heap.size)) 11 (n:=11) rfl (by kernel_rfl) (⟨⟨HB0.out.drew,HB1.out.drew⟩,HEL.out _ HB.out.drew⟩) (fun hS=>?_);refine tU 0 (some 83) (v:=?_) rfl ⟨rfl,?_⟩ hS ?_;rotate_left
    ·intro w' hS';(go_simp;try with_reducible rfl)
    simp only[Act.put,Pa,Pb,Pc];refine tU 1 (some 84) (v:=?_) rfl ⟨rfl,?_⟩ hS ?_;rotate_left
    ·intro w' hS';(go_simp;try with_reducible rfl)
    simp only[Act.put,Pa,Pb,Pc];refine X_skipU 2 (some 85) (listed':=#[true,true,true,false,false,false,false,false,false,false,false]) rfl rfl rfl (by kernel_rfl) rfl (fun _ _ _ h=>h) rfl hS ?_;simp only[Act.put,Pa,Pb,Pc];refine X_skipU 3 (some 86) (listed':=#[true,true,true,true,false,false,false,false,false,false,false]) rfl rfl rfl (by kernel_rfl) rfl (fun _ _ _ h=>h) rfl hS ?_;simp only[Act.put,Pa,Pb,Pc];refine X_skipU 4 (some 87) (listed':=#[true,true,true,true,true,false,false,false,false,false,false]) rfl rfl rfl (by kernel_rfl) rfl (fun _ _ _ h=>h) rfl hS ?_;simp only[Act.put,Pa,Pb,Pc];refine X_skipU 5 (some 88) (listed':=#[true,true,true,true,true,true,false,false,false,false,false]) rfl rfl rfl (by kernel_rfl) rfl (fun _ _ _ h=>h) rfl hS ?_;simp only[Act.put,Pa,Pb,Pc];refine X_skipU 6 (some 89) (listed':=#[true,true,true,true,true,true,true,false,false,false,false]) rfl rfl rfl (by kernel_rfl) rfl (fun _ _ _ h=>h) rfl hS ?_;simp only[Act.put,Pa,Pb,Pc];refine X_skipU 7 (some 90) (listed':=#[true,true,true,true,true,true,true,true,false,false,false]) rfl rfl rfl (by kernel_rfl) rfl (fun _ _ _ h=>h) rfl hS ?_;simp only[Act.put,Pa,Pb,Pc];refine X_o 8 rfl fun K hK=>?_;go_simp;refine hK _ _ ⟨⟨HB0.out.drew,HB1.out.drew⟩,HEL.out _ HB.out.drew⟩ ?_;clear hK;refine X_o 9 rfl fun K hK=>?_;go_simp;refine hK _ _ ⟨⟨HB0.out.drew,HB1.out.drew⟩,HEL.out _ HB.out.drew⟩ ?_;clear hK;refine X_o 10 rfl fun K hK=>?_;go_simp;refine hK _ _ ⟨⟨HB0.out.drew,HB1.out.drew⟩,HEL.out _ HB.out.drew⟩ ?_;clear hK;refine X_done (by kernel_rfl) ?_;clear hS;go_wp2;go_roundw
    case rel=>exact⟨k+1,false,by omega,rfl,by go_num,HX2.out,HB.out.drew,HB0.out.drew,HB1.out.drew⟩
    case measure=>simp[intOf];omega
   ·have HX2:Hid (z=Mk.namedL rn it ((l.map MkM.core).take (k+1))):=iH (by rw[HX.out];rfl);clear HX;go_wp2;refine wp_region_X (fun w'=>(Bk w' w.heap.size 28 [.slice m.si.A m.si.n m.si.c,.slice m.sr.A m.sr.n m.sr.c,.slice m.st.A m.st.n m.st.c,.slice m.sx.A m.sx.n m.sx.c]∧Bk w' (w.heap.size+1) 35 [.string op,.int .i64 a,.int .i64 b,.slice (some ⟨bb,off,none⟩) n c])∧((w'.cell? ⟨bb,off+k*4,none⟩=some (.string t.op)∧w'.cell? ⟨bb,off+k*4+1,none⟩=some (.int .i64 t.a)∧w'.cell? ⟨bb,off+k*4+2,none⟩=some (.int .i64 t.b)∧w'.cell? ⟨bb,off+k*4+3,none⟩=some (.slice t.s.A t.s.n t.s.c))∧bb<w'.heap.size)) 11 (n:=11) rfl (by kernel_rfl) (⟨⟨HB0.out.drew,HB1.out.drew⟩,HEL.out _ HB.out.drew⟩) (fun hS=>?_);refine tU 0 (some 83) (v:=?_) rfl ⟨rfl,?_⟩ hS ?_;rotate_left
    ·intro w' hS';(go_simp;try with_reducible rfl)
    simp only[Act.put,Pa,Pb,Pc];refine tU 1 (some 84) (v:=?_) rfl ⟨rfl,?_⟩ hS ?_;rotate_left
    ·intro w' hS';(go_simp;try with_reducible rfl)
    simp only[Act.put,Pa,Pb,Pc];refine tU 2 (some 85) (v:=?_) rfl ⟨rfl,?_⟩ hS ?_;rotate_left
    ·intro w' hS';have e0:=hS'.1.1.k0;have e1:=hS'.1.1.k1;have e2:=hS'.1.1.k2;have e3:=hS'.1.1.k3;have el:=hS'.1.1.lt;(go_simp;try with_reducible rfl)
    simp only[Act.put,Pa,Pb,Pc];refine tU 3 (some 86) (v:=?_) rfl ⟨rfl,?_⟩ hS ?_;rotate_left
    ·intro w' hS';(go_simp;try with_reducible rfl)
    simp only[Act.put,Pa,Pb,Pc];refine tU 4 (some 87) (v:=?_) rfl ⟨rfl,?_⟩ hS ?_;rotate_left
    ·intro w' hS';have e0:=hS'.1.2.k0;have e1:=hS'.1.2.k1;have e2:=hS'.1.2.k2;have e3:=hS'.1.2.k3;have el:=hS'.1.2.lt;(go_simp;try with_reducible rfl)
    simp only[Act.put,Pa,Pb,Pc];refine tU 5 (some 88) (v:=?_) rfl ⟨rfl,?_⟩ hS ?_;rotate_left
    ·intro w' hS';(go_simp;try with_reducible rfl)
    simp only[Act.put,Pa,Pb,Pc];refine tU 6 (some 89) (v:=?_) rfl ⟨rfl,?_⟩ hS ?_;rotate_left
    ·intro w' hS';(go_simp;try with_reducible rfl)
    simp only[Act.put,Pa,Pb,Pc];refine tU 7 (some 90) (v:=?_) rfl ⟨rfl,?_⟩ hS ?_;rotate_left
    ·intro w' hS';have e0:=hS'.2.1.1;have e1:=hS'.2.1.2.1;have e2:=hS'.2.1.2.2.1;have e3:=hS'.2.1.2.2.2;have el:=hS'.2.2;(go_simp;try with_reducible rfl)
    simp only[Act.put,Pa,Pb,Pc];refine X_o 8 rfl fun K hK=>?_;go_simp;(with_reducible refine HC.out.mono ?_);rintro e w1 ⟨rfl,hb1⟩;have hd:=(Below.refl wr.heap.size wr).drew.trans hb1;have HBn:=iH (HB.out.trans (hd.mono HB.out.size));have HB0n:=iH (HB0.out.below hd HB0.out.lt);have HB1n:=iH (HB1.out.below hd HB1.out.lt);refine hK _ _ ⟨⟨HB0n.out,HB1n.out⟩,HEL.out _ HBn.out⟩ ?_;clear hK HC hb1 hd HB HB0 HB1;refine X_o 9 rfl fun K hK=>?_;go_simp;refine hK _ _ ⟨⟨HB0n.out,HB1n.out⟩,HEL.out _ HBn.out⟩ ?_;clear hK;refine X_o 10 rfl fun K hK=>?_;go_simp;refine hK _ _ ⟨⟨HB0n.out,HB1n.out⟩,HEL.out _ HBn.out⟩ ?_;clear hK;refine X_done (by kernel_rfl) ?_;clear hS;go_wp2;go_roundw
    case rel=>exact⟨k+1,z,by omega,rfl,by go_num,HX2.out,HBn.out,HB0n.out,HB1n.out⟩
    case measure=>simp[intOf];omega
  ·have hkn:k=n:=by omega
   have HF:Hid (x=Mk.namedL rn it (l.map MkM.core)):=by
    show _=_;rw[hx,hkn,List.take_of_length_le (by have:=Hn.out;simp;omega)]
   clear hkn hx;go_wp2;go_ret;exact⟨by rw[HF.out];rfl,HB.out⟩
theorem rnamed_any (m:CatM):∀M:MkM,NamedS m M:=by
 intro M
 induction M using MkM.ind with
 | h M ih =>
   intro w P h hi hr hc;obtain⟨op,a,b,l,⟨A,n,c⟩⟩:=M;have hlen:=h.len;dsimp only at hlen ih;have hcn:=check_node (op:=op) (a:=a) (b:=b) (ks:=MkM.coreL l) hc;rw[coreL_len,<- hlen]at hcn;have hcore:MkM.core ⟨op,a,b,l,⟨A,n,c⟩⟩=.node op a b (l.map MkM.core):=by simp[MkM.core,coreL_map]
   rw[hcore];dsimp only;have hns:(∃k:Nat,op=sRule∧a=k∧k<m.rules.length∧n=0)∨(∃k:Nat,op=sItem∧a=k∧k<m.items.length∧n=0)∨(∃k:Nat,op=sMore∧b=k∧k<m.items.length∧n=0)∨(op≠sRule∧op≠sItem∧op≠sMore):=by
    by_cases h1:op=sRule
    ·obtain⟨-,h0,hn,-⟩:=alone_cond hcn.1 (by rw[h1];decide) (by rw[h1];decide) (by rw[h1];decide);rw[h1]at hn;simp only[namesOk,if_pos,Bool.and_eq_true,decide_eq_true_eq]at hn;exact .inl ⟨a.toNat,h1,by omega,by have:=hr.len;omega,h0⟩
    by_cases h2:op=sItem
    ·obtain⟨-,h0,hn,-⟩:=alone_cond hcn.1 (by rw[h2];decide) (by rw[h2];decide) (by rw[h2];decide);rw[h2]at hn;simp only[namesOk,if_pos,(by decide:(sItem=sRule)=False),if_false,Bool.and_eq_true,decide_eq_true_eq]at hn;exact .inr (.inl ⟨a.toNat,h2,by omega,by have:=hi.len;omega,h0⟩)
    by_cases h3:op=sMore
    ·obtain⟨-,h0,hn,-⟩:=alone_cond hcn.1 (by rw[h3];decide) (by rw[h3];decide) (by rw[h3];decide);rw[h3]at hn;simp only[namesOk,if_pos,(by decide:(sMore=sRule)=False),(by decide:(sMore=sItem)=False),if_false,Bool.and_eq_true,decide_eq_true_eq]at hn;exact .inr (.inr (.inl ⟨b.toNat,h3,by omega,by have:=hi.len;omega,h0⟩))
    exact .inr (.inr (.inr ⟨h1,h2,h3⟩))
   rcases hns with ⟨k,rfl,rfl,hk,rfl⟩|⟨k,rfl,rfl,hk,rfl⟩|⟨k,rfl,rfl,hk,rfl⟩|⟨h1,h2,h3⟩
   ·have hl0:l=[]:=List.eq_nil_of_length_eq_zero hlen.symm;refine(rnamed_rule hi hr k hk b A c).mono ?_;rintro e w' ⟨rfl,hb⟩;refine⟨?_,hb⟩;subst hl0;simp[Mk.named,condF,Mk.namedL]
   ·have hl0:l=[]:=List.eq_nil_of_length_eq_zero hlen.symm;refine(rnamed_item hi hr k hk b A c).mono ?_;rintro e w' ⟨rfl,hb⟩;refine⟨?_,hb⟩;subst hl0;simp[Mk.named,condF,Mk.namedL,(by decide:(sItem=sRule)=False)]
   ·have hl0:l=[]:=List.eq_nil_of_length_eq_zero hlen.symm;refine(rnamed_more hi hr k hk a A c).mono ?_;rintro e w' ⟨rfl,hb⟩;refine⟨?_,hb⟩;subst hl0;simp[Mk.named,condF,Mk.namedL,(by decide:(sMore=sRule)=False),(by decide:(sMore=sItem)=False)]
   ·refine(rnamed_rest h1 h2 h3 ih h hi hr (fun t ht=>hcn.2 _ (by rw[coreL_map];exact List.mem_map_of_mem ht))).mono ?_;rintro e w' ⟨rfl,hb⟩;exact⟨by simp[Mk.named,condF,h1,h2,h3],hb⟩
set_option linter.unusedSimpArgs false in
theorem rtext_Kind {w:World} {m:CatM} (hi:ItsV w m.si m.items) (hr:RulesV w m.sr m.rules) (k:Nat) (hk:k<11) (b:Int) (A:Option Addr) (c:Nat) :
 Calls Tryz.prog 39 #[.agg #[.slice m.si.A m.si.n m.si.c,.slice m.sr.A m.sr.n m.sr.c,.slice m.st.A m.st.n m.st.c,.slice m.sx.A m.sx.n m.sx.c],.agg #[.string sKind,.int .i64 (k:Int),.int .i64 b,.slice A 0 c]] w fun e w'=>e=.returned (.string ⟨(condT (m.rules.map RuM.name) (m.items.map It.name) sKind (k:Int) b).toArray⟩)∧Below w.heap.size w w':=by
 have y:Below w.heap.size w ((w.alloc (.cells #[.slice m.si.A m.si.n m.si.c,.slice m.sr.A m.sr.n m.sr.c,.slice m.st.A m.st.n m.st.c,.slice m.sx.A m.sx.n m.sx.c] 28)).alloc (.cells #[.string sKind,.int .i64 (k:Int),.int .i64 b,.slice A 0 c] 35)):=((Below.refl _ _).alloc (Nat.le_refl _) _).alloc (by simp) _;have Y:=iH y;have B0:=iH ((Bk.new w 28 [.slice m.si.A m.si.n m.si.c,.slice m.sr.A m.sr.n m.sr.c,.slice m.st.A m.st.n m.st.c,.slice m.sx.A m.sx.n m.sx.c]).alloc (.cells #[.string sKind,.int .i64 (k:Int),.int .i64 b,.slice A 0 c] 35));have B1:Hid (Bk ((w.alloc (.cells #[.slice m.si.A m.si.n m.si.c,.slice m.sr.A m.sr.n m.sr.c,.slice m.st.A m.st.n m.st.c,.slice m.sx.A m.sx.n m.sx.c] 28)).alloc (.cells #[.string sKind,.int .i64 (k:Int),.int .i64 b,.slice A 0 c] 35)) (w.heap.size+1) 35 [.string sKind,.int .i64 (k:Int),.int .i64 b,.slice A 0 c]):=by
  have:=Bk.new (w.alloc (.cells #[.slice m.si.A m.si.n m.si.c,.slice m.sr.A m.sr.n m.sr.c,.slice m.st.A m.st.n m.st.c,.slice m.sx.A m.sx.n m.sx.c] 28)) 35 [.string sKind,.int .i64 (k:Int),.int .i64 b,.slice A 0 c];rw[World.size_alloc]at this;exact iH this
 have qKind:(sKind.toList == [107,105,110,100])=true:=by rw[<- lKind',eqL];decide
 have qActor:(sKind.toList == [97,99,116,111,114])=false:=by rw[<- lActor',eqL];decide
 have qRule:(sKind.toList == [114,117,108,101])=false:=by rw[<- lRule',eqL];decide
 have qTick:(sKind.toList == [116,105,99,107])=false:=by rw[<- lTick',eqL];decide
 have qItem:(sKind.toList == [105,116,101,109])=false:=by rw[<- lItem',eqL];decide
 have qMore:(sKind.toList == [109,111,114,101])=false:=by rw[<- lMore',eqL];decide
 have qStep:(sKind.toList == [115,116,101,112])=false:=by rw[<- lStep',eqL];decide
 have qAccount:(sKind.toList == [97,99,99,111,117,110,116])=false:=by rw[<- lAccount',eqL];decide
 have KD:=iH (decimal_any (k:Int) ⟨by omega,by omega⟩ ((w.alloc (.cells #[.slice m.si.A m.si.n m.si.c,.slice m.sr.A m.sr.n m.sr.c,.slice m.st.A m.st.n m.st.c,.slice m.sx.A m.sx.n m.sx.c] 28)).alloc (.cells #[.string sKind,.int .i64 (k:Int),.int .i64 b,.slice A 0 c] 35)));have dsz:(⟨(Lib.itoa (k:Int)).toArray⟩:ByteArray).size<=21:=by
  have:=Lib.itoa_length_le (k:Int) (by omega) (by omega);show(Lib.itoa (k:Int)).toArray.size<=21;simpa using this
 have hk:k<kindNs.length:=hk;have HR:Hid ((⟨#[107,105,110,100,32]⟩ ++ kindNs[k]:ByteArray)=⟨(condT (m.rules.map RuM.name) (m.items.map It.name) sKind (k:Int) b).toArray⟩):=iH (bytes_of (by
  simp only[condT,if_true,nmAt_get hk]
  rw[ByteArray.data_append,Array.toList_append];rfl))
 have hsz:kindNs[k].size<=8192:=kind_len _ (List.getElem_mem hk);clear y hi hr;generalize(⟨(condT (m.rules.map RuM.name) (m.items.map It.name) sKind (k:Int) b).toArray⟩:ByteArray)=res at *;generalize(⟨(Lib.itoa (k:Int)).toArray⟩:ByteArray)=da at *;go_enter Tryz.func39,Tryz.ntmps39;go_wp2_with fail;refine KD.out.mono ?_;rintro e w1 ⟨rfl,rfl⟩;clear KD;go_wp2;refine wp_region_X (fun w'=>Bk w' (w.heap.size+1) 35 [.string sKind,.int .i64 (k:Int),.int .i64 b,.slice A 0 c]) 7 (n:=7) rfl (by kernel_rfl) (B1.out.drew) (fun hS=>?_);refine tU 1 (some 18) (v:=?_) rfl ⟨rfl,?_⟩ hS ?_;rotate_left
 ·intro w' hS';(go_simp;try with_reducible rfl)
 refine tU 2 (some 19) (v:=?_) rfl ⟨rfl,?_⟩ hS ?_;rotate_left
 ·intro w' hS';have e0:=hS'.k0;have e1:=hS'.k1;have e2:=hS'.k2;have e3:=hS'.k3;have el:=hS'.lt;(go_simp;try with_reducible rfl)
 refine X_o 0 rfl fun K hK=>?_;go_simp;have K1:=iH (rkinds_any ((w.alloc (.cells #[.slice m.si.A m.si.n m.si.c,.slice m.sr.A m.sr.n m.sr.c,.slice m.st.A m.st.n m.st.c,.slice m.sx.A m.sx.n m.sx.c] 28)).alloc (.cells #[.string sKind,.int .i64 (k:Int),.int .i64 b,.slice A 0 c] 35)).drew);(with_reducible refine K1.out.mono ?_);rintro e w2 ⟨A2,n2,c2,rfl,hnm,hb⟩;have hd:=(Below.refl ((w.alloc (.cells #[.slice m.si.A m.si.n m.si.c,.slice m.sr.A m.sr.n m.sr.c,.slice m.st.A m.st.n m.st.c,.slice m.sx.A m.sx.n m.sx.c] 28)).alloc (.cells #[.string sKind,.int .i64 (k:Int),.int .i64 b,.slice A 0 c] 35)).heap.size ((w.alloc (.cells #[.slice m.si.A m.si.n m.si.c,.slice m.sr.A m.sr.n m.sr.c,.slice m.st.A m.st.n m.st.c,.slice m.sx.A m.sx.n m.sx.c] 28)).alloc (.cells #[.string sKind,.int .i64 (k:Int),.int .i64 b,.slice A 0 c] 35))).drew.trans hb;have Y2:=iH (Y.out.trans (hd.mono Y.out.size));have B12:=iH (B1.out.below hd B1.out.lt);obtain⟨bb,off,rfl,hbb,hc0⟩:=hnm.at_ k hk;have hl2:=hnm.len;have hkn:(k:Int)<n2:=by rw[hl2];show(k:Int)<(11:Nat);omega
 have hkm:(n2:Int)<=100:=by rw[hl2];decide
 have HNM:=iH hc0;clear hc0;generalize kindNs[k]=nm at *;refine hK _ _ B12.out ?_;clear hK K1 hb hd hnm hl2;refine X_o 3 rfl fun K hK=>?_;go_simp;refine hK _ _ B12.out ?_;clear hK;refine X_o 4 rfl fun K hK=>?_;have hc:=HNM.out;go_simp;refine hK _ _ B12.out ?_;clear hK hc;refine X_o 5 rfl fun K hK=>?_;have hcat:¬ 9223372036854775807<5+nm.size:=by omega
 go_simp;refine hK _ _ B12.out ?_;clear hK;refine X_o 6 rfl fun K hK=>?_;go_simp;refine hK _ _ B12.out ?_;clear hK;refine X_done (by kernel_rfl) ?_;clear hS;go_wp2;go_ret;exact⟨by rw[HR.out];rfl,Y2.out⟩
set_option linter.unusedSimpArgs false in
theorem rtext_Actor {w:World} {m:CatM} (hi:ItsV w m.si m.items) (hr:RulesV w m.sr m.rules) (a b:Int) (ha:In64 a) (hb0:In64 b) (A:Option Addr) (c:Nat) :
 Calls Tryz.prog 39 #[.agg #[.slice m.si.A m.si.n m.si.c,.slice m.sr.A m.sr.n m.sr.c,.slice m.st.A m.st.n m.st.c,.slice m.sx.A m.sx.n m.sx.c],.agg #[.string sActor,.int .i64 a,.int .i64 b,.slice A 0 c]] w fun e w'=>e=.returned (.string ⟨(condT (m.rules.map RuM.name) (m.items.map It.name) sActor a b).toArray⟩)∧Below w.heap.size w w':=by
 have y:Below w.heap.size w ((w.alloc (.cells #[.slice m.si.A m.si.n m.si.c,.slice m.sr.A m.sr.n m.sr.c,.slice m.st.A m.st.n m.st.c,.slice m.sx.A m.sx.n m.sx.c] 28)).alloc (.cells #[.string sActor,.int .i64 a,.int .i64 b,.slice A 0 c] 35)):=((Below.refl _ _).alloc (Nat.le_refl _) _).alloc (by simp) _;have Y:=iH y;have B0:=iH ((Bk.new w 28 [.slice m.si.A m.si.n m.si.c,.slice m.sr.A m.sr.n m.sr.c,.slice m.st.A m.st.n m.st.c,.slice m.sx.A m.sx.n m.sx.c]).alloc (.cells #[.string sActor,.int .i64 a,.int .i64 b,.slice A 0 c] 35));have B1:Hid (Bk ((w.alloc (.cells #[.slice m.si.A m.si.n m.si.c,.slice m.sr.A m.sr.n m.sr.c,.slice m.st.A m.st.n m.st.c,.slice m.sx.A m.sx.n m.sx.c] 28)).alloc (.cells #[.string sActor,.int .i64 a,.int .i64 b,.slice A 0 c] 35)) (w.heap.size+1) 35 [.string sActor,.int .i64 a,.int .i64 b,.slice A 0 c]):=by
  have:=Bk.new (w.alloc (.cells #[.slice m.si.A m.si.n m.si.c,.slice m.sr.A m.sr.n m.sr.c,.slice m.st.A m.st.n m.st.c,.slice m.sx.A m.sx.n m.sx.c] 28)) 35 [.string sActor,.int .i64 a,.int .i64 b,.slice A 0 c];rw[World.size_alloc]at this;exact iH this
 have qKind:(sActor.toList == [107,105,110,100])=false:=by rw[<- lKind',eqL];decide
 have qActor:(sActor.toList == [97,99,116,111,114])=true:=by rw[<- lActor',eqL];decide
 have qRule:(sActor.toList == [114,117,108,101])=false:=by rw[<- lRule',eqL];decide
 have qTick:(sActor.toList == [116,105,99,107])=false:=by rw[<- lTick',eqL];decide
 have qItem:(sActor.toList == [105,116,101,109])=false:=by rw[<- lItem',eqL];decide
 have qMore:(sActor.toList == [109,111,114,101])=false:=by rw[<- lMore',eqL];decide
 have qStep:(sActor.toList == [115,116,101,112])=false:=by rw[<- lStep',eqL];decide
 have qAccount:(sActor.toList == [97,99,99,111,117,110,116])=false:=by rw[<- lAccount',eqL];decide
 have KD:=iH (decimal_any a ha ((w.alloc (.cells #[.slice m.si.A m.si.n m.si.c,.slice m.sr.A m.sr.n m.sr.c,.slice m.st.A m.st.n m.st.c,.slice m.sx.A m.sx.n m.sx.c] 28)).alloc (.cells #[.string sActor,.int .i64 a,.int .i64 b,.slice A 0 c] 35)));have dsz:(⟨(Lib.itoa a).toArray⟩:ByteArray).size<=21:=by
  have:=Lib.itoa_length_le a ha.1 ha.2;show(Lib.itoa a).toArray.size<=21;simpa using this
 have HR:Hid (((sActor ++ ⟨#[32]⟩) ++ ⟨(Lib.itoa a).toArray⟩:ByteArray)=⟨(condT (m.rules.map RuM.name) (m.items.map It.name) sActor a b).toArray⟩):=iH (bytes_of (by
  simp only[condT,isTwo,(by decide:(sActor=sKind)=False),(by decide:(sActor=sRule)=False),(by decide:(sActor=sTick)=False),(by decide:(sActor=sItem)=False),(by decide:(sActor=sMore)=False),(by decide:(sActor=sStep)=False),(by decide:(sActor=sAccount)=False),if_false,decide_false,Bool.or_self,Bool.false_eq_true]
  simp[ByteArray.data_append]))
 have hop:sActor.size<=10:=by decide
 clear y hi hr;generalize(⟨(condT (m.rules.map RuM.name) (m.items.map It.name) sActor a b).toArray⟩:ByteArray)=res at *;generalize(⟨(Lib.itoa a).toArray⟩:ByteArray)=da at *;go_enter Tryz.func39,Tryz.ntmps39;go_wp2_with fail;refine KD.out.mono ?_;rintro e w1 ⟨rfl,rfl⟩;clear KD;go_wp2;go_ret;exact⟨by rw[HR.out];rfl,Y.out⟩
set_option linter.unusedSimpArgs false in
theorem rtext_Rule {w:World} {m:CatM} (hi:ItsV w m.si m.items) (hr:RulesV w m.sr m.rules) (k:Nat) (hk:k<m.rules.length) (b:Int) (A:Option Addr) (c:Nat) :
 Calls Tryz.prog 39 #[.agg #[.slice m.si.A m.si.n m.si.c,.slice m.sr.A m.sr.n m.sr.c,.slice m.st.A m.st.n m.st.c,.slice m.sx.A m.sx.n m.sx.c],.agg #[.string sRule,.int .i64 (k:Int),.int .i64 b,.slice A 0 c]] w fun e w'=>e=.returned (.string ⟨(condT (m.rules.map RuM.name) (m.items.map It.name) sRule (k:Int) b).toArray⟩)∧Below w.heap.size w w':=by
 obtain⟨its,rus,tbs,txs,si,sr,st,sx⟩:=m;obtain⟨As,ns,cs⟩:=sr;dsimp only at *;obtain⟨bb,off,hA,hbb,hc0,-⟩:=hr.at_ k hk;have hkn:(k:Int)<ns:=by have:=hr.len;dsimp only at this;omega
 have hkm:(ns:Int)<=100000:=by have:=hr.small;dsimp only at this;omega
 have hsz:rus[k].name.size<=8192:=(hr.each _ (List.getElem_mem hk)).name;dsimp only at hA;subst hA;have y:Below w.heap.size w ((w.alloc (.cells #[.slice si.A si.n si.c,.slice (some ⟨bb,off,none⟩) ns cs,.slice st.A st.n st.c,.slice sx.A sx.n sx.c] 28)).alloc (.cells #[.string sRule,.int .i64 (k:Int),.int .i64 b,.slice A 0 c] 35)):=((Below.refl _ _).alloc (Nat.le_refl _) _).alloc (by simp) _;have Y:=iH y;have B0:=iH ((Bk.new w 28 [.slice si.A si.n si.c,.slice (some ⟨bb,off,none⟩) ns cs,.slice st.A st.n st.c,.slice sx.A sx.n sx.c]).alloc (.cells #[.string sRule,.int .i64 (k:Int),.int .i64 b,.slice A 0 c] 35));have B1:Hid (Bk ((w.alloc (.cells #[.slice si.A si.n si.c,.slice (some ⟨bb,off,none⟩) ns cs,.slice st.A st.n st.c,.slice sx.A sx.n sx.c] 28)).alloc (.cells #[.string sRule,.int .i64 (k:Int),.int .i64 b,.slice A 0 c] 35)) (w.heap.size+1) 35 [.string sRule,.int .i64 (k:Int),.int .i64 b,.slice A 0 c]):=by
  have:=Bk.new (w.alloc (.cells #[.slice si.A si.n si.c,.slice (some ⟨bb,off,none⟩) ns cs,.slice st.A st.n st.c,.slice sx.A sx.n sx.c] 28)) 35 [.string sRule,.int .i64 (k:Int),.int .i64 b,.slice A 0 c];rw[World.size_alloc]at this;exact iH this
 have qKind:(sRule.toList == [107,105,110,100])=false:=by rw[<- lKind',eqL];decide
 have qActor:(sRule.toList == [97,99,116,111,114])=false:=by rw[<- lActor',eqL];decide
 have qRule:(sRule.toList == [114,117,108,101])=true:=by rw[<- lRule',eqL];decide
 have qTick:(sRule.toList == [116,105,99,107])=false:=by rw[<- lTick',eqL];decide
 have qItem:(sRule.toList == [105,116,101,109])=false:=by rw[<- lItem',eqL];decide
 have qMore:(sRule.toList == [109,111,114,101])=false:=by rw[<- lMore',eqL];decide
 have qStep:(sRule.toList == [115,116,101,112])=false:=by rw[<- lStep',eqL];decide
 have qAccount:(sRule.toList == [97,99,99,111,117,110,116])=false:=by rw[<- lAccount',eqL];decide
 have KD:=iH (decimal_any (k:Int) ⟨by omega,by omega⟩ ((w.alloc (.cells #[.slice si.A si.n si.c,.slice (some ⟨bb,off,none⟩) ns cs,.slice st.A st.n st.c,.slice sx.A sx.n sx.c] 28)).alloc (.cells #[.string sRule,.int .i64 (k:Int),.int .i64 b,.slice A 0 c] 35)));have dsz:(⟨(Lib.itoa (k:Int)).toArray⟩:ByteArray).size<=21:=by
  have:=Lib.itoa_length_le (k:Int) (by omega) (by omega);show(Lib.itoa (k:Int)).toArray.size<=21;simpa using this
 have hcn:((w.alloc (.cells #[.slice si.A si.n si.c,.slice (some ⟨bb,off,none⟩) ns cs,.slice st.A st.n st.c,.slice sx.A sx.n sx.c] 28)).alloc (.cells #[.string sRule,.int .i64 (k:Int),.int .i64 b,.slice A 0 c] 35)).cell? ⟨bb,off+k*9,none⟩=some (.string rus[k].name):=(y.cell (p:=⟨bb,off+k*9,none⟩) hbb).trans hc0;have hbl:bb<((w.alloc (.cells #[.slice si.A si.n si.c,.slice (some ⟨bb,off,none⟩) ns cs,.slice st.A st.n st.c,.slice sx.A sx.n sx.c] 28)).alloc (.cells #[.string sRule,.int .i64 (k:Int),.int .i64 b,.slice A 0 c] 35)).heap.size:=Nat.lt_of_lt_of_le hbb y.size;have hnm:nmAt (rus.map RuM.name) (k:Int)=rus[k].name:=by rw[nmAt_get (by simpa using hk),List.getElem_map]
 have HR:Hid (((⟨#[114,117,108,101,32]⟩:ByteArray) ++ rus[k].name:ByteArray)=⟨(condT (rus.map RuM.name) (its.map It.name) sRule (k:Int) b).toArray⟩):=iH (bytes_of (by
  simp only[condT,(by decide:(sRule=sKind)=False),(by decide:(sRule=sActor)=False),(by decide:(sRule=sTick)=False),(by decide:(sRule=sItem)=False),(by decide:(sRule=sMore)=False),(by decide:(sRule=sStep)=False),(by decide:(sRule=sAccount)=False),if_true,if_false,hnm]
  rw[ByteArray.data_append,Array.toList_append];rfl))
 clear y hnm hc0 hbb hi hr;generalize rus[k].name=nm at *;generalize(⟨(condT (rus.map RuM.name) (its.map It.name) sRule (k:Int) b).toArray⟩:ByteArray)=res at *;generalize(⟨(Lib.itoa (k:Int)).toArray⟩:ByteArray)=da at *;clear hk;go_enter Tryz.func39,Tryz.ntmps39;go_wp2_with fail;refine KD.out.mono ?_;rintro e w1 ⟨rfl,rfl⟩;clear KD;go_wp2;go_ret;exact⟨by rw[HR.out];rfl,Y.out⟩
set_option linter.unusedSimpArgs false in
theorem rtext_Tick {w:World} {m:CatM} (hi:ItsV w m.si m.items) (hr:RulesV w m.sr m.rules) (a b:Int) (ha:In64 a) (hb0:In64 b) (A:Option Addr) (c:Nat) :
 Calls Tryz.prog 39 #[.agg #[.slice m.si.A m.si.n m.si.c,.slice m.sr.A m.sr.n m.sr.c,.slice m.st.A m.st.n m.st.c,.slice m.sx.A m.sx.n m.sx.c],.agg #[.string sTick,.int .i64 a,.int .i64 b,.slice A 0 c]] w fun e w'=>e=.returned (.string ⟨(condT (m.rules.map RuM.name) (m.items.map It.name) sTick a b).toArray⟩)∧Below w.heap.size w w':=by
 have y:Below w.heap.size w ((w.alloc (.cells #[.slice m.si.A m.si.n m.si.c,.slice m.sr.A m.sr.n m.sr.c,.slice m.st.A m.st.n m.st.c,.slice m.sx.A m.sx.n m.sx.c] 28)).alloc (.cells #[.string sTick,.int .i64 a,.int .i64 b,.slice A 0 c] 35)):=((Below.refl _ _).alloc (Nat.le_refl _) _).alloc (by simp) _;have Y:=iH y;have B0:=iH ((Bk.new w 28 [.slice m.si.A m.si.n m.si.c,.slice m.sr.A m.sr.n m.sr.c,.slice m.st.A m.st.n m.st.c,.slice m.sx.A m.sx.n m.sx.c]).alloc (.cells #[.string sTick,.int .i64 a,.int .i64 b,.slice A 0 c] 35));have B1:Hid (Bk ((w.alloc (.cells #[.slice m.si.A m.si.n m.si.c,.slice m.sr.A m.sr.n m.sr.c,.slice m.st.A m.st.n m.st.c,.slice m.sx.A m.sx.n m.sx.c] 28)).alloc (.cells #[.string sTick,.int .i64 a,.int .i64 b,.slice A 0 c] 35)) (w.heap.size+1) 35 [.string sTick,.int .i64 a,.int .i64 b,.slice A 0 c]):=by
  have:=Bk.new (w.alloc (.cells #[.slice m.si.A m.si.n m.si.c,.slice m.sr.A m.sr.n m.sr.c,.slice m.st.A m.st.n m.st.c,.slice m.sx.A m.sx.n m.sx.c] 28)) 35 [.string sTick,.int .i64 a,.int .i64 b,.slice A 0 c];rw[World.size_alloc]at this;exact iH this
 have qKind:(sTick.toList == [107,105,110,100])=false:=by rw[<- lKind',eqL];decide
 have qActor:(sTick.toList == [97,99,116,111,114])=false:=by rw[<- lActor',eqL];decide
 have qRule:(sTick.toList == [114,117,108,101])=false:=by rw[<- lRule',eqL];decide
 have qTick:(sTick.toList == [116,105,99,107])=true:=by rw[<- lTick',eqL];decide
 have qItem:(sTick.toList == [105,116,101,109])=false:=by rw[<- lItem',eqL];decide
 have qMore:(sTick.toList == [109,111,114,101])=false:=by rw[<- lMore',eqL];decide
 have qStep:(sTick.toList == [115,116,101,112])=false:=by rw[<- lStep',eqL];decide
 have qAccount:(sTick.toList == [97,99,99,111,117,110,116])=false:=by rw[<- lAccount',eqL];decide
 have KD:=iH (decimal_any a ha ((w.alloc (.cells #[.slice m.si.A m.si.n m.si.c,.slice m.sr.A m.sr.n m.sr.c,.slice m.st.A m.st.n m.st.c,.slice m.sx.A m.sx.n m.sx.c] 28)).alloc (.cells #[.string sTick,.int .i64 a,.int .i64 b,.slice A 0 c] 35)));have dsz:(⟨(Lib.itoa a).toArray⟩:ByteArray).size<=21:=by
  have:=Lib.itoa_length_le a ha.1 ha.2;show(Lib.itoa a).toArray.size<=21;simpa using this
 have HR:Hid (((((sTick ++ ⟨#[32]⟩) ++ ⟨(Lib.itoa a).toArray⟩) ++ ⟨#[46,46]⟩) ++ ⟨(Lib.itoa b).toArray⟩:ByteArray)=⟨(condT (m.rules.map RuM.name) (m.items.map It.name) sTick a b).toArray⟩):=iH (bytes_of (by
  simp only[condT,isTwo,(by decide:(sTick=sKind)=False),(by decide:(sTick=sActor)=False),(by decide:(sTick=sRule)=False),(by decide:(sTick=sItem)=False),(by decide:(sTick=sMore)=False),(by decide:(sTick=sStep)=False),(by decide:(sTick=sAccount)=False),if_false,decide_false,decide_true,Bool.or_true,Bool.true_or,if_true]
  simp[ByteArray.data_append]))
 have hop:sTick.size<=10:=by decide
 have KE:=iH (decimal_any b hb0 ((w.alloc (.cells #[.slice m.si.A m.si.n m.si.c,.slice m.sr.A m.sr.n m.sr.c,.slice m.st.A m.st.n m.st.c,.slice m.sx.A m.sx.n m.sx.c] 28)).alloc (.cells #[.string sTick,.int .i64 a,.int .i64 b,.slice A 0 c] 35)).drew);have esz:(⟨(Lib.itoa b).toArray⟩:ByteArray).size<=21:=by
  have:=Lib.itoa_length_le b hb0.1 hb0.2;show(Lib.itoa b).toArray.size<=21;simpa using this
 clear y hi hr;generalize(⟨(condT (m.rules.map RuM.name) (m.items.map It.name) sTick a b).toArray⟩:ByteArray)=res at *;generalize(⟨(Lib.itoa a).toArray⟩:ByteArray)=da at *;generalize(⟨(Lib.itoa b).toArray⟩:ByteArray)=db at *;go_enter Tryz.func39,Tryz.ntmps39;go_wp2_with fail;refine KD.out.mono ?_;rintro e w1 ⟨rfl,rfl⟩;clear KD;go_wp2;refine wp_region_X (fun w'=>Bk w' (w.heap.size+1) 35 [.string sTick,.int .i64 a,.int .i64 b,.slice A 0 c]) 11 (n:=11) rfl (by kernel_rfl) (B1.out.drew) (fun hS=>?_);refine tU 0 (some 59) (v:=?_) rfl ⟨rfl,?_⟩ hS ?_;rotate_left
 ·intro w' hS';(go_simp;try with_reducible rfl)
 refine tU 1 (some 60) (v:=?_) rfl ⟨rfl,?_⟩ hS ?_;rotate_left
 ·intro w' hS';have e0:=hS'.k0;have e1:=hS'.k1;have e2:=hS'.k2;have e3:=hS'.k3;have el:=hS'.lt;(go_simp;try with_reducible rfl)
 refine tU 2 (some 61) (v:=?_) rfl ⟨rfl,?_⟩ hS ?_;rotate_left
 ·intro w' hS';have hc:¬ 9223372036854775807<sTick.size+1:=by omega
  (go_simp;try with_reducible rfl)
 refine tU 3 (some 62) (v:=?_) rfl ⟨rfl,?_⟩ hS ?_;rotate_left
 ·intro w' hS';(go_simp;try with_reducible rfl)
 refine tU 4 (some 63) (v:=?_) rfl ⟨rfl,?_⟩ hS ?_;rotate_left
 ·intro w' hS';have hc:¬ 9223372036854775807<sTick.size+1+da.size:=by omega
  (go_simp;try with_reducible rfl)
 refine tU 5 (some 64) (v:=?_) rfl ⟨rfl,?_⟩ hS ?_;rotate_left
 ·intro w' hS';have hc:¬ 9223372036854775807<sTick.size+1+da.size+2:=by omega
  (go_simp;try with_reducible rfl)
 refine tU 6 (some 65) (v:=?_) rfl ⟨rfl,?_⟩ hS ?_;rotate_left
 ·intro w' hS';(go_simp;try with_reducible rfl)
 refine tU 7 (some 66) (v:=?_) rfl ⟨rfl,?_⟩ hS ?_;rotate_left
 ·intro w' hS';have e0:=hS'.k0;have e1:=hS'.k1;have e2:=hS'.k2;have e3:=hS'.k3;have el:=hS'.lt;(go_simp;try with_reducible rfl)
 refine X_o 8 rfl fun K hK=>?_;go_simp;(with_reducible refine KE.out.mono ?_);rintro e w2 ⟨rfl,rfl⟩;refine hK _ _ B1.out.drew ?_;clear hK;refine X_o 9 rfl fun K hK=>?_;have hc:¬ 9223372036854775807<sTick.size+1+da.size+2+db.size:=by omega
 go_simp;refine hK _ _ B1.out.drew ?_;clear hK;clear hc;refine X_o 10 rfl fun K hK=>?_;go_simp;refine hK _ _ B1.out.drew ?_;clear hK;refine X_done (by kernel_rfl) ?_;clear hS KE;go_wp2;go_ret;exact⟨by rw[HR.out];rfl,Y.out.drew⟩
set_option linter.unusedSimpArgs false in
theorem rtext_Item {w:World} {m:CatM} (hi:ItsV w m.si m.items) (hr:RulesV w m.sr m.rules) (k:Nat) (hk:k<m.items.length) (b:Int) (A:Option Addr) (c:Nat) :
 Calls Tryz.prog 39 #[.agg #[.slice m.si.A m.si.n m.si.c,.slice m.sr.A m.sr.n m.sr.c,.slice m.st.A m.st.n m.st.c,.slice m.sx.A m.sx.n m.sx.c],.agg #[.string sItem,.int .i64 (k:Int),.int .i64 b,.slice A 0 c]] w fun e w'=>e=.returned (.string ⟨(condT (m.rules.map RuM.name) (m.items.map It.name) sItem (k:Int) b).toArray⟩)∧Below w.heap.size w w':=by
 obtain⟨its,rus,tbs,txs,si,sr,st,sx⟩:=m;obtain⟨As,ns,cs⟩:=si;dsimp only at *;obtain⟨bb,off,hA,hbb,hc0,-⟩:=hi.at_ k hk;have hkn:(k:Int)<ns:=by have:=hi.len;dsimp only at this;omega
 have hkm:(ns:Int)<=100000:=by have:=hi.small;dsimp only at this;omega
 have hsz:its[k].name.size<=8192:=hi.each _ (List.getElem_mem hk);dsimp only at hA;subst hA;have y:Below w.heap.size w ((w.alloc (.cells #[.slice (some ⟨bb,off,none⟩) ns cs,.slice sr.A sr.n sr.c,.slice st.A st.n st.c,.slice sx.A sx.n sx.c] 28)).alloc (.cells #[.string sItem,.int .i64 (k:Int),.int .i64 b,.slice A 0 c] 35)):=((Below.refl _ _).alloc (Nat.le_refl _) _).alloc (by simp) _;have Y:=iH y;have B0:=iH ((Bk.new w 28 [.slice (some ⟨bb,off,none⟩) ns cs,.slice sr.A sr.n sr.c,.slice st.A st.n st.c,.slice sx.A sx.n sx.c]).alloc (.cells #[.string sItem,.int .i64 (k:Int),.int .i64 b,.slice A 0 c] 35));have B1:Hid (Bk ((w.alloc (.cells #[.slice (some ⟨bb,off,none⟩) ns cs,.slice sr.A sr.n sr.c,.slice st.A st.n st.c,.slice sx.A sx.n sx.c] 28)).alloc (.cells #[.string sItem,.int .i64 (k:Int),.int .i64 b,.slice A 0 c] 35)) (w.heap.size+1) 35 [.string sItem,.int .i64 (k:Int),.int .i64 b,.slice A 0 c]):=by
  have:=Bk.new (w.alloc (.cells #[.slice (some ⟨bb,off,none⟩) ns cs,.slice sr.A sr.n sr.c,.slice st.A st.n st.c,.slice sx.A sx.n sx.c] 28)) 35 [.string sItem,.int .i64 (k:Int),.int .i64 b,.slice A 0 c];rw[World.size_alloc]at this;exact iH this
 have qKind:(sItem.toList == [107,105,110,100])=false:=by rw[<- lKind',eqL];decide
 have qActor:(sItem.toList == [97,99,116,111,114])=false:=by rw[<- lActor',eqL];decide
 have qRule:(sItem.toList == [114,117,108,101])=false:=by rw[<- lRule',eqL];decide
 have qTick:(sItem.toList == [116,105,99,107])=false:=by rw[<- lTick',eqL];decide
 have qItem:(sItem.toList == [105,116,101,109])=true:=by rw[<- lItem',eqL];decide
 have qMore:(sItem.toList == [109,111,114,101])=false:=by rw[<- lMore',eqL];decide
 have qStep:(sItem.toList == [115,116,101,112])=false:=by rw[<- lStep',eqL];decide
 have qAccount:(sItem.toList == [97,99,99,111,117,110,116])=false:=by rw[<- lAccount',eqL];decide
 have KD:=iH (decimal_any (k:Int) ⟨by omega,by omega⟩ ((w.alloc (.cells #[.slice (some ⟨bb,off,none⟩) ns cs,.slice sr.A sr.n sr.c,.slice st.A st.n st.c,.slice sx.A sx.n sx.c] 28)).alloc (.cells #[.string sItem,.int .i64 (k:Int),.int .i64 b,.slice A 0 c] 35)));have dsz:(⟨(Lib.itoa (k:Int)).toArray⟩:ByteArray).size<=21:=by
  have:=Lib.itoa_length_le (k:Int) (by omega) (by omega);show(Lib.itoa (k:Int)).toArray.size<=21;simpa using this
 have hcn:((w.alloc (.cells #[.slice (some ⟨bb,off,none⟩) ns cs,.slice sr.A sr.n sr.c,.slice st.A st.n st.c,.slice sx.A sx.n sx.c] 28)).alloc (.cells #[.string sItem,.int .i64 (k:Int),.int .i64 b,.slice A 0 c] 35)).cell? ⟨bb,off+k*7,none⟩=some (.string its[k].name):=(y.cell (p:=⟨bb,off+k*7,none⟩) hbb).trans hc0;have hbl:bb<((w.alloc (.cells #[.slice (some ⟨bb,off,none⟩) ns cs,.slice sr.A sr.n sr.c,.slice st.A st.n st.c,.slice sx.A sx.n sx.c] 28)).alloc (.cells #[.string sItem,.int .i64 (k:Int),.int .i64 b,.slice A 0 c] 35)).heap.size:=Nat.lt_of_lt_of_le hbb y.size;have hnm:nmAt (its.map It.name) (k:Int)=its[k].name:=by rw[nmAt_get (by simpa using hk),List.getElem_map]
 have HR:Hid (((⟨#[105,116,101,109,32]⟩:ByteArray) ++ its[k].name:ByteArray)=⟨(condT (rus.map RuM.name) (its.map It.name) sItem (k:Int) b).toArray⟩):=iH (bytes_of (by
  simp only[condT,(by decide:(sItem=sKind)=False),(by decide:(sItem=sActor)=False),(by decide:(sItem=sRule)=False),(by decide:(sItem=sTick)=False),(by decide:(sItem=sMore)=False),(by decide:(sItem=sStep)=False),(by decide:(sItem=sAccount)=False),if_true,if_false,hnm]
  rw[ByteArray.data_append,Array.toList_append];rfl))
 clear y hnm hc0 hbb hi hr;generalize its[k].name=nm at *;generalize(⟨(condT (rus.map RuM.name) (its.map It.name) sItem (k:Int) b).toArray⟩:ByteArray)=res at *;generalize(⟨(Lib.itoa (k:Int)).toArray⟩:ByteArray)=da at *;clear hk;go_enter Tryz.func39,Tryz.ntmps39;go_wp2_with fail;refine KD.out.mono ?_;rintro e w1 ⟨rfl,rfl⟩;clear KD;go_wp2;go_ret;exact⟨by rw[HR.out];rfl,Y.out⟩
set_option linter.unusedSimpArgs false in
theorem rtext_More {w:World} {m:CatM} (hi:ItsV w m.si m.items) (hr:RulesV w m.sr m.rules) (k:Nat) (hk:k<m.items.length) (a:Int) (ha:In64 a) (A:Option Addr) (c:Nat) :
 Calls Tryz.prog 39 #[.agg #[.slice m.si.A m.si.n m.si.c,.slice m.sr.A m.sr.n m.sr.c,.slice m.st.A m.st.n m.st.c,.slice m.sx.A m.sx.n m.sx.c],.agg #[.string sMore,.int .i64 a,.int .i64 (k:Int),.slice A 0 c]] w fun e w'=>e=.returned (.string ⟨(condT (m.rules.map RuM.name) (m.items.map It.name) sMore a (k:Int)).toArray⟩)∧Below w.heap.size w w':=by
 obtain⟨its,rus,tbs,txs,si,sr,st,sx⟩:=m;obtain⟨As,ns,cs⟩:=si;dsimp only at *;obtain⟨bb,off,hA,hbb,hc0,-⟩:=hi.at_ k hk;have hkn:(k:Int)<ns:=by have:=hi.len;dsimp only at this;omega
 have hkm:(ns:Int)<=100000:=by have:=hi.small;dsimp only at this;omega
 have hsz:its[k].name.size<=8192:=hi.each _ (List.getElem_mem hk);dsimp only at hA;subst hA;have y:Below w.heap.size w ((w.alloc (.cells #[.slice (some ⟨bb,off,none⟩) ns cs,.slice sr.A sr.n sr.c,.slice st.A st.n st.c,.slice sx.A sx.n sx.c] 28)).alloc (.cells #[.string sMore,.int .i64 a,.int .i64 (k:Int),.slice A 0 c] 35)):=((Below.refl _ _).alloc (Nat.le_refl _) _).alloc (by simp) _;have Y:=iH y;have B0:=iH ((Bk.new w 28 [.slice (some ⟨bb,off,none⟩) ns cs,.slice sr.A sr.n sr.c,.slice st.A st.n st.c,.slice sx.A sx.n sx.c]).alloc (.cells #[.string sMore,.int .i64 a,.int .i64 (k:Int),.slice A 0 c] 35));have B1:Hid (Bk ((w.alloc (.cells #[.slice (some ⟨bb,off,none⟩) ns cs,.slice sr.A sr.n sr.c,.slice st.A st.n st.c,.slice sx.A sx.n sx.c] 28)).alloc (.cells #[.string sMore,.int .i64 a,.int .i64 (k:Int),.slice A 0 c] 35)) (w.heap.size+1) 35 [.string sMore,.int .i64 a,.int .i64 (k:Int),.slice A 0 c]):=by
  have:=Bk.new (w.alloc (.cells #[.slice (some ⟨bb,off,none⟩) ns cs,.slice sr.A sr.n sr.c,.slice st.A st.n st.c,.slice sx.A sx.n sx.c] 28)) 35 [.string sMore,.int .i64 a,.int .i64 (k:Int),.slice A 0 c];rw[World.size_alloc]at this;exact iH this
 have qKind:(sMore.toList == [107,105,110,100])=false:=by rw[<- lKind',eqL];decide
 have qActor:(sMore.toList == [97,99,116,111,114])=false:=by rw[<- lActor',eqL];decide
 have qRule:(sMore.toList == [114,117,108,101])=false:=by rw[<- lRule',eqL];decide
 have qTick:(sMore.toList == [116,105,99,107])=false:=by rw[<- lTick',eqL];decide
 have qItem:(sMore.toList == [105,116,101,109])=false:=by rw[<- lItem',eqL];decide
 have qMore:(sMore.toList == [109,111,114,101])=true:=by rw[<- lMore',eqL];decide
 have qStep:(sMore.toList == [115,116,101,112])=false:=by rw[<- lStep',eqL];decide
 have qAccount:(sMore.toList == [97,99,99,111,117,110,116])=false:=by rw[<- lAccount',eqL];decide
 have KD:=iH (decimal_any a ha ((w.alloc (.cells #[.slice (some ⟨bb,off,none⟩) ns cs,.slice sr.A sr.n sr.c,.slice st.A st.n st.c,.slice sx.A sx.n sx.c] 28)).alloc (.cells #[.string sMore,.int .i64 a,.int .i64 (k:Int),.slice A 0 c] 35)));have dsz:(⟨(Lib.itoa a).toArray⟩:ByteArray).size<=21:=by
  have:=Lib.itoa_length_le a ha.1 ha.2;show(Lib.itoa a).toArray.size<=21;simpa using this
 have hcn:((w.alloc (.cells #[.slice (some ⟨bb,off,none⟩) ns cs,.slice sr.A sr.n sr.c,.slice st.A st.n st.c,.slice sx.A sx.n sx.c] 28)).alloc (.cells #[.string sMore,.int .i64 a,.int .i64 (k:Int),.slice A 0 c] 35)).cell? ⟨bb,off+k*7,none⟩=some (.string its[k].name):=(y.cell (p:=⟨bb,off+k*7,none⟩) hbb).trans hc0;have hbl:bb<((w.alloc (.cells #[.slice (some ⟨bb,off,none⟩) ns cs,.slice sr.A sr.n sr.c,.slice st.A st.n st.c,.slice sx.A sx.n sx.c] 28)).alloc (.cells #[.string sMore,.int .i64 a,.int .i64 (k:Int),.slice A 0 c] 35)).heap.size:=Nat.lt_of_lt_of_le hbb y.size;have hnm:nmAt (its.map It.name) (k:Int)=its[k].name:=by rw[nmAt_get (by simpa using hk),List.getElem_map]
 have HR:Hid (((((⟨#[109,111,114,101,32]⟩:ByteArray) ++ ⟨(Lib.itoa a).toArray⟩) ++ ⟨#[32]⟩) ++ its[k].name:ByteArray)=⟨(condT (rus.map RuM.name) (its.map It.name) sMore a (k:Int)).toArray⟩):=iH (bytes_of (by
  simp only[condT,(by decide:(sMore=sKind)=False),(by decide:(sMore=sActor)=False),(by decide:(sMore=sRule)=False),(by decide:(sMore=sTick)=False),(by decide:(sMore=sItem)=False),(by decide:(sMore=sStep)=False),(by decide:(sMore=sAccount)=False),if_true,if_false,hnm]
  simp[ByteArray.data_append,sMore]))
 clear y hnm hc0 hbb hi hr;generalize its[k].name=nm at *;generalize(⟨(condT (rus.map RuM.name) (its.map It.name) sMore a (k:Int)).toArray⟩:ByteArray)=res at *;generalize(⟨(Lib.itoa a).toArray⟩:ByteArray)=da at *;clear hk;go_enter Tryz.func39,Tryz.ntmps39;go_wp2_with fail;refine KD.out.mono ?_;rintro e w1 ⟨rfl,rfl⟩;clear KD;go_wp2;go_ret;exact⟨by rw[HR.out];rfl,Y.out⟩
set_option linter.unusedSimpArgs false in
theorem rtext_Step {w:World} {m:CatM} (hi:ItsV w m.si m.items) (hr:RulesV w m.sr m.rules) (a b:Int) (ha:In64 a) (hb0:In64 b) (A:Option Addr) (c:Nat) :
 Calls Tryz.prog 39 #[.agg #[.slice m.si.A m.si.n m.si.c,.slice m.sr.A m.sr.n m.sr.c,.slice m.st.A m.st.n m.st.c,.slice m.sx.A m.sx.n m.sx.c],.agg #[.string sStep,.int .i64 a,.int .i64 b,.slice A 0 c]] w fun e w'=>e=.returned (.string ⟨(condT (m.rules.map RuM.name) (m.items.map It.name) sStep a b).toArray⟩)∧Below w.heap.size w w':=by
 have y:Below w.heap.size w ((w.alloc (.cells #[.slice m.si.A m.si.n m.si.c,.slice m.sr.A m.sr.n m.sr.c,.slice m.st.A m.st.n m.st.c,.slice m.sx.A m.sx.n m.sx.c] 28)).alloc (.cells #[.string sStep,.int .i64 a,.int .i64 b,.slice A 0 c] 35)):=((Below.refl _ _).alloc (Nat.le_refl _) _).alloc (by simp) _;have Y:=iH y;have B0:=iH ((Bk.new w 28 [.slice m.si.A m.si.n m.si.c,.slice m.sr.A m.sr.n m.sr.c,.slice m.st.A m.st.n m.st.c,.slice m.sx.A m.sx.n m.sx.c]).alloc (.cells #[.string sStep,.int .i64 a,.int .i64 b,.slice A 0 c] 35));have B1:Hid (Bk ((w.alloc (.cells #[.slice m.si.A m.si.n m.si.c,.slice m.sr.A m.sr.n m.sr.c,.slice m.st.A m.st.n m.st.c,.slice m.sx.A m.sx.n m.sx.c] 28)).alloc (.cells #[.string sStep,.int .i64 a,.int .i64 b,.slice A 0 c] 35)) (w.heap.size+1) 35 [.string sStep,.int .i64 a,.int .i64 b,.slice A 0 c]):=by
  have:=Bk.new (w.alloc (.cells #[.slice m.si.A m.si.n m.si.c,.slice m.sr.A m.sr.n m.sr.c,.slice m.st.A m.st.n m.st.c,.slice m.sx.A m.sx.n m.sx.c] 28)) 35 [.string sStep,.int .i64 a,.int .i64 b,.slice A 0 c];rw[World.size_alloc]at this;exact iH this
 have qKind:(sStep.toList == [107,105,110,100])=false:=by rw[<- lKind',eqL];decide
 have qActor:(sStep.toList == [97,99,116,111,114])=false:=by rw[<- lActor',eqL];decide
 have qRule:(sStep.toList == [114,117,108,101])=false:=by rw[<- lRule',eqL];decide
 have qTick:(sStep.toList == [116,105,99,107])=false:=by rw[<- lTick',eqL];decide
 have qItem:(sStep.toList == [105,116,101,109])=false:=by rw[<- lItem',eqL];decide
 have qMore:(sStep.toList == [109,111,114,101])=false:=by rw[<- lMore',eqL];decide
 have qStep:(sStep.toList == [115,116,101,112])=true:=by rw[<- lStep',eqL];decide
 have qAccount:(sStep.toList == [97,99,99,111,117,110,116])=false:=by rw[<- lAccount',eqL];decide
 have KD:=iH (decimal_any a ha ((w.alloc (.cells #[.slice m.si.A m.si.n m.si.c,.slice m.sr.A m.sr.n m.sr.c,.slice m.st.A m.st.n m.st.c,.slice m.sx.A m.sx.n m.sx.c] 28)).alloc (.cells #[.string sStep,.int .i64 a,.int .i64 b,.slice A 0 c] 35)));have dsz:(⟨(Lib.itoa a).toArray⟩:ByteArray).size<=21:=by
  have:=Lib.itoa_length_le a ha.1 ha.2;show(Lib.itoa a).toArray.size<=21;simpa using this
 have HR:Hid (((((sStep ++ ⟨#[32]⟩) ++ ⟨(Lib.itoa a).toArray⟩) ++ ⟨#[46,46]⟩) ++ ⟨(Lib.itoa b).toArray⟩:ByteArray)=⟨(condT (m.rules.map RuM.name) (m.items.map It.name) sStep a b).toArray⟩):=iH (bytes_of (by
  simp only[condT,isTwo,(by decide:(sStep=sKind)=False),(by decide:(sStep=sActor)=False),(by decide:(sStep=sRule)=False),(by decide:(sStep=sTick)=False),(by decide:(sStep=sItem)=False),(by decide:(sStep=sMore)=False),(by decide:(sStep=sAccount)=False),if_false,decide_false,decide_true,Bool.or_true,Bool.true_or,if_true]
  simp[ByteArray.data_append]))
 have hop:sStep.size<=10:=by decide
 have KE:=iH (decimal_any b hb0 ((w.alloc (.cells #[.slice m.si.A m.si.n m.si.c,.slice m.sr.A m.sr.n m.sr.c,.slice m.st.A m.st.n m.st.c,.slice m.sx.A m.sx.n m.sx.c] 28)).alloc (.cells #[.string sStep,.int .i64 a,.int .i64 b,.slice A 0 c] 35)).drew);have esz:(⟨(Lib.itoa b).toArray⟩:ByteArray).size<=21:=by
  have:=Lib.itoa_length_le b hb0.1 hb0.2;show(Lib.itoa b).toArray.size<=21;simpa using this
 clear y hi hr;generalize(⟨(condT (m.rules.map RuM.name) (m.items.map It.name) sStep a b).toArray⟩:ByteArray)=res at *;generalize(⟨(Lib.itoa a).toArray⟩:ByteArray)=da at *;generalize(⟨(Lib.itoa b).toArray⟩:ByteArray)=db at *;go_enter Tryz.func39,Tryz.ntmps39;go_wp2_with fail;refine KD.out.mono ?_;rintro e w1 ⟨rfl,rfl⟩;clear KD;go_wp2;refine wp_region_X (fun w'=>Bk w' (w.heap.size+1) 35 [.string sStep,.int .i64 a,.int .i64 b,.slice A 0 c]) 11 (n:=11) rfl (by kernel_rfl) (B1.out.drew) (fun hS=>?_);refine tU 0 (some 59) (v:=?_) rfl ⟨rfl,?_⟩ hS ?_;rotate_left
 ·intro w' hS';(go_simp;try with_reducible rfl)
 refine tU 1 (some 60) (v:=?_) rfl ⟨rfl,?_⟩ hS ?_;rotate_left
 ·intro w' hS';have e0:=hS'.k0;have e1:=hS'.k1;have e2:=hS'.k2;have e3:=hS'.k3;have el:=hS'.lt;(go_simp;try with_reducible rfl)
 refine tU 2 (some 61) (v:=?_) rfl ⟨rfl,?_⟩ hS ?_;rotate_left
 ·intro w' hS';have hc:¬ 9223372036854775807<sStep.size+1:=by omega
  (go_simp;try with_reducible rfl)
 refine tU 3 (some 62) (v:=?_) rfl ⟨rfl,?_⟩ hS ?_;rotate_left
 ·intro w' hS';(go_simp;try with_reducible rfl)
 refine tU 4 (some 63) (v:=?_) rfl ⟨rfl,?_⟩ hS ?_;rotate_left
 ·intro w' hS';have hc:¬ 9223372036854775807<sStep.size+1+da.size:=by omega
  (go_simp;try with_reducible rfl)
 refine tU 5 (some 64) (v:=?_) rfl ⟨rfl,?_⟩ hS ?_;rotate_left
 ·intro w' hS';have hc:¬ 9223372036854775807<sStep.size+1+da.size+2:=by omega
  (go_simp;try with_reducible rfl)
 refine tU 6 (some 65) (v:=?_) rfl ⟨rfl,?_⟩ hS ?_;rotate_left
 ·intro w' hS';(go_simp;try with_reducible rfl)
 refine tU 7 (some 66) (v:=?_) rfl ⟨rfl,?_⟩ hS ?_;rotate_left
 ·intro w' hS';have e0:=hS'.k0;have e1:=hS'.k1;have e2:=hS'.k2;have e3:=hS'.k3;have el:=hS'.lt;(go_simp;try with_reducible rfl)
 refine X_o 8 rfl fun K hK=>?_;go_simp;(with_reducible refine KE.out.mono ?_);rintro e w2 ⟨rfl,rfl⟩;refine hK _ _ B1.out.drew ?_;clear hK;refine X_o 9 rfl fun K hK=>?_;have hc:¬ 9223372036854775807<sStep.size+1+da.size+2+db.size:=by omega
 go_simp;refine hK _ _ B1.out.drew ?_;clear hK;clear hc;refine X_o 10 rfl fun K hK=>?_;go_simp;refine hK _ _ B1.out.drew ?_;clear hK;refine X_done (by kernel_rfl) ?_;clear hS KE;go_wp2;go_ret;exact⟨by rw[HR.out];rfl,Y.out.drew⟩
set_option linter.unusedSimpArgs false in
theorem rtext_Account {w:World} {m:CatM} (hi:ItsV w m.si m.items) (hr:RulesV w m.sr m.rules) (a b:Int) (ha:In64 a) (hb0:In64 b) (A:Option Addr) (c:Nat) :
 Calls Tryz.prog 39 #[.agg #[.slice m.si.A m.si.n m.si.c,.slice m.sr.A m.sr.n m.sr.c,.slice m.st.A m.st.n m.st.c,.slice m.sx.A m.sx.n m.sx.c],.agg #[.string sAccount,.int .i64 a,.int .i64 b,.slice A 0 c]] w fun e w'=>e=.returned (.string ⟨(condT (m.rules.map RuM.name) (m.items.map It.name) sAccount a b).toArray⟩)∧Below w.heap.size w w':=by
 have y:Below w.heap.size w ((w.alloc (.cells #[.slice m.si.A m.si.n m.si.c,.slice m.sr.A m.sr.n m.sr.c,.slice m.st.A m.st.n m.st.c,.slice m.sx.A m.sx.n m.sx.c] 28)).alloc (.cells #[.string sAccount,.int .i64 a,.int .i64 b,.slice A 0 c] 35)):=((Below.refl _ _).alloc (Nat.le_refl _) _).alloc (by simp) _;have Y:=iH y;have B0:=iH ((Bk.new w 28 [.slice m.si.A m.si.n m.si.c,.slice m.sr.A m.sr.n m.sr.c,.slice m.st.A m.st.n m.st.c,.slice m.sx.A m.sx.n m.sx.c]).alloc (.cells #[.string sAccount,.int .i64 a,.int .i64 b,.slice A 0 c] 35));have B1:Hid (Bk ((w.alloc (.cells #[.slice m.si.A m.si.n m.si.c,.slice m.sr.A m.sr.n m.sr.c,.slice m.st.A m.st.n m.st.c,.slice m.sx.A m.sx.n m.sx.c] 28)).alloc (.cells #[.string sAccount,.int .i64 a,.int .i64 b,.slice A 0 c] 35)) (w.heap.size+1) 35 [.string sAccount,.int .i64 a,.int .i64 b,.slice A 0 c]):=by
  have:=Bk.new (w.alloc (.cells #[.slice m.si.A m.si.n m.si.c,.slice m.sr.A m.sr.n m.sr.c,.slice m.st.A m.st.n m.st.c,.slice m.sx.A m.sx.n m.sx.c] 28)) 35 [.string sAccount,.int .i64 a,.int .i64 b,.slice A 0 c];rw[World.size_alloc]at this;exact iH this
 have qKind:(sAccount.toList == [107,105,110,100])=false:=by rw[<- lKind',eqL];decide
 have qActor:(sAccount.toList == [97,99,116,111,114])=false:=by rw[<- lActor',eqL];decide
 have qRule:(sAccount.toList == [114,117,108,101])=false:=by rw[<- lRule',eqL];decide
 have qTick:(sAccount.toList == [116,105,99,107])=false:=by rw[<- lTick',eqL];decide
 have qItem:(sAccount.toList == [105,116,101,109])=false:=by rw[<- lItem',eqL];decide
 have qMore:(sAccount.toList == [109,111,114,101])=false:=by rw[<- lMore',eqL];decide
 have qStep:(sAccount.toList == [115,116,101,112])=false:=by rw[<- lStep',eqL];decide
 have qAccount:(sAccount.toList == [97,99,99,111,117,110,116])=true:=by rw[<- lAccount',eqL];decide
 have KD:=iH (decimal_any a ha ((w.alloc (.cells #[.slice m.si.A m.si.n m.si.c,.slice m.sr.A m.sr.n m.sr.c,.slice m.st.A m.st.n m.st.c,.slice m.sx.A m.sx.n m.sx.c] 28)).alloc (.cells #[.string sAccount,.int .i64 a,.int .i64 b,.slice A 0 c] 35)));have dsz:(⟨(Lib.itoa a).toArray⟩:ByteArray).size<=21:=by
  have:=Lib.itoa_length_le a ha.1 ha.2;show(Lib.itoa a).toArray.size<=21;simpa using this
 have HR:Hid (((sAccount ++ ⟨#[32]⟩) ++ ⟨(Lib.itoa a).toArray⟩:ByteArray)=⟨(condT (m.rules.map RuM.name) (m.items.map It.name) sAccount a b).toArray⟩):=iH (bytes_of (by
  simp only[condT,isTwo,(by decide:(sAccount=sKind)=False),(by decide:(sAccount=sActor)=False),(by decide:(sAccount=sRule)=False),(by decide:(sAccount=sTick)=False),(by decide:(sAccount=sItem)=False),(by decide:(sAccount=sMore)=False),(by decide:(sAccount=sStep)=False),if_false,decide_false,Bool.or_self,Bool.false_eq_true]
  simp[ByteArray.data_append]))
 have hop:sAccount.size<=10:=by decide
 clear y hi hr;generalize(⟨(condT (m.rules.map RuM.name) (m.items.map It.name) sAccount a b).toArray⟩:ByteArray)=res at *;generalize(⟨(Lib.itoa a).toArray⟩:ByteArray)=da at *;go_enter Tryz.func39,Tryz.ntmps39;go_wp2_with fail;refine KD.out.mono ?_;rintro e w1 ⟨rfl,rfl⟩;clear KD;go_wp2;go_ret;exact⟨by rw[HR.out];rfl,Y.out⟩
end Go.Proofs.YtocodlpgaamblaaGreatDoor
