/- Valid. The reference's Valid. A drawn region: an operation whose guard is off. reading.New; the tokens of a text. reading.Try: the panic of a token that does not fit is recovered. Try, Parse. Parse. -/
import Derived.Test.YtocodlpgaamblaaGreatDoorO3
import Derived.Test.YtocodlpgaamblaaGreatDoorO5
import Derived.Test.YtocodlpgaamblaaGreatDoorO7
import Derived.Test.YtocodlpgaamblaaGreatDoorO8
import Derived.Test.YtocodlpgaamblaaGreatDoorO9
import Derived.Defers
import Derived.Recover
import Derived.Laws.Pointers
set_option linter.unusedVariables false
set_option linter.unusedSimpArgs false
set_option maxRecDepth 100000
set_option maxHeartbeats 4000000
open Go.RowKit
namespace Go.Proofs.YtocodlpgaamblaaGreatDoor
theorem MkM.Ok.drew {W:World} {t:TypeId} {P:Nat->Prop} {m:MkM} (h:m.Ok W t P):m.Ok W.drew t P:=h.bel (Below.refl _ _).drew
theorem valid_any (si sr st sx:Sl) (M:MkM) (w:World) (P:Nat->Prop) (h:M.Ok w 49 P) :
 Calls Tryz.prog 20 #[.agg #[.slice si.A si.n si.c,.slice sr.A sr.n sr.c,.slice st.A st.n st.c,.slice sx.A sx.n sx.c],.agg #[.string M.op,.int .i64 M.a,.int .i64 M.b,.slice M.s.A M.s.n M.s.c]] w fun e w'=>e=.returned (.int .i64 (validM si.n sr.n M.core))∧Below w.heap.size w w':=by
 have y:Below w.heap.size w ((w.alloc (.cells #[.slice si.A si.n si.c,.slice sr.A sr.n sr.c,.slice st.A st.n st.c,.slice sx.A sx.n sx.c] 28)).alloc (.cells #[.string M.op,.int .i64 M.a,.int .i64 M.b,.slice M.s.A M.s.n M.s.c] 49)):=((Below.refl _ _).alloc (Nat.le_refl _) _).alloc (by simp) _;have HY:=iH y;have B4:=iH ((Bk.new w 28 [.slice si.A si.n si.c,.slice sr.A sr.n sr.c,.slice st.A st.n st.c,.slice sx.A sx.n sx.c]).alloc (.cells #[.string M.op,.int .i64 M.a,.int .i64 M.b,.slice M.s.A M.s.n M.s.c] 49));have B5:Hid (Bk ((w.alloc (.cells #[.slice si.A si.n si.c,.slice sr.A sr.n sr.c,.slice st.A st.n st.c,.slice sx.A sx.n sx.c] 28)).alloc (.cells #[.string M.op,.int .i64 M.a,.int .i64 M.b,.slice M.s.A M.s.n M.s.c] 49)) (w.heap.size+1) 49 [.string M.op,.int .i64 M.a,.int .i64 M.b,.slice M.s.A M.s.n M.s.c]):=by
  have:=Bk.new (w.alloc (.cells #[.slice si.A si.n si.c,.slice sr.A sr.n sr.c,.slice st.A st.n st.c,.slice sx.A sx.n sx.c] 28)) 49 [.string M.op,.int .i64 M.a,.int .i64 M.b,.slice M.s.A M.s.n M.s.c];rw[World.size_alloc]at this;exact iH this
 have KC:=iH (count_any 64 (by decide) (by decide) 16 (by decide) M _ P (h.bel y));have hov:=cntP_over (most:=64) (d:=16) (m:=M.core) (by decide);have H:=iH h;clear h y;go_enter Tryz.func20,Tryz.ntmps20;go_wp2_with fail;refine KC.out.mono ?_;rintro e w1 ⟨rfl,hb1⟩;have HY1:=iH (HY.out.trans (hb1.mono HY.out.size));have HB4:=iH (B4.out.below hb1 B4.out.lt);have HB5:=iH (B5.out.below hb1 B5.out.lt);clear KC hb1 B4 B5 HY;by_cases hc:64<cntP 64 16 M.core
 ·have HQ:Hid (validM si.n sr.n M.core=4):=by show _=_;unfold validM;rw[if_pos (hov.1 hc)]
  have hc':((64:Nat):Int)<(cntP 64 16 M.core:Int):=by omega
  clear hov hc;generalize(cntP 64 16 M.core:Int)=cc at *;go_wp2;go_ret;exact⟨by rw[HQ.out];rfl,HY1.out⟩
 ·have HQ:Hid (validM si.n sr.n M.core=M.core.check si.n sr.n):=by show _=_;unfold validM;rw[if_neg (fun k=>hc (hov.2 k))]
  have hc':¬ (64:Int)<(cntP 64 16 M.core:Int):=by omega
  clear hov hc;generalize(cntP 64 16 M.core:Int)=cc at *;go_wp2;refine wp_region_X (fun w'=>Bk w' w.heap.size 28 [.slice si.A si.n si.c,.slice sr.A sr.n sr.c,.slice st.A st.n st.c,.slice sx.A sx.n sx.c]∧Bk w' (w.heap.size+1) 49 [.string M.op,.int .i64 M.a,.int .i64 M.b,.slice M.s.A M.s.n M.s.c]) 4 (n:=5) rfl (by kernel_rfl) (⟨HB4.out.drew,HB5.out.drew⟩) (fun hS=>?_);refine xT 1 9 hS ?_ (hy:=fun w' hS'=>by have⟨e0,e1,e2,e3,el⟩:=hS'.1.p4;(go_simp;try with_reducible rfl));refine xT 2 10 hS ?_ (hy:=fun w' hS'=>by have⟨e0,e1,e2,e3,el⟩:=hS'.2.p4;(go_simp;try with_reducible rfl));refine X_o 0 rfl fun K hK=>?_;go_simp;have K:=iH (conds_any w1.drew);(with_reducible refine K.out.mono ?_);rintro e w2 ⟨bm,kk,b1,b2,b3,rfl,hC,hb2⟩;have HY2:=iH (HY1.out.trans ((show Below w1.heap.size w1 w2 from(Below.refl _ _).drew.trans hb2).mono HY1.out.size));have HB42:=iH (HB4.out.drew.below hb2 HB4.out.lt);have HB52:=iH (HB5.out.drew.below hb2 HB5.out.lt);have KK:=iH (check_any si sr st sx M w2 P ((H.out.bel (HY1.out)).drew.bel hb2) hC.map);refine hK _ _ ⟨HB42.out,HB52.out⟩ ?_;clear hK K hC hb2;refine X_o 3 rfl fun K hK=>?_;go_simp;(with_reducible refine KK.out.mono ?_);rintro e w3 ⟨rfl,hb3⟩;have HY3:=iH (HY2.out.trans (hb3.mono HY2.out.size));refine hK _ _ ⟨HB42.out.below hb3 HB42.out.lt,HB52.out.below hb3 HB52.out.lt⟩ ?_;clear hK KK hb3;refine X_tail (by kernel_rfl) ?_;refine A_one 4 (by kernel_rfl) rfl rfl (fun K hK=>?_);go_simp;refine hK _ _ ?_;clear hK;refine A_done (by kernel_rfl) ?_;go_wp2;go_ret;exact⟨by rw[HQ.out];rfl,HY3.out⟩
theorem rown_any {w:World} (op:ByteArray) (a b:Int) (A:Option Addr) (n c:Nat) (si sr st sx:Sl) (hn:n<=100000) (hi:si.n<=1000000) (hr:sr.n<=1000000) :
 Calls Tryz.prog 106 #[.agg #[.slice si.A si.n si.c,.slice sr.A sr.n sr.c,.slice st.A st.n st.c,.slice sx.A sx.n sx.c],.agg #[.string op,.int .i64 a,.int .i64 b,.slice A n c]] w fun e w'=>e=.returned (.int .i64 (aloneE si.n sr.n op a b n))∧Below w.heap.size w w':=by
 by_cases h1:op=sAnd
 ·exact rown_join op a b A n c si sr st sx hn (.inl h1)
 by_cases h2:op=sOr
 ·exact rown_join op a b A n c si sr st sx hn (.inr (.inl h2))
 by_cases h3:op=sNot
 ·exact rown_join op a b A n c si sr st sx hn (.inr (.inr h3))
 exact rown_cond op a b A n c si sr st sx hn hi hr h1 h2 h3
theorem rall_any (si sr st sx:Sl) (hi:si.n<=1000000) (hr:sr.n<=1000000):∀(M:MkM) (w:World) (P:Nat->Prop),M.Ok w 35 P ->
 Calls Tryz.prog 58 #[.agg #[.slice si.A si.n si.c,.slice sr.A sr.n sr.c,.slice st.A st.n st.c,.slice sx.A sx.n sx.c],.agg #[.string M.op,.int .i64 M.a,.int .i64 M.b,.slice M.s.A M.s.n M.s.c]] w fun e w'=>e=.returned (.int .i64 (M.core.check si.n sr.n))∧Below w.heap.size w w':=by
 intro M
 induction M using MkM.ind with
 | h M ih =>
   intro w P h;have y:Below w.heap.size w ((w.alloc (.cells #[.slice si.A si.n si.c,.slice sr.A sr.n sr.c,.slice st.A st.n st.c,.slice sx.A sx.n sx.c] 28)).alloc (.cells #[.string M.op,.int .i64 M.a,.int .i64 M.b,.slice M.s.A M.s.n M.s.c] 35)):=((Below.refl _ _).alloc (Nat.le_refl _) _).alloc (by simp) _;have Y:=iH y;have KA:=iH (rown_any (w:=((w.alloc (.cells #[.slice si.A si.n si.c,.slice sr.A sr.n sr.c,.slice st.A st.n st.c,.slice sx.A sx.n sx.c] 28)).alloc (.cells #[.string M.op,.int .i64 M.a,.int .i64 M.b,.slice M.s.A M.s.n M.s.c] 35))) M.op M.a M.b M.s.A M.s.n M.s.c si sr st sx h.small hi hr);have B0:=iH ((Bk.new w 28 [.slice si.A si.n si.c,.slice sr.A sr.n sr.c,.slice st.A st.n st.c,.slice sx.A sx.n sx.c]).alloc (.cells #[.string M.op,.int .i64 M.a,.int .i64 M.b,.slice M.s.A M.s.n M.s.c] 35));have B1:Hid (Bk ((w.alloc (.cells #[.slice si.A si.n si.c,.slice sr.A sr.n sr.c,.slice st.A st.n st.c,.slice sx.A sx.n sx.c] 28)).alloc (.cells #[.string M.op,.int .i64 M.a,.int .i64 M.b,.slice M.s.A M.s.n M.s.c] 35)) (w.heap.size+1) 35 [.string M.op,.int .i64 M.a,.int .i64 M.b,.slice M.s.A M.s.n M.s.c]):=by
    have:=Bk.new (w.alloc (.cells #[.slice si.A si.n si.c,.slice sr.A sr.n sr.c,.slice st.A st.n st.c,.slice sx.A sx.n sx.c] 28)) 35 [.string M.op,.int .i64 M.a,.int .i64 M.b,.slice M.s.A M.s.n M.s.c];rw[World.size_alloc]at this;exact iH this
   have Hn:=iH h.len;have H:=iH h;have hs:=h.small;have hT:M.core.check si.n sr.n=if aloneE si.n sr.n M.op M.a M.b M.s.n≠0 then aloneE si.n sr.n M.op M.a M.b M.s.n else Mk.checkL si.n sr.n ((M.ks.drop 0).map MkM.core):=by
    rw[List.drop_zero,<- coreL_map,h.len,<- coreL_len];cases M;rfl
   have HT:=iH hT;have HI:=iH ih;generalize M.core.check si.n sr.n=T at *;obtain⟨mop,ma,mbb,l,s⟩:=M;dsimp only[MkM.ks,MkM.s,MkM.op,MkM.a,MkM.b]at *;obtain⟨A,n,c⟩:=s;dsimp only at *;clear h hT ih y;generalize aloneE si.n sr.n mop ma mbb n=E0 at *;go_enter Tryz.func58,Tryz.ntmps58;go_wp2_with fail;refine KA.out.mono ?_;rintro e w1 ⟨rfl,hb1⟩;have Y1:=iH (Y.out.trans (hb1.mono Y.out.size));have B01:=iH (B0.out.below hb1 B0.out.lt);have B11:=iH (B1.out.below hb1 B1.out.lt);clear KA hb1 B0 B1 Y;go_wp2_with fail;go_loopw [5,6] (fun v i wr=>∃(k:Nat) (er:Int),k<=n∧i=.int .i64 k∧v=.int .i64 er∧T=(if er≠0 then er else Mk.checkL si.n sr.n ((l.drop k).map MkM.core))∧Below w.heap.size w wr∧Bk wr w.heap.size 28 [.slice si.A si.n si.c,.slice sr.A sr.n sr.c,.slice st.A st.n st.c,.slice sx.A sx.n sx.c]∧Bk wr (w.heap.size+1) 35 [.string mop,.int .i64 ma,.int .i64 mbb,.slice A n c]) (fun _ i _=>n-(intOf i).toNat)
   case atStart=>exact⟨0,E0,Nat.zero_le _,rfl,rfl,HT.out,Y1.out,B01.out,B11.out⟩
   case round =>
    obtain⟨k,er,hk,rfl,rfl,hR,hb,hb0,hb1⟩:=hrel;have HB:=iH hb;have HB0:=iH hb0;have HB1:=iH hb1;have HR:=iH hR;have f3:=hb1.k3;have fl:=hb1.lt;clear hb hb0 hb1 hR HT B01 B11 Y1;by_cases hlt:k<n
    ·by_cases her:er=0
     ·subst her;have hkl:k<l.length:=by have:=Hn.out;omega
      obtain⟨bb,off,rfl,hbb,c0,c1,c2,c3⟩:=(H.out.bel HB.out).at_ k hkl;dsimp only[MkM.ks,MkM.s]at c0 c1 c2 c3;have hdr:l.drop k=l[k] :: l.drop (k+1):=List.drop_eq_getElem_cons hkl;have HR2:Hid (T=if l[k].core.check si.n sr.n≠0 then l[k].core.check si.n sr.n else Mk.checkL si.n sr.n ((l.drop (k+1)).map MkM.core)):=by
       show T=_;rw[HR.out,if_neg (by simp),hdr,List.map_cons];rfl
      have hmem:=List.getElem_mem hkl;have hbw:bb<w.heap.size:=by
       obtain⟨b2,off2,hA2,hb2,_⟩:=H.out.at_ k hkl;dsimp only[MkM.s]at hA2;simp only[Option.some.injEq,Addr.mk.injEq]at hA2;omega
      have HEL:Hid (∀w',Below w.heap.size w w'->((w'.cell? ⟨bb,off+k*4,none⟩=some (.string l[k].op)∧w'.cell? ⟨bb,off+k*4+1,none⟩=some (.int .i64 l[k].a)∧w'.cell? ⟨bb,off+k*4+2,none⟩=some (.int .i64 l[k].b)∧w'.cell? ⟨bb,off+k*4+3,none⟩=some (.slice l[k].s.A l[k].s.n l[k].s.c))∧bb<w'.heap.size)):=iH fun U hU=>by
       obtain⟨b2,off2,hA2,hb2,d0,d1,d2,d3⟩:=H.out.at_ k hkl;dsimp only[MkM.ks,MkM.s]at hA2 d0 d1 d2 d3;simp only[Option.some.injEq,Addr.mk.injEq]at hA2;obtain⟨rfl,rfl,-⟩:=hA2;exact⟨⟨(hU.cell (p:=⟨bb,off+k*4,none⟩) hb2).trans d0,(hU.cell (p:=⟨bb,off+k*4+1,none⟩) hb2).trans d1,(hU.cell (p:=⟨bb,off+k*4+2,none⟩) hb2).trans d2,(hU.cell (p:=⟨bb,off+k*4+3,none⟩) hb2).trans d3⟩,Nat.lt_of_lt_of_le hb2 hU.size⟩
      have HC:=iH (HI.out l[k] hmem wr.drew P (((H.out.bel HB.out.drew).each l[k] hmem)));clear hmem hdr HR c0 c1 c2 c3 hbb;generalize l[k]=t at *;generalize t.core.check si.n sr.n=z at *;clear hkl hbw;go_wp2;refine wp_region_X (fun w'=>(Bk w' w.heap.size 28 [.slice si.A si.n si.c,.slice sr.A sr.n sr.c,.slice st.A st.n st.c,.slice sx.A sx.n sx.c]∧Bk w' (w.heap.size+1) 35 [.string mop,.int .i64 ma,.int .i64 mbb,.slice (some ⟨bb,off,none⟩) n c])∧((w'.cell? ⟨bb,off+k*4,none⟩=some (.string t.op)∧w'.cell? ⟨bb,off+k*4+1,none⟩=some (.int .i64 t.a)∧w'.cell? ⟨bb,off+k*4+2,none⟩=some (.int .i64 t.b)∧w'.cell? ⟨bb,off+k*4+3,none⟩=some (.slice t.s.A t.s.n t.s.c))∧bb<w'.heap.size)) 8 (n:=8) rfl (by kernel_rfl) (⟨⟨HB0.out.drew,HB1.out.drew⟩,HEL.out _ HB.out.drew⟩) (fun hS=>?_);refine uT 0 21 hS ?_ (hy:=fun w' hS'=>by have⟨e0,e1,e2,e3,el⟩:=hS'.1.1.p4;(go_simp;try with_reducible rfl));refine uT 1 22 hS ?_;refine uT 2 23 hS ?_ (hy:=fun w' hS'=>by have⟨e0,e1,e2,e3,el⟩:=hS'.1.2.p4;(go_simp;try with_reducible rfl));refine uT 3 24 hS ?_;refine uT 4 25 hS ?_;refine uT 5 26 hS ?_ (hy:=fun w' hS'=>by have e0:=hS'.2.1.1;have e1:=hS'.2.1.2.1;have e2:=hS'.2.1.2.2.1;have e3:=hS'.2.1.2.2.2;have el:=hS'.2.2;(go_simp;try with_reducible rfl));refine X_o 6 rfl fun K hK=>?_;go_simp;(with_reducible refine HC.out.mono ?_);rintro e w1 ⟨rfl,hb1⟩;have hd:=(Below.refl wr.heap.size wr).drew.trans hb1;have HBn:=iH (HB.out.trans (hd.mono HB.out.size));have HB0n:=iH (HB0.out.below hd HB0.out.lt);have HB1n:=iH (HB1.out.below hd HB1.out.lt);refine hK _ _ ⟨⟨HB0n.out,HB1n.out⟩,HEL.out _ HBn.out⟩ ?_;clear hK HC hb1 hd HB HB0 HB1;refine X_o 7 rfl fun K hK=>?_;go_simp;refine hK _ _ ⟨⟨HB0n.out,HB1n.out⟩,HEL.out _ HBn.out⟩ ?_;clear hK;refine X_done (by kernel_rfl) ?_;clear hS;go_wp2;go_roundw
      case rel=>exact⟨k+1,z,by omega,by go_num,rfl,HR2.out,HBn.out,HB0n.out,HB1n.out⟩
      case measure=>simp[intOf];omega
     ·have her1:(er == 0)=false:=by simpa using her
      have HF:Hid (T=er):=by show T=_;rw[HR.out,if_pos her]
      clear HR;go_wp2;go_ret;exact⟨by rw[HF.out];rfl,HB.out⟩
    ·have hkn:k=n:=by omega
     have HF:Hid (T=er):=by
      show T=er;rw[HR.out,hkn,List.drop_of_length_le (by have:=Hn.out;omega)];by_cases her:er=0
      ·rw[if_neg (by simpa using her),her];rfl
      ·rw[if_pos her]
     clear hkn HR;go_wp2;go_ret;exact⟨by rw[HF.out];rfl,HB.out⟩
theorem rvalid_any (si sr st sx:Sl) (hi:si.n<=1000000) (hr:sr.n<=1000000) (M:MkM) (w:World) (P:Nat->Prop) (h:M.Ok w 35 P) (hsz:M.core.size<=1000000000) :
 Calls Tryz.prog 21 #[.agg #[.slice si.A si.n si.c,.slice sr.A sr.n sr.c,.slice st.A st.n st.c,.slice sx.A sx.n sx.c],.agg #[.string M.op,.int .i64 M.a,.int .i64 M.b,.slice M.s.A M.s.n M.s.c]] w fun e w'=>e=.returned (.int .i64 (validM si.n sr.n M.core))∧Below w.heap.size w w':=by
 have y:Below w.heap.size w ((w.alloc (.cells #[.slice si.A si.n si.c,.slice sr.A sr.n sr.c,.slice st.A st.n st.c,.slice sx.A sx.n sx.c] 28)).alloc (.cells #[.string M.op,.int .i64 M.a,.int .i64 M.b,.slice M.s.A M.s.n M.s.c] 35)):=((Below.refl _ _).alloc (Nat.le_refl _) _).alloc (by simp) _;have Y:=iH y;have B0:=iH ((Bk.new w 28 [.slice si.A si.n si.c,.slice sr.A sr.n sr.c,.slice st.A st.n st.c,.slice sx.A sx.n sx.c]).alloc (.cells #[.string M.op,.int .i64 M.a,.int .i64 M.b,.slice M.s.A M.s.n M.s.c] 35));have B1:Hid (Bk ((w.alloc (.cells #[.slice si.A si.n si.c,.slice sr.A sr.n sr.c,.slice st.A st.n st.c,.slice sx.A sx.n sx.c] 28)).alloc (.cells #[.string M.op,.int .i64 M.a,.int .i64 M.b,.slice M.s.A M.s.n M.s.c] 35)) (w.heap.size+1) 35 [.string M.op,.int .i64 M.a,.int .i64 M.b,.slice M.s.A M.s.n M.s.c]):=by
  have:=Bk.new (w.alloc (.cells #[.slice si.A si.n si.c,.slice sr.A sr.n sr.c,.slice st.A st.n st.c,.slice sx.A sx.n sx.c] 28)) 35 [.string M.op,.int .i64 M.a,.int .i64 M.b,.slice M.s.A M.s.n M.s.c];rw[World.size_alloc]at this;exact iH this
 have K1:=iH (size_any M ((w.alloc (.cells #[.slice si.A si.n si.c,.slice sr.A sr.n sr.c,.slice st.A st.n st.c,.slice sx.A sx.n sx.c] 28)).alloc (.cells #[.string M.op,.int .i64 M.a,.int .i64 M.b,.slice M.s.A M.s.n M.s.c] 35)) P (h.bel y) hsz);have H:=iH h;have HS:=iH hsz;have hd:=depth_size M.core;clear y h hsz;go_enter Tryz.func21,Tryz.ntmps21;go_wp2_with fail;refine K1.out.mono ?_;rintro e w1 ⟨rfl,hb1⟩;have Y1:=iH (Y.out.trans (hb1.mono Y.out.size));have B01:=iH (B0.out.below hb1 B0.out.lt);have B11:=iH (B1.out.below hb1 B1.out.lt);clear K1 hb1 B0 B1 Y;by_cases h1:64<M.core.size
 ·have HQ:Hid (validM si.n sr.n M.core=4):=iH (by unfold validM;rw[if_pos (.inl h1)]);have h1':(64:Int)<(M.core.size:Int):=by omega
  clear h1 hd;generalize(M.core.size:Int)=cc at *;go_wp2;go_ret;exact⟨by rw[HQ.out];rfl,Y1.out⟩
 ·have h1':¬ (64:Int)<(M.core.size:Int):=by omega
  have K2:=iH (depth_any M w1 P (H.out.bel Y1.out) HS.out);have HV:Hid (validM si.n sr.n M.core=if 16<M.core.depth then 4 else M.core.check si.n sr.n):=iH (by unfold validM;simp[h1]);have K3:=iH (fun U (hU:Below w.heap.size w U)=>rall_any si sr st sx hi hr M U P (H.out.bel hU));clear h1 hd HS;generalize(M.core.size:Int)=cc at *;have⟨b0,b1,b2,b3,bl⟩:=B11.out.p4;go_wp2_with fail;refine K2.out.mono ?_;rintro e w2 ⟨rfl,hb2⟩;have Y2:=iH (Y1.out.trans (hb2.mono Y1.out.size));have B02:=iH (B01.out.below hb2 B01.out.lt);have B12:=iH (B11.out.below hb2 B11.out.lt);clear K2 hb2 B01 B11 Y1 b0 b1 b2 b3 bl;by_cases h2:16<M.core.depth
  ·have HQ:Hid (validM si.n sr.n M.core=4):=iH (by rw[HV.out,if_pos h2]);have h2':(16:Int)<(M.core.depth:Int):=by omega
   clear h2;generalize(M.core.depth:Int)=cd at *;go_wp2;go_ret;exact⟨by rw[HQ.out];rfl,Y2.out⟩
  ·have HQ:Hid (validM si.n sr.n M.core=M.core.check si.n sr.n):=iH (by rw[HV.out,if_neg h2]);have h2':¬ (16:Int)<(M.core.depth:Int):=by omega
   clear h2 HV;generalize(M.core.depth:Int)=cd at *;have K4:=iH (K3.out _ Y2.out);have⟨b0,b1,b2,b3,bl⟩:=B12.out.p4;have⟨d0,d1,d2,d3,_⟩:=B02.out.p4;clear K3;go_wp2_with fail;refine K4.out.mono ?_;rintro e w3 ⟨rfl,hb3⟩;have Y3:=iH (Y2.out.trans (hb3.mono Y2.out.size));clear K4 hb3;go_wp2;go_ret;exact⟨by rw[HQ.out];rfl,Y3.out⟩
section
section
variable {P : Program} {ops : Array Oper} {Q : Exit -> Act -> World -> Prop} {md : Region.Mode} {S : World -> Prop} {T : Nat}
theorem X_skipU (i:Nat) (d:Option Tmp) {oi:Oper} {fuel:Nat} {listed listed':Array Bool} {a:Act} {w:World} (hi:ops[i]? = some oi) (hd:oi.dst=d) (hl:listed.setIfInBounds i true=listed')
 (hB:(Region.noSelect ops && Region.free md ops listed i && (Region.ready md ops listed).contains i)=true) (hT:ops[T]? = none)
 (hQ:∀c a w,Q (.panic c) (a.put oi.dst undef) w->Q (.panic c) a w) (hw:Region.wanted oi (yielded ops a.tmps)=false) (hS:S w)
 (h:wpAnyX P md ops Q S T fuel listed' (a.put d undef) w):wpAnyX P md ops Q S T (fuel+1) listed a w:=by
  simp only[Bool.and_eq_true]at hB;subst hd hl;exact wpAnyX_firstU hi (Region.noSelect_spec hB.1.1) hT hQ fuel listed a w (Region.free_spec hi hB.1.2) (by simpa using hB.2) (.inr ⟨hw,rfl⟩) hS h
theorem sT (i d:Nat){oi:Oper}{fuel:Nat}{listed:Array Bool}{a:Act}{w:World}(hS:S w)(h:wpAnyX P md ops Q S T fuel (listed.setIfInBounds i true) (a.put (some d) undef) w)(hi:ops[i]?=some oi:=by rfl)(hw:Region.wanted oi (yielded ops a.tmps)=false:=by rfl)(hd:oi.dst=some d:=by rfl)(hT:ops[T]?=none:=by rfl)(hQ:∀c a w,Q (.panic c) (a.put oi.dst undef) w->Q (.panic c) a w:=by exact fun _ _ _ h=>h)(hB:(Region.noSelect ops&&Region.free md ops listed i&&(Region.ready md ops listed).contains i)=true:=by kernel_rfl):wpAnyX P md ops Q S T (fuel+1) listed a w:=X_skipU i (some d) hi hd rfl hB hT hQ hw hS h
theorem sS (i d:Nat){oi:Oper}{fuel:Nat}{listed:Array Bool}{a a':Act}{w:World}(hS:S w)(h:wpAnyX P md ops Q S T fuel (listed.setIfInBounds i true) a' w)(hi:ops[i]?=some oi:=by rfl)(hw:Region.wanted oi (yielded ops a.tmps)=false:=by rfl)(ha:a.put (some d) undef=a':=by (simp only[Act.put,Pa,Pb,Pc];rfl))(hd:oi.dst=some d:=by rfl)(hT:ops[T]?=none:=by rfl)(hQ:∀c a w,Q (.panic c) (a.put oi.dst undef) w->Q (.panic c) a w:=by exact fun _ _ _ h=>h)(hB:(Region.noSelect ops&&Region.free md ops listed i&&(Region.ready md ops listed).contains i)=true:=by kernel_rfl):wpAnyX P md ops Q S T (fuel+1) listed a w:=X_skipU i (some d) hi hd rfl hB hT hQ hw hS (ha ▸ h)
end
end
theorem toks_mem {s:ByteArray} {t:Tok}:∀p,t∈toksFrom s p->∃q,q<s.size∧t=nextT s q:=by
 intro p
 induction hm:s.size-p using Nat.strongRecOn generalizing p with
 | _ m ih =>
   by_cases h:p<s.size
   ·by_cases he:(nextT s p).err=0
    ·rw[toksFrom_go h he];intro hx;rcases List.mem_cons.1 hx with e|hx
     ·exact⟨p,h,e⟩
     ·obtain⟨h1,h2⟩:=nextT_size h;have h3:=skipS_bd s (p+(nextT s p).text.size) h1;have h4:=h2 he;exact ih (s.size-skipS s (p+(nextT s p).text.size)) (by omega) _ rfl hx
    ·rw[toksFrom_err h he];intro hx;exact⟨p,h,by simpa using hx⟩
   ·rw[toksFrom_end (by omega)];intro hx;cases hx
theorem nextT_num {s:ByteArray} {p:Nat} (he:(nextT s p).err=0):0<=(nextT s p).num∧(nextT s p).num<=1099511627776:=by
 have z:∀(k:Int) (x:ByteArray) (a e:Int),0<=(Tok.mk k x 0 a e).num∧(Tok.mk k x 0 a e).num<=1099511627776:=fun _ _ _ _=>⟨by show(0:Int)<=0;omega,by show(0:Int)<=1099511627776;omega⟩
 unfold nextT at he⊢;split
 ·split <;> exact z _ _ _ _
 ·rename_i h3
  rw[if_neg h3]at he;split
  ·rename_i h4
   rw[if_pos h4]at he;split
   ·rename_i h5;rw[if_pos h5]at he;cases he
   ·rename_i h5
    dsimp only;refine⟨?_,by omega⟩;refine numE_nonneg (n:=runEnd digB s (p+1)-p) (fun i hi=>?_) _ (Nat.le_refl _);cases i with
    | zero=>exact h4
    | succ i =>
      have:=runEnd_in (f:=digB) (s:=s) (j:=p+1) (i:=p+(i+1)) (by omega) (by omega);simpa[digB]using this
  ·split
   ·exact z _ _ _ _
   ·split
    ·split <;> exact z _ _ _ _
    ·exact z _ _ _ _
theorem toks_ok {s:ByteArray} (hs:s.size<=8192) {t:Tok} (h:t∈toks s) (he:t.err=0):t.text.size<=8192∧In64 t.num:=by
 obtain⟨q,hq,rfl⟩:=toks_mem _ h;have h1:=(nextT_size hq).1;have h2:=nextT_num he;refine⟨by omega,?_⟩;unfold In64;omega
def badTok (ts:List Tok):Option Tok:=ts.find? fun t=>t.err != 0
theorem bad_none {ts:List Tok} (h:∀t∈ts,t.err=0):badTok ts=none:=by
 unfold badTok;rw[List.find?_eq_none];intro t ht;simp[h t ht]
theorem bad_some {ts init:List Tok} {last:Tok} (hp:init ++ [last] <+: ts) (hi:∀t∈init,t.err=0) (hl:last.err≠0):badTok ts=some last:=by
 obtain⟨r,rfl⟩:=hp;unfold badTok;rw[List.append_assoc,List.find?_append];have:init.find? (fun t=>t.err != 0)=none:=by
  rw[List.find?_eq_none];intro t ht;simp[hi t ht]
 rw[this];simp[hl]
def NewR (w:World) (s:ByteArray) (e:Ending) (w':World):Prop :=
 match badTok (toks s)with
 | some t=>e=.returned (.tuple #[.pointer none,.int .i64 t.at_,.int .i64 t.err])∧t.err≠0∧Below w.heap.size w w'
 | none=>∃rb,e=.returned (.tuple #[.pointer (some ⟨rb,0,none⟩),.int .i64 0,.int .i64 0])∧RdAt w' rb (toks s) s.size∧w.heap.size<=rb∧Below w.heap.size w w'∧∀t∈toks s,t.text.size<=8192∧In64 t.num
theorem newR_any (s:ByteArray) (hs:s.size<=8192) (w:World) (hT:Tab w):Calls Tryz.prog 71 #[.string s] w (NewR w s):=by
 have K:=iH (tokens_all s hs w hT);have hok:=@toks_ok s hs;have hln:(toks s).length<=8192:=by
  have:=toks_len s (skipS s 0);show(toksFrom s (skipS s 0)).length<=8192;omega
 clear hT;go_enter Tryz.func71,Tryz.ntmps71;go_wp2_with fail;refine K.out.mono ?_;intro e w1 hp;clear K;rcases hp with ⟨hz,v,rfl,hown,hb⟩|⟨init,last,hpre,hi,hl,rfl,hb⟩
 ·have hbad:=bad_none hz;have hQ:∀(e:Ending) (w':World),(∃rb,e=.returned (.tuple #[.pointer (some ⟨rb,0,none⟩),.int .i64 0,.int .i64 0])∧RdAt w' rb (toks s) s.size∧w.heap.size<=rb∧Below w.heap.size w w'∧∀t∈toks s,t.text.size<=8192∧In64 t.num)->NewR w s e w':=fun e w' h=>by
   unfold NewR;rw[hbad];exact h
  have HQ:=iH hQ;have HT:=iH (fun t ht=>hok ht (hz t ht));have hrow:∃A c,v=.slice A (toks s).length c∧TRow w1 186 A (kcells (toks s))∧(toks s).length<=c∧∀b off,A=some ⟨b,off,none⟩->b<w1.heap.size:=by
   rcases hown.2 with ⟨hv,h0⟩|⟨g,cap,cur,hv,hge,hg,hc,_⟩
   ·exact⟨none,0,by rw[hv,h0],.inl (by rw[List.eq_nil_of_length_eq_zero h0];rfl),by omega,fun b off h=>by cases h⟩
   ·refine⟨some ⟨g,0,none⟩,cap,hv,TRow.of_own (hv ▸ hown),hc,fun b off h=>?_⟩;cases h;exact(Array.getElem?_eq_some_iff.1 hg).1
  obtain⟨A,c,rfl,hrw,hc,hlt⟩:=hrow;have HY:=iH hb;have HR:Hid (RdAt (w1.alloc (.cells #[.slice A (toks s).length c,.int .i64 s.size] 176)) w1.heap.size (toks s) s.size) :=
   iH ⟨A,c,Bk.new w1 176 _,hrw.keep (.alloc 186 w1 _),hc,hln,hlt⟩
  clear hbad hQ hz hown hb hrw hlt hok;generalize toks s=ts at *;go_wp2;refine bodyPost_ret (v:=.tuple #[.pointer (some ⟨w1.heap.size,0,none⟩),.int .i64 0,.int .i64 0]) (by simp[results,Tryz.results71,go_sem]) rfl ?_;exact HQ.out _ _ ⟨_,rfl,HR.out,HY.out.size,HY.out.alloc HY.out.size _,HT.out⟩
 ·have hbad:=bad_some hpre hi hl;have hQ:∀(e:Ending) (w':World),(e=.returned (.tuple #[.pointer none,.int .i64 last.at_,.int .i64 last.err])∧last.err≠0∧Below w.heap.size w w')->NewR w s e w':=fun e w' h=>by
   unfold NewR;rw[hbad];exact h
  have HQ:=iH hQ;have HY:=iH hb;have HL:=iH hl;have hl':¬ last.err=0:=hl;clear hbad hQ hpre hi hb hok hl;go_wp2;refine bodyPost_ret (v:=.tuple #[.pointer none,.int .i64 last.at_,.int .i64 last.err]) (by simp[results,Tryz.results71,go_sem]) rfl ?_;exact HQ.out _ _ ⟨rfl,HL.out,HY.out⟩
theorem ta_yes (a:Int) (w:World):(Instr.typeAssert (.iface 178 (.agg #[.int .i64 a])) 20 178 true).run Tryz.prog w=.ok (.tuple #[.agg #[.int .i64 a],.bool true]) w:=by kernel_rfl
theorem ta_no (w:World):(Instr.typeAssert .nilIface 20 178 true).run Tryz.prog w=.ok (.tuple #[.agg #[.int .i64 0],.bool false]) w:=by kernel_rfl
theorem catch_panicking (w:World) (p q:Nat) (x a:Int) (b:Bool) (older:List PanicEntry) (hp:Bk w p 3 [.int .i64 x]) (hq:Bk w q 4 [.bool b]) :
 CallsD Tryz.prog 111 #[.pointer (some ⟨p,0,none⟩),.pointer (some ⟨q,0,none⟩)] (.panicking ({ v:=.iface 178 (.agg #[.int .i64 a]),recovered:=false } :: older)) w fun e u' w' =>
  e=.returned (.tuple #[])∧u'=.panicking ({ v:=.iface 178 (.agg #[.int .i64 a]),recovered:=true } :: older)∧w'=((w.setCell ⟨p,0,none⟩ (.int .i64 a)).setCell ⟨q,0,none⟩ (.bool false)).alloc (.cells #[.int .i64 a] 178):=by
 have cp:=hp.k0;have cq:=hq.k0;have fp:=hp.frozen 0;have fq:=hq.frozen 0;have lp:=hp.lt;have lq:=hq.lt;have hne:q≠p:=by
  rintro rfl;have h1:=hp;have h2:=hq;unfold Bk at h1 h2;rw[h1]at h2;cases h2
 refine callsD_of_wpS Tryz.func111 rfl fun c₀ cs hu=>?_
 apply wpS_seq;apply wpS_region;simp[wpOpsS,go_sem,recoverD,hu,Tryz.ntmps111,Exit.thenS,ta_yes];refine wpS_of_wp ?_;simp[Array.replicate_succ,Array.replicate_zero];go_wp2;exact⟨rfl,_,rfl,_,results_none rfl _ _ _,rfl,rfl,rfl⟩
theorem catch_idle (w:World) (p q:Nat) :
 CallsD Tryz.prog 111 #[.pointer (some ⟨p,0,none⟩),.pointer (some ⟨q,0,none⟩)] .returning w fun e u' w'=>e=.returned (.tuple #[])∧u'=.returning∧w'=w.alloc (.cells #[.int .i64 0] 178):=by
 refine callsD_of_wpS Tryz.func111 rfl fun c₀ cs hu=>?_
 apply wpS_seq;apply wpS_region;simp[wpOpsS,go_sem,recoverD,hu,Tryz.ntmps111,Exit.thenS,ta_no];refine wpS_of_wp ?_;simp[Array.replicate_succ,Array.replicate_zero];go_wp2;refine⟨rfl,.returning,?_,_,results_none rfl _ _ _,rfl,rfl,rfl⟩;cases c₀
 simp_all
def pCellsM (rb:Nat) (m:CatM) (M:MkM) (st:PSt):List Value:=[.pointer (some ⟨rb,0,none⟩),.slice m.si.A m.si.n m.si.c,.slice m.sr.A m.sr.n m.sr.c,.slice m.st.A m.st.n m.st.c,.slice m.sx.A m.sx.n m.sx.c,.string M.op,.int .i64 M.a,.int .i64 M.b,.slice M.s.A M.s.n M.s.c,.int .i64 st.2,.int .i64 st.1]
def CPost (W:World) (rb pb:Nat) (m:CatM) (len:Int) (p:PR Mk) (e:Ending) (w':World):Prop :=
 match p with
 | .bad x=>e=failV x len∧Gr2 rb pb W w'
 | .ok k r st=>∃M:MkM,e=.returned (.tuple #[])∧M.core=k∧M.Ok w' 49 (fun b=>W.heap.size<=b)∧RdAt w' rb r len∧Bk w' pb 142 (pCellsM rb m M st)∧Gr2 rb pb W w'
theorem clos_any {w:World} {rb pb bx:Nat} {m:CatM} {ts:List Tok} {len:Int} {p:PR Mk} (hP:PAt w rb pb m ts len (0,0)) (hb:Bk w bx 140 [.pointer (some ⟨pb,0,none⟩)]) (hx1:bx≠rb) (hx2:bx≠pb)
 (hK:Calls Tryz.prog 74 #[.pointer (some ⟨pb,0,none⟩)] w.drew (PPost w.drew rb pb m len p)) :
 Calls Tryz.prog 73 #[.pointer (some ⟨bx,0,none⟩)] w (CPost w rb pb m len p):=by
 have KR:=iH hK;have HBx:=iH hb;have hpl:=hP.plt;have hlt:=hP.lt;clear hK hb hP;go_enter Tryz.func73,Tryz.ntmps73;refine wp_region_X (fun w'=>Bk w' bx 140 [.pointer (some ⟨pb,0,none⟩)]) 3 (n:=6) rfl (by kernel_rfl) (HBx.out.drew) (fun hS=>?_);refine xT 0 1 hS ?_ (hy:=fun w' hS'=>by have e0:=hS'.k0;have el:=hS'.lt;(go_simp;try with_reducible rfl));refine xT 1 2 hS ?_ (hy:=fun w' hS'=>by have e0:=hS'.k0;have el:=hS'.lt;(go_simp;try with_reducible rfl));refine X_o 2 rfl fun K hK=>?_;go_simp;(with_reducible refine KR.out.mono ?_);intro e w1 hpost;cases p with
 | bad x =>
   obtain⟨rfl,hg⟩:=hpost;exact⟨rfl,rfl,(Gr2.of_below (Below.refl _ _).drew).trans hg⟩
 | ok k r st =>
 obtain⟨M,rfl,rfl,hM,hP,hG⟩:=hpost;have HB1:=iH (HBx.out.drew.gr2 hG hx1 hx2);have HM:=iH hM;have HP:=iH hP;have HG:=iH ((Gr2.of_below (Below.refl _ _).drew).trans hG);refine hK _ _ HB1.out ?_;clear hK KR hM hP hG;refine X_tail (by kernel_rfl) ?_;refine A_one 3 (by kernel_rfl) rfl rfl (fun K hK=>?_);go_simp;refine hK _ _ ?_;clear hK;refine A_one 4 (by kernel_rfl) rfl rfl (fun K hK=>?_);go_simp;refine hK _ _ ?_;clear hK;refine A_one 5 (by kernel_rfl) rfl rfl (fun K hK=>?_);have f5:=HP.out.pk.frozen 5;have f6:=HP.out.pk.frozen 6;have f7:=HP.out.pk.frozen 7;have f8:=HP.out.pk.frozen 8;have g5:=HP.out.pk.k5;have g6:=HP.out.pk.k6;have g7:=HP.out.pk.k7;have g8:=HP.out.pk.k8;have gl:=HP.out.plt;go_simp;refine hK _ _ ?_;clear hK;refine A_done (by kernel_rfl) ?_;have hg4:w1.grownBy ((((w1.setCell ⟨pb,5,none⟩ (.string M.op)).setCell ⟨pb,6,none⟩ (.int .i64 M.a)).setCell ⟨pb,7,none⟩ (.int .i64 M.b)).setCell ⟨pb,8,none⟩ (.slice M.s.A M.s.n M.s.c)) (some pb):=grown_trans2 (grown_trans2 (grown_trans2 (grown_setCell w1 pb 5 _) (grown_setCell _ pb 6 _)) (grown_setCell _ pb 7 _)) (grown_setCell _ pb 8 _);have hB4:Bk ((((w1.setCell ⟨pb,5,none⟩ (.string M.op)).setCell ⟨pb,6,none⟩ (.int .i64 M.a)).setCell ⟨pb,7,none⟩ (.int .i64 M.b)).setCell ⟨pb,8,none⟩ (.slice M.s.A M.s.n M.s.c)) pb 142 (pCellsM rb m M st):=(((HP.out.pk.set 5 _).set 6 _).set 7 _).set 8 _;generalize(((w1.setCell ⟨pb,5,none⟩ (.string M.op)).setCell ⟨pb,6,none⟩ (.int .i64 M.a)).setCell ⟨pb,7,none⟩ (.int .i64 M.b)).setCell ⟨pb,8,none⟩ (.slice M.s.A M.s.n M.s.c)=X at *;refine⟨rfl,_,results_none rfl _ _ _,M,rfl,rfl,HM.out.grown hg4 fun b hb=>?_,HP.out.rd.keep fun i hi=>hg4.block i ?_ ?_,hB4,HG.out.trans (.of_p hg4)⟩
 ·have hb':w.heap.size<=b:=hb;simp;omega
 ·have:=HP.out.rlt;omega
 ·simp;omega
def TPost (W:World) (rb pb:Nat) (m:CatM) (len:Int) (p:PR Mk) (e:Ending) (w':World):Prop :=
 match p with
 | .bad x=>e=.returned (.tuple #[.int .i64 (atOf x len),.bool false])∧Gr2 rb pb W w'
 | .ok k r st=>(r≠[]->e=.returned (.tuple #[.int .i64 (atOf r len),.bool false]))∧(r=[]->e=.returned (.tuple #[.int .i64 0,.bool true]))∧Gr2 rb pb W w'∧∃M:MkM,M.core=k∧M.Ok w' 49 (fun b=>W.heap.size<=b)∧Bk w' pb 142 (pCellsM rb m M st)
theorem caught_g1 (w:World) (g k:Nat) (u:Value):w.grownBy (w.setCell ⟨g,k,none⟩ u) (some g):=grown_setCell w g k u
theorem caught {w w1 w2:World} {p q rb pb:Nat} {x:Int} {b:Bool} (hp:Bk w1 p 3 [.int .i64 x]) (hq:Bk w1 q 4 [.bool b]) (hG:Gr2 rb pb w w1) (h1:w.heap.size<=p) (h2:w.heap.size<=q) (a:Int)
 (hw:w2=((w1.setCell ⟨p,0,none⟩ (.int .i64 a)).setCell ⟨q,0,none⟩ (.bool false)).alloc (.cells #[.int .i64 a] 178)) :
 w2.cell? ⟨p,0,none⟩=some (.int .i64 a)∧w2.cell? ⟨q,0,none⟩=some (.bool false)∧Gr2 rb pb w w2:=by
 have hne:p≠q:=by
  rintro rfl;unfold Bk at hp hq;rw[hp]at hq;cases hq
 subst hw;have k1:=((hp.set 0 (.int .i64 a)).far (p:=⟨q,0,none⟩) hne (.bool false)).alloc (.cells #[.int .i64 a] 178);have k2:=(((hq.far (p:=⟨p,0,none⟩) (Ne.symm hne) (.int .i64 a)).set 0 (.bool false))).alloc (.cells #[.int .i64 a] 178);exact⟨k1.cell 0,k2.cell 0,((hG.new (q:=⟨p,0,none⟩) h1 _).new (q:=⟨q,0,none⟩) h2 _).trans (.of_below ((Below.refl _ _).alloc (Nat.le_refl _) _))⟩
theorem enters73:∀(args:Array Value) (W:World),(callFunc 73 args).run Tryz.prog W=.ok (.enter 73 args) W:=enter_of Tryz.func73 (by kernel_rfl) rfl
theorem try_any {w:World} {rb pb bx:Nat} {m:CatM} {len:Int} {p:PR Mk} (hrl:rb<pb) (hpl:pb<w.heap.size)
 (hK:Hid (Calls Tryz.prog 73 #[.pointer (some ⟨bx,0,none⟩)] ((w.alloc (.cells #[.int .i64 0] 3)).alloc (.cells #[.bool false] 4)) (CPost ((w.alloc (.cells #[.int .i64 0] 3)).alloc (.cells #[.bool false] 4)) rb pb m len p))) :
 Calls Tryz.prog 72 #[.pointer (some ⟨rb,0,none⟩),.func (.func 73) #[] #[.pointer (some ⟨bx,0,none⟩)]] w (TPost w rb pb m len p):=by
 have hmf:=hmfN;have hq:=enters73;have y:Below w.heap.size w ((w.alloc (.cells #[.int .i64 0] 3)).alloc (.cells #[.bool false] 4)):=((Below.refl _ _).alloc (Nat.le_refl _) _).alloc (by simp) _;have BA:=iH ((Bk.new w 3 [.int .i64 0]).alloc (.cells #[.bool false] 4));have BO:Hid (Bk ((w.alloc (.cells #[.int .i64 0] 3)).alloc (.cells #[.bool false] 4)) (w.heap.size+1) 4 [.bool false]):=by
  have:=Bk.new (w.alloc (.cells #[.int .i64 0] 3)) 4 [.bool false];rw[World.size_alloc]at this;exact iH this
 have Y:=iH y;clear y
 go_enter_defers Tryz.func72,Tryz.ntmps72
 go_wp2_with fail;refine hK.out.mono ?_;intro e w1 hpost;clear hK;cases p with
 | bad x =>
   obtain⟨rfl,hg⟩:=hpost;have HG:=iH ((Gr2.of_below (r:=rb) (p:=pb) Y.out).trans hg);have BA1:=BA.out.gr2 hg (by omega) (by omega);have BO1:=BO.out.gr2 hg (by omega) (by omega);refine leaves_cons (f:=111) (args:=#[.pointer (some ⟨w.heap.size,0,none⟩),.pointer (some ⟨w.heap.size+1,0,none⟩)]) (by simp) (by simp[go_sem]) ?_;refine(catch_panicking w1 _ _ 0 (atOf x len) false [] BA1 BO1).mono ?_;rintro e u' w'' ⟨rfl,rfl,hw⟩;obtain⟨ca,co,hgx⟩:=caught BA1 BO1 HG.out (Nat.le_refl _) (Nat.le_succ _) (atOf x len) hw;simp[Leaves,settle,results,Tryz.results72,go_sem,ca,co];exact⟨rfl,hgx⟩
 | ok k r st =>
   obtain⟨M,rfl,rfl,hM,hR,hB,hg⟩:=hpost;have HG:=iH ((Gr2.of_below (r:=rb) (p:=pb) Y.out).trans hg);have BA1:=BA.out.gr2 hg (by omega) (by omega);have BO1:=BO.out.gr2 hg (by omega) (by omega);have hs1:=hg.size;rw[World.size_alloc,World.size_alloc]at hs1;have hM':=hM.mono (Q:=fun b=>w.heap.size<=b∧b≠w.heap.size∧b≠w.heap.size+1) fun b _ hb=>by
    rw[World.size_alloc,World.size_alloc]at hb;exact⟨by omega,by omega,by omega⟩
   obtain⟨A,c,hR1,hR2,hR3,hR4⟩:=hR;have c0:=hR1.k0;have hrl1:=hR1.lt;have HBA:=iH BA1;have HBO:=iH BO1;have HM:=iH hM';have HB:=iH hB;cases r with
   | nil =>
     have a0:=BA1.k0;have o0:=BO1.k0;have fa:=BA1.frozen 0;have fo:=BO1.frozen 0;have la:=BA1.lt;have lo:=BO1.lt;clear hM hM' hB hg BA1 BO1 hR1 hR2 hR3 hR4 BA BO;go_wp2;have hX:∃X,(w1.setCell ⟨w.heap.size,0,none⟩ (.int .i64 0)).setCell ⟨w.heap.size+1,0,none⟩ (.bool true)=X∧Bk X w.heap.size 3 [.int .i64 0]∧Bk X (w.heap.size+1) 4 [.bool true]∧Gr2 rb pb w X∧M.Ok X 49 (fun b=>w.heap.size<=b)∧Bk X pb 142 (pCellsM rb m M st) :=
      ⟨_,rfl,((HBA.out.set 0 (.int .i64 0)).far (p:=⟨w.heap.size+1,0,none⟩) (by simp) _),((HBO.out.far (p:=⟨w.heap.size,0,none⟩) (by simp) _).set 0 (.bool true)),(HG.out.new (q:=⟨w.heap.size,0,none⟩) (Nat.le_refl _) _).new (q:=⟨w.heap.size+1,0,none⟩) (Nat.le_succ _) _,
       ((HM.out.grown (caught_g1 _ _ _ _) fun b hb=>by simp;exact hb.2.1).grown (caught_g1 _ _ _ _) fun b hb=>by simp;exact hb.2.2).mono fun b _ hb=>hb.1,((HB.out.far (p:=⟨w.heap.size,0,none⟩) (by simp;omega) _).far (p:=⟨w.heap.size+1,0,none⟩) (by simp;omega) _)⟩
     obtain⟨X,hXe,x1,x2,x3,x4,x5⟩:=hX;rw[hXe];refine leaves_cons (f:=111) (args:=#[.pointer (some ⟨w.heap.size,0,none⟩),.pointer (some ⟨w.heap.size+1,0,none⟩)]) (by simp) (by simp[go_sem]) ?_;refine(catch_idle X _ _).mono ?_;rintro e u' w'' ⟨rfl,rfl,hw⟩;have yx:Below X.heap.size X w'':=by rw[hw];exact(Below.refl _ _).alloc (Nat.le_refl _) _
     have ca:=(x1.below yx x1.lt).k0;have co:=(x2.below yx x2.lt).k0;clear hXe;simp[Leaves,settle,results,Tryz.results72,go_sem,ca,co];exact And.intro (fun h=>absurd rfl h) (And.intro (fun _=>rfl) ⟨x3.trans (.of_below yx),M,rfl,x4.bel yx,x5.below yx x5.lt⟩)
   | cons t r2 =>
     have KF:=iH (fail_any ⟨A,c,hR1,hR2,hR3,hR4⟩);have hlen:(t :: r2).length=r2.length+1:=rfl;rw[hlen]at c0;generalize r2.length=n2 at c0;clear hM hM' hB hg BA1 BO1 hR1 hR2 hR3 hR4 BA BO hlen;go_wp2_with fail;refine KF.out.mono ?_;rintro e w2 ⟨rfl,rfl⟩;refine leaves_cons (f:=111) (args:=#[.pointer (some ⟨w.heap.size,0,none⟩),.pointer (some ⟨w.heap.size+1,0,none⟩)]) (by simp) (by simp[go_sem]) ?_;refine(catch_panicking w2 _ _ 0 (atOf (t :: r2) len) false [] HBA.out HBO.out).mono ?_;rintro e u' w'' ⟨rfl,rfl,hw⟩;obtain⟨ca,co,hgx⟩:=caught HBA.out HBO.out HG.out (Nat.le_refl _) (Nat.le_succ _) (atOf (t :: r2) len) hw;simp[Leaves,settle,results,Tryz.results72,go_sem,ca,co];refine And.intro (fun _=>rfl) (And.intro (fun h=>absurd h (by simp)) ⟨hgx,M,rfl,?_,?_⟩)
     ·rw[hw];exact((HM.out.grown (caught_g1 _ _ _ _) fun b hb=>by simp;exact hb.2.1).grown (caught_g1 _ _ _ _) fun b hb=>by simp;exact hb.2.2).bel ((Below.refl _ _).alloc (Nat.le_refl _) _) |>.mono fun b _ hb=>hb.1
     ·rw[hw];exact((HB.out.far (p:=⟨w.heap.size,0,none⟩) (by simp;omega) _).far (p:=⟨w.heap.size+1,0,none⟩) (by simp;omega) _).alloc _
def parseAll (m:CatM) (s:ByteArray):PAns:=match badTok (toks s)with
 | some t=>.err t.at_ t.err
 | none=>parseA kindNs (m.rules.map RuM.name) (m.items.map It.name) s.size (toks s)
def ParseQ (w:World) (ans:PAns) (e:Ending) (w':World):Prop :=
 match ans with
 | .err a c=>e=.returned (.tuple #[.agg #[.string ⟨#[]⟩,.int .i64 0,.int .i64 0,.slice none 0 0],.int .i64 a,.int .i64 c])∧Below w.heap.size w w'
 | .mark k=>∃M:MkM,e=.returned (.tuple #[.agg #[.string M.op,.int .i64 M.a,.int .i64 M.b,.slice M.s.A M.s.n M.s.c],.int .i64 0,.int .i64 0])∧M.core=k∧M.Ok w' 49 (fun b=>w.heap.size<=b)∧Below w.heap.size w w'
theorem parseA_eq (kn rn it:List ByteArray) (len:Int) (ts:List Tok):parseA kn rn it len ts=match joinP kn rn it (5*ts.length+5) true ts (0,0)with
 | .bad r=>.err (atOf r len) 2
 | .ok k r st=>if r≠[] then .err (atOf r len) 2 else if st.1≠0 then .err st.2 st.1 else if 64<k.size∨16<k.depth then .err 0 4 else .mark k:=by
 unfold parseA;cases joinP kn rn it (5*ts.length+5) true ts (0,0)with
 | bad r=>cases r <;> rfl
 | ok k r st=>cases r <;> rfl
theorem parse_any {w : World} {m : CatM} (s : ByteArray) (hs : s.size <= 8192) (hT : Tab w) (hi : ItsV w m.si m.items) (hr : RulesV w m.sr m.rules) :
 Calls Tryz.prog 42 #[.agg #[.slice m.si.A m.si.n m.si.c,.slice m.sr.A m.sr.n m.sr.c,.slice m.st.A m.st.n m.st.c,.slice m.sx.A m.sx.n m.sx.c],.string s] w (ParseQ w (parseAll m s)):=by
 have hmf:=hmfN;have y:Below w.heap.size w ((w.alloc (.cells #[.slice m.si.A m.si.n m.si.c,.slice m.sr.A m.sr.n m.sr.c,.slice m.st.A m.st.n m.st.c,.slice m.sx.A m.sx.n m.sx.c] 28)).alloc (.cells #[.string ⟨#[]⟩,.int .i64 0,.int .i64 0,.slice none 0 0] 49)):=((Below.refl _ _).alloc (Nat.le_refl _) _).alloc (by simp) _;have B2:=iH ((Bk.new w 28 [.slice m.si.A m.si.n m.si.c,.slice m.sr.A m.sr.n m.sr.c,.slice m.st.A m.st.n m.st.c,.slice m.sx.A m.sx.n m.sx.c]).alloc (.cells #[.string ⟨#[]⟩,.int .i64 0,.int .i64 0,.slice none 0 0] 49));have B4:Hid (Bk ((w.alloc (.cells #[.slice m.si.A m.si.n m.si.c,.slice m.sr.A m.sr.n m.sr.c,.slice m.st.A m.st.n m.st.c,.slice m.sx.A m.sx.n m.sx.c] 28)).alloc (.cells #[.string ⟨#[]⟩,.int .i64 0,.int .i64 0,.slice none 0 0] 49)) (w.heap.size+1) 49 [.string ⟨#[]⟩,.int .i64 0,.int .i64 0,.slice none 0 0]):=by
  have:=Bk.new (w.alloc (.cells #[.slice m.si.A m.si.n m.si.c,.slice m.sr.A m.sr.n m.sr.c,.slice m.st.A m.st.n m.st.c,.slice m.sx.A m.sx.n m.sx.c] 28)) 49 [.string ⟨#[]⟩,.int .i64 0,.int .i64 0,.slice none 0 0];rw[World.size_alloc]at this;exact iH this
 have KN:=iH (newR_any s hs ((w.alloc (.cells #[.slice m.si.A m.si.n m.si.c,.slice m.sr.A m.sr.n m.sr.c,.slice m.st.A m.st.n m.st.c,.slice m.sx.A m.sx.n m.sx.c] 28)).alloc (.cells #[.string ⟨#[]⟩,.int .i64 0,.int .i64 0,.slice none 0 0] 49)) (hT.below y hT.1));have Y:=iH y;have HI:=iH (hi.below y);have HR:=iH (hr.below y);clear y hi hr;go_enter Tryz.func42,Tryz.ntmps42;go_wp2_with fail;refine KN.out.mono ?_;intro e w1 hp;clear KN;unfold NewR at hp;cases hbt:badTok (toks s)with
 | some t =>
   rw[hbt]at hp;obtain⟨rfl,hne,hb⟩:=hp;have HQ:Hid (parseAll m s=.err t.at_ t.err):=by show _=_;unfold parseAll;rw[hbt]
   have B41:=B4.out.below hb B4.out.lt;have HB:=iH B41;have Y1:=iH (Y.out.trans (hb.mono Y.out.size));have hne':¬ t.err=0:=hne;have⟨z0,z1,z2,z3,_⟩:=B41.p4;have fz0:=B41.frozen 0;have fz1:=B41.frozen 1;have fz2:=B41.frozen 2;have fz3:=B41.frozen 3;have hzl:=B41.lt;clear hbt hne hb B41 B2 B4 HI HR Y;go_wp2;have HX:=four_laid HB.out (.string ⟨#[]⟩) (.int .i64 0) (.int .i64 0) (.slice none 0 0);have YX:=four_below (w:=w1) (B:=w.heap.size) (g:=w.heap.size+1) (by omega) (.string ⟨#[]⟩) (.int .i64 0) (.int .i64 0) (.slice none 0 0);generalize(((w1.setCell ⟨w.heap.size+1,0,none⟩ (.string ⟨#[]⟩)).setCell ⟨w.heap.size+1,1,none⟩ (.int .i64 0)).setCell ⟨w.heap.size+1,2,none⟩ (.int .i64 0)).setCell ⟨w.heap.size+1,3,none⟩ (.slice none 0 0)=X at *;have⟨x0,x1,x2,x3,_⟩:=HX.p4;refine bodyPost_ret (v:=.tuple #[.agg #[.string ⟨#[]⟩,.int .i64 0,.int .i64 0,.slice none 0 0],.int .i64 t.at_,.int .i64 t.err]) (by simp[results,Tryz.results42,go_sem,x0,x1,x2,x3]) rfl ?_;rw[HQ.out];exact⟨rfl,Y1.out.trans YX⟩
 | none =>
   rw[hbt]at hp;obtain⟨rb,rfl,hrd,hrb,hb,htk⟩:=hp;have HP0:Hid (parseAll m s=parseA kindNs (m.rules.map RuM.name) (m.items.map It.name) s.size (toks s)):=by show _=_;unfold parseAll;rw[hbt]
   rw[parseA_eq]at HP0;have hrl:=hrd.lt;have Y1:=iH (Y.out.trans (hb.mono Y.out.size));have hsW:(w.heap.size+1)+1<=rb:=by rw[World.size_alloc,World.size_alloc]at hrb;omega
   have HB2:=iH (B2.out.below hb B2.out.lt);have HB4:=iH (B4.out.below hb B4.out.lt);have HI1:=iH (HI.out.below hb);have HR1:=iH (HR.out.below hb);have⟨c20,c21,c22,c23,hl2⟩:=HB2.out.p4;have y2:Below w1.heap.size w1 ((w1.alloc (.cells #[.pointer (some ⟨rb,0,none⟩),.slice m.si.A m.si.n m.si.c,.slice m.sr.A m.sr.n m.sr.c,.slice m.st.A m.st.n m.st.c,.slice m.sx.A m.sx.n m.sx.c,.string ⟨#[]⟩,.int .i64 0,.int .i64 0,.slice none 0 0,.int .i64 0,.int .i64 0] 142)).alloc (.cells #[.pointer (some ⟨w1.heap.size,0,none⟩)] 140)):=((Below.refl _ _).alloc (Nat.le_refl _) _).alloc (by simp) _;have HPA:Hid (PAt ((w1.alloc (.cells #[.pointer (some ⟨rb,0,none⟩),.slice m.si.A m.si.n m.si.c,.slice m.sr.A m.sr.n m.sr.c,.slice m.st.A m.st.n m.st.c,.slice m.sx.A m.sx.n m.sx.c,.string ⟨#[]⟩,.int .i64 0,.int .i64 0,.slice none 0 0,.int .i64 0,.int .i64 0] 142)).alloc (.cells #[.pointer (some ⟨w1.heap.size,0,none⟩)] 140)) rb w1.heap.size m (toks s) s.size (0,0)) :=
    iH ⟨hrd.below y2,(Bk.new w1 142 (pCells rb m (0,0))).alloc _,HI1.out.below y2,HR1.out.below y2,hrl,htk⟩
   have HBx:Hid (Bk ((w1.alloc (.cells #[.pointer (some ⟨rb,0,none⟩),.slice m.si.A m.si.n m.si.c,.slice m.sr.A m.sr.n m.sr.c,.slice m.st.A m.st.n m.st.c,.slice m.sx.A m.sx.n m.sx.c,.string ⟨#[]⟩,.int .i64 0,.int .i64 0,.slice none 0 0,.int .i64 0,.int .i64 0] 142)).alloc (.cells #[.pointer (some ⟨w1.heap.size,0,none⟩)] 140)) (w1.heap.size+1) 140 [.pointer (some ⟨w1.heap.size,0,none⟩)]):=by
    have:=Bk.new (w1.alloc (.cells #[.pointer (some ⟨rb,0,none⟩),.slice m.si.A m.si.n m.si.c,.slice m.sr.A m.sr.n m.sr.c,.slice m.st.A m.st.n m.st.c,.slice m.sx.A m.sx.n m.sx.c,.string ⟨#[]⟩,.int .i64 0,.int .i64 0,.slice none 0 0,.int .i64 0,.int .i64 0] 142)) 140 [.pointer (some ⟨w1.heap.size,0,none⟩)];rw[World.size_alloc]at this;exact iH this
   have HY2:=iH y2;have hs2:((w1.alloc (.cells #[.pointer (some ⟨rb,0,none⟩),.slice m.si.A m.si.n m.si.c,.slice m.sr.A m.sr.n m.sr.c,.slice m.st.A m.st.n m.st.c,.slice m.sx.A m.sx.n m.sx.c,.string ⟨#[]⟩,.int .i64 0,.int .i64 0,.slice none 0 0,.int .i64 0,.int .i64 0] 142)).alloc (.cells #[.pointer (some ⟨w1.heap.size,0,none⟩)] 140)).heap.size=w1.heap.size+1+1:=by simp
   have HS2:=iH hs2;clear hbt hb htk hrd B2 B4 HI HR y2 hs2 HI1 HR1 Y;generalize toks s=ts at *;have hzr:(⟨#[]⟩:ByteArray)=⟨#[]⟩:=rfl;go_wp2_with fail;generalize hpb:w1.heap.size=pb at *;generalize hVe:(w1.alloc (.cells #[.pointer (some ⟨rb,0,none⟩),.slice m.si.A m.si.n m.si.c,.slice m.sr.A m.sr.n m.sr.c,.slice m.st.A m.st.n m.st.c,.slice m.sx.A m.sx.n m.sx.c,.string ⟨#[]⟩,.int .i64 0,.int .i64 0,.slice none 0 0,.int .i64 0,.int .i64 0] 142)).alloc (.cells #[.pointer (some ⟨pb,0,none⟩)] 140)=V at *;have yat:Below V.heap.size V ((V.alloc (.cells #[.int .i64 0] 3)).alloc (.cells #[.bool false] 4)):=((Below.refl _ _).alloc (Nat.le_refl _) _).alloc (by simp) _;have hsV:=HS2.out;have KT:=try_any (w:=V) (bx:=pb+1) (m:=m) (len:=s.size) (p:=jP m (5*ts.length+5) true ts (0,0)) hrl (by omega)
    (iH (clos_any (HPA.out.below yat) (HBx.out.below yat (by omega)) (by omega) (by omega) (read_all m s.size rb pb (5*ts.length+5) _ ts (0,0) ((HPA.out.below yat).below (Below.refl _ _).drew) (Nat.le_refl _))))
   refine KT.mono ?_;intro e w3 hp;clear KT yat;have HBV:=iH (HB4.out.below HY2.out (by have:=HB4.out.lt;omega));have HCV:=iH (HB2.out.below HY2.out (by have:=HB2.out.lt;omega));have YV:=iH (Y1.out.trans (HY2.out.mono (by have:=Y1.out.size;omega)));clear HB4 HB2 Y1 HY2 HPA c20 c21 c22 c23 hl2;generalize hjp:jP m (5*ts.length+5) true ts (0,0)=p at *;cases p with
   | bad x =>
     obtain⟨rfl,hg⟩:=hp;have HQ:Hid (parseAll m s=.err (atOf x s.size) 2):=by show _=_;rw[HP0.out];show(match jP m (5*ts.length+5) true ts (0,0)with | .bad r=>_ | .ok k r st=>_)=_;rw[hjp]
     have BR3:=HBV.out.gr2 hg (by omega) (by omega);have HB:=iH BR3;have Y3:=iH (hg.below YV.out (by omega) (by omega) YV.out.size);have⟨z0,z1,z2,z3,_⟩:=BR3.p4;have fz0:=BR3.frozen 0;have fz1:=BR3.frozen 1;have fz2:=BR3.frozen 2;have fz3:=BR3.frozen 3;have hzl:=BR3.lt;clear hjp hg BR3 HBV HCV;go_wp2;have HX:=four_laid HB.out (.string ⟨#[]⟩) (.int .i64 0) (.int .i64 0) (.slice none 0 0);have YX:=four_below (w:=w3) (B:=w.heap.size) (g:=w.heap.size+1) (by omega) (.string ⟨#[]⟩) (.int .i64 0) (.int .i64 0) (.slice none 0 0);generalize(((w3.setCell ⟨w.heap.size+1,0,none⟩ (.string ⟨#[]⟩)).setCell ⟨w.heap.size+1,1,none⟩ (.int .i64 0)).setCell ⟨w.heap.size+1,2,none⟩ (.int .i64 0)).setCell ⟨w.heap.size+1,3,none⟩ (.slice none 0 0)=X at *;have⟨x0,x1,x2,x3,_⟩:=HX.p4;refine bodyPost_ret (v:=.tuple #[.agg #[.string ⟨#[]⟩,.int .i64 0,.int .i64 0,.slice none 0 0],.int .i64 (atOf x s.size),.int .i64 2]) (by simp[results,Tryz.results42,go_sem,x0,x1,x2,x3]) rfl ?_;rw[HQ.out];exact⟨rfl,Y3.out.trans YX⟩
   | ok k r st =>
     obtain⟨h1,h2,hg,M,hMc,hMo,hB⟩:=hp;have HMc:=iH hMc;clear hMc;have BR3:=HBV.out.gr2 hg (by omega) (by omega);have HC3:=iH (HCV.out.gr2 hg (by omega) (by omega));have HX3:=iH (HBx.out.gr2 hg (by omega) (by omega));have HRs:=iH BR3;have HB:=iH hB;have Y3:=iH (hg.below YV.out (by omega) (by omega) YV.out.size);have HM:=iH ((hMo.mono (Q:=fun b=>w.heap.size<=b∧b≠w.heap.size+1) fun b _ hb=>⟨by omega,by omega⟩));have HJ:Hid (parseAll m s=if r≠[] then .err (atOf r s.size) 2 else if st.1≠0 then .err st.2 st.1 else if 64<k.size∨16<k.depth then .err 0 4 else .mark k):=by
      show _=_;rw[HP0.out];show(match jP m (5*ts.length+5) true ts (0,0)with | .bad r=>_ | .ok k r st=>_)=_;rw[hjp]
     by_cases hr0:r=[]
     ·rw [h2 hr0];have HJ2:Hid (parseAll m s=if st.1≠0 then .err st.2 st.1 else if 64<k.size∨16<k.depth then .err 0 4 else .mark k):=by show _=_;rw[HJ.out,if_neg (by simp[hr0])]
      have x0:=HX3.out.k0;have xl:=HX3.out.lt;have b10:w3.cell? ⟨pb,10,none⟩=some (.int .i64 st.1):=HB.out.cell 10;have b9:w3.cell? ⟨pb,9,none⟩=some (.int .i64 st.2):=HB.out.cell 9;have bl:=HB.out.lt;clear HJ h1 h2 hr0 hjp hg HBV HCV HBx HP0 hMo hB;obtain⟨s1,s2⟩:=st;dsimp only at *;by_cases hst:s1=0
      ·have HJ3:Hid (parseAll m s=if 64<k.size∨16<k.depth then .err 0 4 else .mark k):=by show _=_;rw[HJ2.out,if_neg (by simp[hst])]
       subst hst;have KV:=iH (valid_any m.si m.sr m.st m.sx M w3.drew _ HM.out.drew);clear HJ2;go_wp2_with fail;have B0:Below w3.heap.size w3 w3:=Below.refl _ _;have HC:Hid (∀U,Below w3.heap.size w3 U->U.cell? ⟨w.heap.size,0,none⟩=some (.slice m.si.A m.si.n m.si.c)∧U.cell? ⟨w.heap.size,1,none⟩=some (.slice m.sr.A m.sr.n m.sr.c)∧U.cell? ⟨w.heap.size,2,none⟩=some (.slice m.st.A m.st.n m.st.c)∧U.cell? ⟨w.heap.size,3,none⟩=some (.slice m.sx.A m.sx.n m.sx.c)∧U.cell? ⟨pb+1,0,none⟩=some (.pointer (some ⟨pb,0,none⟩))∧U.cell? ⟨pb,5,none⟩=some (.string M.op)∧U.cell? ⟨pb,6,none⟩=some (.int .i64 M.a)∧U.cell? ⟨pb,7,none⟩=some (.int .i64 M.b)∧U.cell? ⟨pb,8,none⟩=some (.slice M.s.A M.s.n M.s.c)):=iH fun U hU =>
        ⟨(HC3.out.below hU HC3.out.lt).cell 0,(HC3.out.below hU HC3.out.lt).cell 1,(HC3.out.below hU HC3.out.lt).cell 2,(HC3.out.below hU HC3.out.lt).cell 3,(HX3.out.below hU HX3.out.lt).cell 0,(HB.out.below hU HB.out.lt).cell 5,(HB.out.below hU HB.out.lt).cell 6,(HB.out.below hU HB.out.lt).cell 7,(HB.out.below hU HB.out.lt).cell 8⟩
       go_region_held3 (fun U=>U.cell? ⟨w.heap.size,0,none⟩=some (.slice m.si.A m.si.n m.si.c)∧U.cell? ⟨w.heap.size,1,none⟩=some (.slice m.sr.A m.sr.n m.sr.c)∧U.cell? ⟨w.heap.size,2,none⟩=some (.slice m.st.A m.st.n m.st.c)∧U.cell? ⟨w.heap.size,3,none⟩=some (.slice m.sx.A m.sx.n m.sx.c)∧U.cell? ⟨pb+1,0,none⟩=some (.pointer (some ⟨pb,0,none⟩))∧U.cell? ⟨pb,5,none⟩=some (.string M.op)∧U.cell? ⟨pb,6,none⟩=some (.int .i64 M.a)∧U.cell? ⟨pb,7,none⟩=some (.int .i64 M.b)∧U.cell? ⟨pb,8,none⟩=some (.slice M.s.A M.s.n M.s.c)) (first | exact HC.out _ B0.drew | exact HC.out _ yd)
        (first
         | (go_at_call 20;(with_reducible refine KV.out.mono ?_);rintro e w4 ⟨rfl,hb4⟩;have yd:Below w3.heap.size w3 w4:=(Below.refl _ _).drew.trans hb4))
       have HC4:=iH (HC3.out.below yd HC3.out.lt);have HX4:=iH (HX3.out.below yd HX3.out.lt);have HB44:=iH (HB.out.below yd HB.out.lt);have BR4:=BR3.below yd BR3.lt;have HM4:=iH (HM.out.bel yd);have Y4:=iH (Y3.out.trans (yd.mono Y3.out.size));clear KV hb4 yd HC B0;by_cases hv:validM m.si.n m.sr.n M.core=4
       ·have HQ:Hid (parseAll m s=.err 0 4):=by
         have:=(valid_4 m.si.n m.sr.n M.core).1 hv;rw[HMc.out]at this;show _=_;rw[HJ3.out,if_pos this]
        clear HJ3;have⟨z0,z1,z2,z3,_⟩:=BR4.p4;have fz0:=BR4.frozen 0;have fz1:=BR4.frozen 1;have fz2:=BR4.frozen 2;have fz3:=BR4.frozen 3;have hzl:=BR4.lt;have hBR:=iH BR4;rw[hv];clear BR4 BR3 HC3 HX3 HB HM HC4 HX4 HB44 HM4 hv;go_wp2;have HX:=four_laid hBR.out (.string ⟨#[]⟩) (.int .i64 0) (.int .i64 0) (.slice none 0 0);have YX:=four_below (w:=w4) (B:=w.heap.size) (g:=w.heap.size+1) (by omega) (.string ⟨#[]⟩) (.int .i64 0) (.int .i64 0) (.slice none 0 0);generalize(((w4.setCell ⟨w.heap.size+1,0,none⟩ (.string ⟨#[]⟩)).setCell ⟨w.heap.size+1,1,none⟩ (.int .i64 0)).setCell ⟨w.heap.size+1,2,none⟩ (.int .i64 0)).setCell ⟨w.heap.size+1,3,none⟩ (.slice none 0 0)=X at *;have⟨x0,x1,x2,x3,_⟩:=HX.p4;refine bodyPost_ret (v:=.tuple #[.agg #[.string ⟨#[]⟩,.int .i64 0,.int .i64 0,.slice none 0 0],.int .i64 0,.int .i64 4]) (by simp[results,Tryz.results42,go_sem,x0,x1,x2,x3]) rfl ?_;rw[HQ.out];exact⟨rfl,Y4.out.trans YX⟩
       ·have HQ:Hid (parseAll m s=.mark k):=by
         have:¬ (64<k.size∨16<k.depth):=fun h=>hv ((valid_4 m.si.n m.sr.n M.core).2 (by rw[HMc.out];exact h))
         show _=_;rw[HJ3.out,if_neg this]
        clear HJ3;have⟨z0,z1,z2,z3,_⟩:=BR4.p4;have fz0:=BR4.frozen 0;have fz1:=BR4.frozen 1;have fz2:=BR4.frozen 2;have fz3:=BR4.frozen 3;have hzl:=BR4.lt;have hBR:=iH BR4;have e0:=HX4.out.k0;have el:=HX4.out.lt;have e5:=HB44.out.k5;have e6:=HB44.out.k6;have e7:=HB44.out.k7;have e8:=HB44.out.k8;have el2:=HB44.out.lt;have hv':(validM m.si.n m.sr.n M.core == 4)=false:=by simpa using hv
        clear BR4 BR3 HC3 HX3 HB HM HC4 HX4 HB44 hv;generalize validM m.si.n m.sr.n M.core=vv at *;go_wp2;have hMX:=HM4.out.grown (four_self w4 (w.heap.size+1) (.string M.op) (.int .i64 M.a) (.int .i64 M.b) (.slice M.s.A M.s.n M.s.c)) fun b hb=>by simp;exact hb.2
        have HX:=four_laid hBR.out (.string M.op) (.int .i64 M.a) (.int .i64 M.b) (.slice M.s.A M.s.n M.s.c);have YX:=four_below (w:=w4) (B:=w.heap.size) (g:=w.heap.size+1) (by omega) (.string M.op) (.int .i64 M.a) (.int .i64 M.b) (.slice M.s.A M.s.n M.s.c);generalize(((w4.setCell ⟨w.heap.size+1,0,none⟩ (.string M.op)).setCell ⟨w.heap.size+1,1,none⟩ (.int .i64 M.a)).setCell ⟨w.heap.size+1,2,none⟩ (.int .i64 M.b)).setCell ⟨w.heap.size+1,3,none⟩ (.slice M.s.A M.s.n M.s.c)=X at *;have⟨x0,x1,x2,x3,_⟩:=HX.p4;refine bodyPost_ret (v:=.tuple #[.agg #[.string M.op,.int .i64 M.a,.int .i64 M.b,.slice M.s.A M.s.n M.s.c],.int .i64 0,.int .i64 0]) (by simp[results,Tryz.results42,go_sem,x0,x1,x2,x3]) rfl ?_;rw[HQ.out];exact⟨M,rfl,HMc.out,hMX.mono fun b _ hb=>hb.1,Y4.out.trans YX⟩
      ·have HQ:Hid (parseAll m s=.err s2 s1):=by show _=_;rw[HJ2.out,if_pos hst]
       clear HJ2;have⟨z0,z1,z2,z3,_⟩:=BR3.p4;have fz0:=BR3.frozen 0;have fz1:=BR3.frozen 1;have fz2:=BR3.frozen 2;have fz3:=BR3.frozen 3;have hzl:=BR3.lt;clear BR3 HC3 HX3 HB HM;go_wp2
       go_region
       all_goals go_wp2
       have HX:=four_laid HRs.out (.string ⟨#[]⟩) (.int .i64 0) (.int .i64 0) (.slice none 0 0);have YX:=four_below (w:=w3) (B:=w.heap.size) (g:=w.heap.size+1) (by omega) (.string ⟨#[]⟩) (.int .i64 0) (.int .i64 0) (.slice none 0 0);generalize(((w3.setCell ⟨w.heap.size+1,0,none⟩ (.string ⟨#[]⟩)).setCell ⟨w.heap.size+1,1,none⟩ (.int .i64 0)).setCell ⟨w.heap.size+1,2,none⟩ (.int .i64 0)).setCell ⟨w.heap.size+1,3,none⟩ (.slice none 0 0)=X at *;have⟨x0,x1,x2,x3,_⟩:=HX.p4;refine bodyPost_ret (v:=.tuple #[.agg #[.string ⟨#[]⟩,.int .i64 0,.int .i64 0,.slice none 0 0],.int .i64 s2,.int .i64 s1]) (by simp[results,Tryz.results42,go_sem,x0,x1,x2,x3]) rfl ?_;rw[HQ.out];exact⟨rfl,(Y3.out.trans YX).drew⟩
     ·rw[h1 hr0];have HQ:Hid (parseAll m s=.err (atOf r s.size) 2):=by show _=_;rw[HJ.out,if_pos hr0]
      have HB':=HRs;have⟨z0,z1,z2,z3,_⟩:=BR3.p4;have fz0:=BR3.frozen 0;have fz1:=BR3.frozen 1;have fz2:=BR3.frozen 2;have fz3:=BR3.frozen 3;have hzl:=BR3.lt;clear HJ h1 h2 hr0 hjp hg BR3 HBV HCV HC3 HX3 HB HM HBx HP0 hMo hB;go_wp2;have HX:=four_laid HRs.out (.string ⟨#[]⟩) (.int .i64 0) (.int .i64 0) (.slice none 0 0);have YX:=four_below (w:=w3) (B:=w.heap.size) (g:=w.heap.size+1) (by omega) (.string ⟨#[]⟩) (.int .i64 0) (.int .i64 0) (.slice none 0 0);generalize(((w3.setCell ⟨w.heap.size+1,0,none⟩ (.string ⟨#[]⟩)).setCell ⟨w.heap.size+1,1,none⟩ (.int .i64 0)).setCell ⟨w.heap.size+1,2,none⟩ (.int .i64 0)).setCell ⟨w.heap.size+1,3,none⟩ (.slice none 0 0)=X at *;have⟨x0,x1,x2,x3,_⟩:=HX.p4;refine bodyPost_ret (v:=.tuple #[.agg #[.string ⟨#[]⟩,.int .i64 0,.int .i64 0,.slice none 0 0],.int .i64 (atOf r s.size),.int .i64 2]) (by simp[results,Tryz.results42,go_sem,x0,x1,x2,x3]) rfl ?_;rw[HQ.out];exact⟨rfl,Y3.out.trans YX⟩
end Go.Proofs.YtocodlpgaamblaaGreatDoor
