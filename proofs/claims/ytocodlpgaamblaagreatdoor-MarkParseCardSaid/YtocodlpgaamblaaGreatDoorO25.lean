/- The reference's text of any valid mark, Print. MarkParse: the walk. The arguments opened, the table of kinds. What a row's end wants: the tables, a world for the witness, five and six parameters opened and shut. -/
import Derived.Test.YtocodlpgaamblaaGreatDoorO1
import Derived.Test.YtocodlpgaamblaaGreatDoorO15
import Derived.Test.YtocodlpgaamblaaGreatDoorO17
import Derived.Test.YtocodlpgaamblaaGreatDoorO20
import Derived.Test.YtocodlpgaamblaaGreatDoorO21
import Derived.Test.YtocodlpgaamblaaGreatDoorO23
import Derived.Test.YtocodlpgaamblaaGreatDoorO24
import Derived.RegionTactic
import Derived.StillTailTactics
import Derived.BigQuiet
import Derived.OrdersHeld
import Derived.Deep.MidRow
import Derived.Test.YtocodlpgaamblaaGreatDoorCards
import Derived.Test.YtocodlpgaamblaaGreatDoorTie
import Derived.WalkKit
import Derived.ProofKit
import Derived.OpenShut
import Derived.Deep.DeepHandedRow
import Derived.Lib.LaidTab
import Derived.LaidSub
set_option linter.unusedVariables false
set_option linter.unusedSimpArgs false
set_option maxRecDepth 100000
set_option maxHeartbeats 8000000
open Go.RowKit
namespace Go.Proofs.YtocodlpgaamblaaGreatDoor
def TextS (m:CatM) (M:MkM):Prop:=∀(w:World) (P:Nat->Prop),M.Ok w 35 P->ItsV w m.si m.items->RulesV w m.sr m.rules->M.core.check m.si.n m.sr.n=0->(Mk.text (m.rules.map RuM.name) (m.items.map It.name) M.core).length<=1000000 ->
 Calls Tryz.prog 39 #[.agg #[.slice m.si.A m.si.n m.si.c,.slice m.sr.A m.sr.n m.sr.c,.slice m.st.A m.st.n m.st.c,.slice m.sx.A m.sx.n m.sx.c],.agg #[.string M.op,.int .i64 M.a,.int .i64 M.b,.slice M.s.A M.s.n M.s.c]] w fun e w'=>e=.returned (.string ⟨(Mk.text (m.rules.map RuM.name) (m.items.map It.name) M.core).toArray⟩)∧Below w.heap.size w w'
theorem rtext_any (m:CatM):∀M:MkM,TextS m M:=by
 intro M
 induction M using MkM.ind with
 | h M ih =>
   intro w P h hi hr hc hlen;obtain⟨op,a,b,l,⟨A,n,c⟩⟩:=M;have hl:=h.len;have ha:=h.ha;have hb:=h.hb;dsimp only at hl ih ha hb;have hcn:=check_node (op:=op) (a:=a) (b:=b) (ks:=MkM.coreL l) hc;rw[coreL_len,<- hl]at hcn;have hcore:MkM.core ⟨op,a,b,l,⟨A,n,c⟩⟩=.node op a b (l.map MkM.core):=by simp[MkM.core,coreL_map]
   rw[hcore]at hlen⊢;dsimp only;have hcm:∀t∈l,t.core.check m.si.n m.sr.n=0:=fun t ht=>hcn.2 _ (by rw[coreL_map];exact List.mem_map_of_mem ht)
   have hkid:∀o:ByteArray,(Mk.textL (m.rules.map RuM.name) (m.items.map It.name) o true (l.map MkM.core)).length<=1000000->∀t∈l,∀U,Below w.heap.size w U->Calls Tryz.prog 39 #[.agg #[.slice m.si.A m.si.n m.si.c,.slice m.sr.A m.sr.n m.sr.c,.slice m.st.A m.st.n m.st.c,.slice m.sx.A m.sx.n m.sx.c],.agg #[.string t.op,.int .i64 t.a,.int .i64 t.b,.slice t.s.A t.s.n t.s.c]] U fun e w'=>e=.returned (.string ⟨(Mk.text (m.rules.map RuM.name) (m.items.map It.name) t.core).toArray⟩)∧Below U.heap.size U w':=by
    intro o ho t ht U hU;have h1:=kid_bound (rn:=m.rules.map RuM.name) (it:=m.items.map It.name) (o:=o) (f:=true) (List.mem_map_of_mem (f:=MkM.core) ht);have h2:(Mk.text (m.rules.map RuM.name) (m.items.map It.name) t.core).length<=(wrapT (parT o t.core.op) (Mk.text (m.rules.map RuM.name) (m.items.map It.name) t.core)).length:=by
     cases parT o t.core.op <;> simp[wrapT]
     try omega
    exact ih t ht U P ((h.bel hU).each t ht) (hi.below hU) (hr.below hU) (hcm t ht) (by omega)
   by_cases h1:op=sAnd∨op=sOr
   ·have e:Mk.text (m.rules.map RuM.name) (m.items.map It.name) (.node op a b (l.map MkM.core))=Mk.textL (m.rules.map RuM.name) (m.items.map It.name) op true (l.map MkM.core):=by
     rw[Mk.text,if_pos h1]
    rw[e]at hlen⊢;exact rtext_joined h1 (hkid op hlen) h ha hlen
   by_cases h2:op=sNot
   ·subst h2;have e:Mk.text (m.rules.map RuM.name) (m.items.map It.name) (.node sNot a b (l.map MkM.core))=[110,111,116,32] ++ Mk.textL (m.rules.map RuM.name) (m.items.map It.name) sNot true (l.map MkM.core):=by
     rw[Mk.text,if_neg h1,if_pos rfl]
    rw[e]at hlen⊢;have hn1:n=1:=alone_not hcn.1;exact rtext_not hn1 (hkid sNot (by simp only[List.length_append]at hlen;omega)) h ha hlen
   have e:Mk.text (m.rules.map RuM.name) (m.items.map It.name) (.node op a b (l.map MkM.core))=condT (m.rules.map RuM.name) (m.items.map It.name) op a b:=by
    rw[Mk.text,if_neg h1,if_neg h2]
   rw[e];obtain⟨h0,hz,hn,hrg⟩:=alone_cond hcn.1 (fun k=>h1 (.inl k)) (fun k=>h1 (.inr k)) h2;subst hz;clear e hkid hlen ih hc hcn h1 h2 hcm;unfold isOp at h0;simp only[Bool.or_eq_true,decide_eq_true_eq]at h0;rcases h0 with ((((((rfl|rfl)|rfl)|rfl)|rfl)|rfl)|rfl)|rfl
   ·simp only[rangeK,if_true,Bool.and_eq_true,decide_eq_true_eq]at hrg;obtain⟨k,rfl⟩:∃k:Nat,a=k:=⟨a.toNat,by omega⟩;exact rtext_Kind hi hr k (by omega) b A c
   ·exact rtext_Actor hi hr a b ha hb A c
   ·simp only[namesOk,if_true,Bool.and_eq_true,decide_eq_true_eq]at hn;obtain⟨k,rfl⟩:∃k:Nat,a=k:=⟨a.toNat,by omega⟩;exact rtext_Rule hi hr k (by have:=hr.len;omega) b A c
   ·exact rtext_Tick hi hr a b ha hb A c
   ·simp only[namesOk,if_true,(by decide:(sItem=sRule)=False),if_false,Bool.and_eq_true,decide_eq_true_eq]at hn;obtain⟨k,rfl⟩:∃k:Nat,a=k:=⟨a.toNat,by omega⟩;exact rtext_Item hi hr k (by have:=hi.len;omega) b A c
   ·simp only[namesOk,if_true,(by decide:(sMore=sRule)=False),(by decide:(sMore=sItem)=False),if_false,Bool.and_eq_true,decide_eq_true_eq]at hn;obtain⟨k,rfl⟩:∃k:Nat,b=k:=⟨b.toNat,by omega⟩;exact rtext_More hi hr k (by have:=hi.len;omega) a ha A c
   ·exact rtext_Step hi hr a b ha hb A c
   ·exact rtext_Account hi hr a b ha hb A c
theorem rprint_any {m:CatM} {M:MkM} {W:World} {P:Nat->Prop} (hi:ItsV W m.si m.items) (hr:RulesV W m.sr m.rules) (h:M.Ok W 35 P) (hsz:M.core.size<=1000000000) :
 Calls Tryz.prog 10 #[.agg #[.slice m.si.A m.si.n m.si.c,.slice m.sr.A m.sr.n m.sr.c,.slice m.st.A m.st.n m.st.c,.slice m.sx.A m.sx.n m.sx.c],.agg #[.string M.op,.int .i64 M.a,.int .i64 M.b,.slice M.s.A M.s.n M.s.c]] W fun e w'=>e=.returned (.tuple #[.string (printS (m.rules.map RuM.name) (m.items.map It.name) M.core),.int .i64 (printE (m.rules.map RuM.name) (m.items.map It.name) M.core)])∧Below W.heap.size W w':=by
 have hil:m.si.n=(m.items.map It.name).length:=by rw[List.length_map];exact hi.len
 have hrl:m.sr.n=(m.rules.map RuM.name).length:=by rw[List.length_map];exact hr.len
 have hsit:∀s∈m.items.map It.name,s.size<=8192:=fun s hs=>by
  obtain⟨x,hx,rfl⟩:=List.mem_map.1 hs;exact hi.each x hx
 have hsrn:∀s∈m.rules.map RuM.name,s.size<=8192:=fun s hs=>by
  obtain⟨x,hx,rfl⟩:=List.mem_map.1 hs;exact(hr.each x hx).name
 have hcv:validM m.si.n m.sr.n M.core=validM (m.items.map It.name).length (m.rules.map RuM.name).length M.core:=by rw[hil,hrl]
 have hPE:printE (m.rules.map RuM.name) (m.items.map It.name) M.core=if validM m.si.n m.sr.n M.core≠0 then validM m.si.n m.sr.n M.core else if Mk.named (m.rules.map RuM.name) (m.items.map It.name) M.core then 0 else 6:=by unfold printE;rw[<- hcv]
 have y:Below W.heap.size W ((W.alloc (.cells #[.slice m.si.A m.si.n m.si.c,.slice m.sr.A m.sr.n m.sr.c,.slice m.st.A m.st.n m.st.c,.slice m.sx.A m.sx.n m.sx.c] 28)).alloc (.cells #[.string M.op,.int .i64 M.a,.int .i64 M.b,.slice M.s.A M.s.n M.s.c] 35)):=((Below.refl _ _).alloc (Nat.le_refl _) _).alloc (by simp) _;have Y:=iH y;have B0:=iH ((Bk.new W 28 [.slice m.si.A m.si.n m.si.c,.slice m.sr.A m.sr.n m.sr.c,.slice m.st.A m.st.n m.st.c,.slice m.sx.A m.sx.n m.sx.c]).alloc (.cells #[.string M.op,.int .i64 M.a,.int .i64 M.b,.slice M.s.A M.s.n M.s.c] 35));have B1:Hid (Bk ((W.alloc (.cells #[.slice m.si.A m.si.n m.si.c,.slice m.sr.A m.sr.n m.sr.c,.slice m.st.A m.st.n m.st.c,.slice m.sx.A m.sx.n m.sx.c] 28)).alloc (.cells #[.string M.op,.int .i64 M.a,.int .i64 M.b,.slice M.s.A M.s.n M.s.c] 35)) (W.heap.size+1) 35 [.string M.op,.int .i64 M.a,.int .i64 M.b,.slice M.s.A M.s.n M.s.c]):=by
  have:=Bk.new (W.alloc (.cells #[.slice m.si.A m.si.n m.si.c,.slice m.sr.A m.sr.n m.sr.c,.slice m.st.A m.st.n m.st.c,.slice m.sx.A m.sx.n m.sx.c] 28)) 35 [.string M.op,.int .i64 M.a,.int .i64 M.b,.slice M.s.A M.s.n M.s.c];rw[World.size_alloc]at this;exact iH this
 have K1:=iH (rvalid_any m.si m.sr m.st m.sx (by have:=hi.small;omega) (by have:=hr.small;omega) M _ P (h.bel y) hsz);have KN:Hid (∀U,Below W.heap.size W U->validM m.si.n m.sr.n M.core=0->_):=iH fun U hU hv=>rnamed_any m M U P (h.bel hU) (hi.below hU) (hr.below hU) (valid_zero hv).2
 have KT:Hid (∀U,Below W.heap.size W U->validM m.si.n m.sr.n M.core=0->_):=iH fun U hU hv=>rtext_any m M U P (h.bel hU) (hi.below hU) (hr.below hU) (valid_zero hv).2 (by
  have h1:=text_len (rn:=m.rules.map RuM.name) (it:=m.items.map It.name) hsrn hsit M.core h.in_ (valid_zero hv).2
  have h2:=(valid_zero hv).1
  omega)
 have HPE:=iH hPE;have HPS:Hid (printS (m.rules.map RuM.name) (m.items.map It.name) M.core=if printE (m.rules.map RuM.name) (m.items.map It.name) M.core=0 then⟨(Mk.text (m.rules.map RuM.name) (m.items.map It.name) M.core).toArray⟩ else⟨#[]⟩):=iH rfl;clear y hPE hcv hsit hsrn hil hrl hi hr h hsz;generalize printS (m.rules.map RuM.name) (m.items.map It.name) M.core=PS at *;generalize printE (m.rules.map RuM.name) (m.items.map It.name) M.core=PE at *;generalize(⟨(Mk.text (m.rules.map RuM.name) (m.items.map It.name) M.core).toArray⟩:ByteArray)=TX at *;generalize Mk.named (m.rules.map RuM.name) (m.items.map It.name) M.core=NM at *;generalize validM m.si.n m.sr.n M.core=VE at *;go_enter Tryz.func10,Tryz.ntmps10;go_wp2_with fail;refine K1.out.mono ?_;rintro e w1 ⟨rfl,hb1⟩;have Y1:=iH (Y.out.trans (hb1.mono Y.out.size));have B01:=iH (B0.out.below hb1 B0.out.lt);have B11:=iH (B1.out.below hb1 B1.out.lt);clear K1 hb1 B0 B1 Y;by_cases hv:VE=0
 ·subst hv;have K2:=iH (KN.out w1 Y1.out rfl);have⟨b0,b1,b2,b3,bl⟩:=B11.out.p4;have⟨d0,d1,d2,d3,_⟩:=B01.out.p4;clear KN;go_wp2_with fail;refine K2.out.mono ?_;rintro e w2 ⟨rfl,hb2⟩;have Y2:=iH (Y1.out.trans (hb2.mono Y1.out.size));have B02:=iH (B01.out.below hb2 B01.out.lt);have B12:=iH (B11.out.below hb2 B11.out.lt);clear K2 hb2 B01 B11 Y1 b0 b1 b2 b3 bl d0 d1 d2 d3;cases NM
  ·have HE:Hid (PE=6):=iH (by rw[HPE.out];rfl);have HS:Hid (PS=⟨#[]⟩):=iH (by rw[HPS.out,HE.out];rfl);clear HPE HPS KT;go_wp2;exact bodyPost_ret (v:=.tuple #[.string ⟨#[]⟩,.int .i64 6]) (by simp[results,Tryz.results10,go_sem]) rfl ⟨by rw[HS.out,HE.out],Y2.out⟩
  ·have HE:Hid (PE=0):=iH (by rw[HPE.out];rfl);have HS:Hid (PS=TX):=iH (by rw[HPS.out,HE.out];rfl);have K3:=iH (KT.out w2 Y2.out (by first | exact trivial | exact rfl));have⟨b0,b1,b2,b3,bl⟩:=B12.out.p4;have⟨d0,d1,d2,d3,_⟩:=B02.out.p4;clear HPE HPS KT;go_wp2_with fail;refine K3.out.mono ?_;rintro e w3 ⟨rfl,hb3⟩;have Y3:=iH (Y2.out.trans (hb3.mono Y2.out.size));clear K3 hb3;go_wp2;exact bodyPost_ret (v:=.tuple #[.string TX,.int .i64 0]) (by simp[results,Tryz.results10,go_sem]) rfl ⟨by rw[HS.out,HE.out],Y3.out⟩
 ·have HE:Hid (PE=VE):=iH (by rw[HPE.out,if_pos hv]);have HS:Hid (PS=⟨#[]⟩):=iH (by rw[HPS.out,HE.out,if_neg hv]);have hv1:(VE == 0)=false:=by simpa using hv
  have hv2:(VE != 0)=true:=by simpa using hv
  clear HPE HPS KT KN;go_wp2;exact bodyPost_ret (v:=.tuple #[.string ⟨#[]⟩,.int .i64 VE]) (by simp[results,Tryz.results10,go_sem]) rfl ⟨by rw[HS.out,HE.out],Y1.out⟩
theorem IntsV.get {w:World} {A:Option Addr} {n:Nat} {zs:List Int} (h:IntsV w A n zs) (k:Nat) (hk:k<n):∃b off,A=some ⟨b,off,none⟩∧b<w.heap.size∧In64 (zs[k]'(by rw[<- h.len];exact hk))∧w.cell? ⟨b,off+k,none⟩=some (.int .i64 (zs[k]'(by rw[<- h.len];exact hk))):=by
 have hk':k<zs.length:=by rw[<- h.len];exact hk
 obtain⟨b,off,hA,hb,hc⟩:=h.row.at_ k (by simpa[ints]using hk');exact⟨b,off,hA,hb,h.wf _ (List.getElem_mem hk'),hc k _ (by simp[ints,hk'])⟩
def DInv (w3:World) (wr:World) (v i:Value):Prop:=∃(d:ByteArray) (k:Nat),v=.string d∧i=.int .i64 k∧d.size+5*k<=200∧Below w3.heap.size w3 wr
def TInv (w3:World) (n1:Nat) (wr:World) (v i:Value):Prop:=∃(t:ByteArray) (k:Nat),v=.string t∧i=.int .i64 k∧k<=12∧k<=n1∧t.size<=24*k∧Below w3.heap.size w3 wr
theorem parse_walk {W:World} {A0 A1:Option Addr} {n0 n1:Nat} (c0 c1:Nat) {z0 z1:List Int} {at_ how:Int} (h0:IntsV W A0 n0 z0) (h1:IntsV W A1 n1 z1)
 (f0:∀b off,A0=some ⟨b,off,none⟩->b<W.heap.size) (f1:∀b off,A1=some ⟨b,off,none⟩->b<W.heap.size) (hat0:In64 at_) (hw0:In64 how) (hT:Tab W) (hP:TabP W) :
 Calls Tryz.prog 3 #[.slice A0 n0 c0,.slice A1 n1 c1,.int .i64 at_,.int .i64 how] W fun e w'=>e=.returned (.bool true)∧Below W.heap.size W w':=by
 have KC:=iH (Catalog_g c0 h0 f0);have H1:=iH h1;have F1:=iH f1;have hat:=hat0;have hw:=hw0;have HTB:=iH hT;have HPB:=iH hP;clear h0 h1 f0 f1 hT hP hat0 hw0;go_enter Tryz.func3,Tryz.ntmps3;go_wp2_with fail;refine KC.out.mono ?_;rintro e w1 ⟨m,rfl,hm,hsm,hb⟩;have hsi:(1:Int)<=m.si.n:=by have:=hm.items.len;have:=hsm.items.1;omega
 have hsr:(1:Int)<=m.sr.n:=by have:=hm.rules.len;have:=hsm.rules.1;omega
 have hsi2:(m.si.n:Int)<=1000000:=by have:=hm.items.small;omega
 have hsr2:(m.sr.n:Int)<=1000000:=by have:=hm.rules.small;omega
 have yc:Below w1.heap.size w1 (w1.alloc (.cells #[.slice m.si.A m.si.n m.si.c,.slice m.sr.A m.sr.n m.sr.c,.slice m.st.A m.st.n m.st.c,.slice m.sx.A m.sx.n m.sx.c] 28)):=(Below.refl _ _).alloc (Nat.le_refl _) _;have HB1:=iH (hb.trans (yc.mono hb.size));have BC:=iH (Bk.new w1 28 [.slice m.si.A m.si.n m.si.c,.slice m.sr.A m.sr.n m.sr.c,.slice m.st.A m.st.n m.st.c,.slice m.sx.A m.sx.n m.sx.c]);have HM:=iH (hm.below yc);have NM:=iH (code_names hsm.code);clear KC hm hsm hb yc;go_wp2;refine wp_region_X (fun w'=>Bk w' w1.heap.size 28 [.slice m.si.A m.si.n m.si.c,.slice m.sr.A m.sr.n m.sr.c,.slice m.st.A m.st.n m.st.c,.slice m.sx.A m.sx.n m.sx.c]) 10 (n:=10) rfl (by kernel_rfl) (BC.out.drew) (fun hS=>?_);refine uS 0 20 hS ?_ (hy:=fun w' hS'=>by have⟨e0,e1,e2,e3,el⟩:=hS'.p4;(go_simp;try with_reducible rfl));refine uS 1 21 hS ?_ (hy:=fun w' hS'=>by have⟨e0,e1,e2,e3,el⟩:=hS'.p4;(go_simp;try with_reducible rfl));refine uS 2 22 hS ?_;refine X_o 3 rfl fun K hK=>?_;go_simp;have K1:=iH (make_any (W:=(w1.alloc (.cells #[.slice m.si.A m.si.n m.si.c,.slice m.sr.A m.sr.n m.sr.c,.slice m.st.A m.st.n m.st.c,.slice m.sx.A m.sx.n m.sx.c] 28)).drew) (c:=c1) (st:=m.st) (sx:=m.sx) hsi hsr hsi2 hsr2 (H1.out.below HB1.out.drew) (fun b off e=>Nat.lt_of_lt_of_le (F1.out b off e) HB1.out.drew.size));(with_reducible refine K1.out.mono ?_);rintro e w2 ⟨X,rfl,hok,hsz,-,hb⟩;have hd:=(Below.refl (w1.alloc (.cells #[.slice m.si.A m.si.n m.si.c,.slice m.sr.A m.sr.n m.sr.c,.slice m.st.A m.st.n m.st.c,.slice m.sx.A m.sx.n m.sx.c] 28)).heap.size (w1.alloc (.cells #[.slice m.si.A m.si.n m.si.c,.slice m.sr.A m.sr.n m.sr.c,.slice m.st.A m.st.n m.st.c,.slice m.sx.A m.sx.n m.sx.c] 28))).drew.trans hb;have HB2:=iH (HB1.out.trans (hd.mono HB1.out.size));have BC2:=iH (BC.out.below hd BC.out.lt);have HM2:=iH (HM.out.below hd);have OX:=iH hok;have SX:=iH hsz;refine hK _ _ BC2.out ?_;clear hK K1 hok hsz hb hd HB1 BC HM;refine X_o 4 rfl fun K hK=>?_;go_simp;have K1:=iH (rprint_any HM2.out.items HM2.out.rules OX.out (by have:=SX.out;omega));have HPS:=iH (print_short NM.out.1 NM.out.2 OX.out.in_);generalize printS (m.rules.map RuM.name) (m.items.map It.name) X.core=s at *;generalize printE (m.rules.map RuM.name) (m.items.map It.name) X.core=se at *;(with_reducible refine K1.out.mono ?_);rintro e w3 ⟨rfl,hb⟩;have HB3:=iH (HB2.out.trans (hb.mono HB2.out.size));have BC3:=iH (BC2.out.below hb BC2.out.lt);have HM3:=iH (HM2.out.below hb);refine hK _ _ BC3.out ?_;clear hK K1 hb HB2 BC2 HM2 OX SX;refine uS 5 19 BC3.out ?_;refine uS 6 25 BC3.out ?_;refine uS 7 26 BC3.out ?_;refine X_o 8 rfl fun K hK=>?_;go_simp;refine hK _ _ BC3.out ?_;clear hK;refine X_o 9 rfl fun K hK=>?_;go_simp;refine hK _ _ BC3.out ?_;clear hK;refine X_done (by kernel_rfl) ?_;clear hS NM hsi hsr hsi2 hsr2;have hss:s.size<=4480:=HPS.out;have KA:=iH (around_any at_ (s.size+1:Nat) w3 hat.1 hat.2 (by omega) (by omega));have ka0:=around_lo at_ (s.size+1:Nat) (by omega);have ka1:=around_hi at_ (s.size+1:Nat) (by omega);obtain⟨k,hk⟩:∃k:Nat,around at_ (s.size+1:Nat)=k:=⟨(around at_ (s.size+1:Nat)).toNat,by omega⟩;rw[hk]at KA ka0 ka1;have hks:k<=s.size:=by omega
 rw[Int.natCast_add]at KA;have KA:=KA;clear hk ka0 ka1 HPS;go_wp2_with fail;refine KA.out.mono ?_;rintro e w' ⟨rfl,rfl⟩;clear KA;go_upto_block 0 with fail;go_cut [13] (fun v wx=>∃t:ByteArray,v=.string t∧t.size<=300∧Below w3.heap.size w3 wx)
 case first =>
  go_wp2_with fail;go_loopw [13,14] (fun v i wr=>TInv w3 n1 wr v i) (fun _ i _=>12-(intOf i).toNat)
  case atStart=>exact⟨⟨#[]⟩,0,rfl,rfl,by omega,by omega,by decide,Below.refl _ _⟩
  case round =>
   obtain⟨t,j,rfl,rfl,hj,hjn,hts,hb⟩:=hrel;have HBt:=iH hb;clear hb;by_cases hjl:j<n1
   ·by_cases hj12:j<12
    ·obtain⟨b,off,rfl,hbb,hz,hcz⟩:=((H1.out.below (HB3.out.trans (HBt.out.mono HB3.out.size)))).get j hjl;have KW:=iH (word_any _ hz wr);generalize z1[j]'(by have:=H1.out.len;omega)=z at *;have hj12I:(j:Int)<12:=by omega
     go_wp2_with fail;refine KW.out.mono ?_;rintro e w4 ⟨x,hx,rfl,hb⟩;have HB4:=iH (HBt.out.trans (hb.mono HBt.out.size));clear KW hb;have hts2:t.size<=300:=by omega
     go_wp2_with fail;go_roundw
     case rel=>exact⟨_,j+1,rfl,by go_num,by omega,by omega,by simp only[ByteArray.size_append];omega,HB4.out⟩
     case measure=>simp[intOf];omega
    ·have hj12I:¬ (j:Int)<12:=by omega
     go_wp2_with fail;go_meet;exact⟨t,rfl,by omega,HBt.out⟩
   ·go_wp2_with fail;go_meet;exact⟨t,rfl,by omega,HBt.out⟩
 case rest =>
  obtain⟨t,rfl,hts,hb⟩:=hcut;have HBt:=iH hb;have KH:=iH fun U=>around_any how 40 U hw.1 hw.2 (by decide) (by decide)
  have kh0:=around_lo how 40 (by decide);have kh1:=around_hi how 40 (by decide);have KP:=iH fun U=>around_any at_ 2 U hat.1 hat.2 (by decide) (by decide)
  have kp0:=around_lo at_ 2 (by decide);have kp1:=around_hi at_ 2 (by decide);obtain⟨hn,hhn⟩:∃k:Nat,around how 40=k:=⟨(around how 40).toNat,by omega⟩;obtain⟨pj,hpj⟩:∃k:Nat,around at_ 2=k:=⟨(around at_ 2).toNat,by omega⟩;rw[hhn]at KH kh0 kh1;rw[hpj]at KP kp0 kp1;obtain⟨px,hpx,hpc⟩:=pair_row ⟨#[110,111,116,32]⟩ ⟨#[40,110,111,116,32]⟩ 5 (by decide) (by decide) pj (by omega);have HPX:=iH hpx;have HPC:=iH hpc;clear hb hhn hpj hpx hpc;go_wp2_with fail;refine(KH.out _).mono ?_;rintro e w' ⟨rfl,rfl⟩;clear KH;go_wp2_with fail;go_loopw [15,16] (fun v i wr=>DInv w3 wr v i) (fun _ i _=>(intOf i).toNat)
  case atStart=>exact⟨⟨#[]⟩,hn,rfl,rfl,by show 0+5*hn<=200;omega,HBt.out⟩
  case round =>
   obtain⟨d,j,rfl,rfl,hds,hb⟩:=hrel;have HBd:=iH hb;clear hb HBt;by_cases hj0:0<j
   ·have hcw:=HPC.out wr;have hpx:=HPX.out;have hds2:d.size<=200:=by omega
    have HB2:=iH (HBd.out.alloc HBd.out.size (.cells #[.string ⟨#[110,111,116,32]⟩,.string ⟨#[40,110,111,116,32]⟩] 9));go_wp2_with fail;refine(KP.out _).mono ?_;rintro e w' ⟨rfl,rfl⟩;clear KP;go_wp2_with fail;go_roundw
    case rel=>exact⟨_,j-1,rfl,by go_num,by simp only[ByteArray.size_append];omega,HB2.out⟩
    case measure=>simp[intOf];omega
   ·have hds2:d.size<=200:=by omega
    have BCr:=iH (BC3.out.below HBd.out BC3.out.lt);have HMr:=iH (HM3.out.below HBd.out);have HWr:=iH (HB3.out.trans (HBd.out.mono HB3.out.size));have he1:(s.extract 0 k).size<=4480:=by rw[ByteArray.size_extract];omega
    have he2:(s.extract k s.size).size<=4480:=by rw[ByteArray.size_extract];omega
    clear BC3 HM3 HB3 HBd H1 F1 HPX HPC KP;go_wp2;refine wp_region_X (fun w'=>Bk w' w1.heap.size 28 [.slice m.si.A m.si.n m.si.c,.slice m.sr.A m.sr.n m.sr.c,.slice m.st.A m.st.n m.st.c,.slice m.sx.A m.sx.n m.sx.c]) 40 (n:=40) rfl (by kernel_rfl) (BCr.out.drew) (fun hS=>?_);refine uS 0 62 hS ?_ (hy:=fun w' hS'=>by have⟨e0,e1,e2,e3,el⟩:=hS'.p4;(go_simp;try with_reducible rfl));refine uS 1 63 hS ?_;refine X_o 2 rfl fun K hK=>?_;go_simp;have K1:=iH (parses_any (W:=wr.drew) (m:=m) s (by omega) (HTB.out.below (HWr.out.drew) HTB.out.1) (HMr.out.below (Below.refl _ _).drew).items (HMr.out.below (Below.refl _ _).drew).rules);(with_reducible refine K1.out.mono ?_);rintro e v1 ⟨rfl,hb⟩;have HV1:=iH ((HWr.out.drew).trans (hb.mono (HWr.out.drew).size));have HM1v:=iH ((HMr.out.below (Below.refl _ _).drew).below hb);have BC1v:=iH ((BCr.out.drew).below hb (BCr.out.drew).lt);refine hK _ _ BC1v.out ?_;clear hK K1 hb;refine uS 3 65 BC1v.out ?_;refine uS 4 66 BC1v.out ?_ (hy:=fun w' hS'=>by have⟨e0,e1,e2,e3,el⟩:=hS'.p4;(go_simp;try with_reducible rfl));refine uS 5 67 BC1v.out ?_;refine uS 6 68 BC1v.out ?_;refine uS 7 69 BC1v.out ?_;refine uS 8 70 BC1v.out ?_;refine uS 11 73 BC1v.out ?_;refine uS 12 74 BC1v.out ?_;refine uS 13 75 BC1v.out ?_;refine X_o 9 rfl fun K hK=>?_;go_simp;have K1:=iH (word_any how hw v1);(with_reducible refine K1.out.mono ?_);rintro e v2 ⟨x,hx,rfl,hb⟩;have HV2:=iH (HV1.out.trans (hb.mono HV1.out.size));have HM2v:=iH (HM1v.out.below hb);have BC2v:=iH (BC1v.out.below hb BC1v.out.lt);have hx2:(s.extract 0 k ++ x).size<=4504:=by rw[ByteArray.size_append];omega
    refine hK _ _ BC2v.out ?_;clear hK K1 hb;refine tU 10 (some 72) (v:=?_) rfl ⟨rfl,?_⟩ BC2v.out ?_;rotate_left
    ·intro w' hS';have q1:¬ 9223372036854775807<k+x.size:=by omega
     (go_simp;try with_reducible rfl)
    simp only[Act.put,Pa,Pb,Pc];refine tU 14 (some 76) (v:=?_) rfl ⟨rfl,?_⟩ BC2v.out ?_;rotate_left
    ·intro w' hS';have q1:¬ 9223372036854775807<k+x.size:=by omega
     have q2:¬ 9223372036854775807<k+x.size+(s.size-k):=by omega
     have q3:¬ 9223372036854775807<(s.extract 0 k ++ x).size+(s.size-k):=by omega
     (go_simp;try with_reducible rfl)
    simp only[Act.put,Pa,Pb,Pc];refine X_o 15 rfl fun K hK=>?_;go_simp;have K1:=iH (parses_any (W:=v2) (m:=m) (s.extract 0 k ++ x ++ s.extract k s.size) (by simp only[ByteArray.size_append,ByteArray.size_extract];omega) (HTB.out.below (HV2.out) HTB.out.1) (HM2v.out).items (HM2v.out).rules);(with_reducible refine K1.out.mono ?_);rintro e v3 ⟨rfl,hb⟩;have HV3:=iH ((HV2.out).trans (hb.mono (HV2.out).size));have HM3v:=iH ((HM2v.out).below hb);have BC3v:=iH ((BC2v.out).below hb (BC2v.out).lt);refine hK _ _ BC3v.out ?_;clear hK K1 hb;refine uS 16 78 BC3v.out ?_;refine uS 17 79 BC3v.out ?_;refine uS 18 80 BC3v.out ?_ (hy:=fun w' hS'=>by have⟨e0,e1,e2,e3,el⟩:=hS'.p4;(go_simp;try with_reducible rfl));refine uS 19 81 BC3v.out ?_;refine uS 20 82 BC3v.out ?_;refine uS 21 83 BC3v.out ?_;refine X_o 22 rfl fun K hK=>?_;go_simp;have K1:=iH (parses_any (W:=v3) (m:=m) (s.extract 0 k) (by omega) (HTB.out.below (HV3.out) HTB.out.1) (HM3v.out).items (HM3v.out).rules);(with_reducible refine K1.out.mono ?_);rintro e v4 ⟨rfl,hb⟩;have HV4:=iH ((HV3.out).trans (hb.mono (HV3.out).size));have HM4v:=iH ((HM3v.out).below hb);have BC4v:=iH ((BC3v.out).below hb (BC3v.out).lt);refine hK _ _ BC4v.out ?_;clear hK K1 hb;refine uS 23 85 BC4v.out ?_;refine uS 24 86 BC4v.out ?_;refine uS 25 87 BC4v.out ?_ (hy:=fun w' hS'=>by have⟨e0,e1,e2,e3,el⟩:=hS'.p4;(go_simp;try with_reducible rfl));refine uS 26 88 BC4v.out ?_;refine X_o 27 rfl fun K hK=>?_;go_simp;have K1:=iH (parses_any (W:=v4) (m:=m) t (by omega) (HTB.out.below (HV4.out) HTB.out.1) (HM4v.out).items (HM4v.out).rules);(with_reducible refine K1.out.mono ?_);rintro e v5 ⟨rfl,hb⟩;have HV5:=iH ((HV4.out).trans (hb.mono (HV4.out).size));have HM5v:=iH ((HM4v.out).below hb);have BC5v:=iH ((BC4v.out).below hb (BC4v.out).lt);refine hK _ _ BC5v.out ?_;clear hK K1 hb;refine uS 28 90 BC5v.out ?_;refine uS 29 91 BC5v.out ?_;refine uS 30 92 BC5v.out ?_ (hy:=fun w' hS'=>by have⟨e0,e1,e2,e3,el⟩:=hS'.p4;(go_simp;try with_reducible rfl));refine uS 31 93 BC5v.out ?_;refine uS 32 94 BC5v.out ?_;refine tU 33 (some 95) (v:=?_) rfl ⟨rfl,?_⟩ BC5v.out ?_;rotate_left
    ·intro w' hS';have q1:¬ 9223372036854775807<d.size+s.size:=by omega
     (go_simp;try with_reducible rfl)
    simp only[Act.put,Pa,Pb,Pc];refine X_o 34 rfl fun K hK=>?_;go_simp;have K1:=iH (parses_any (W:=v5) (m:=m) (d ++ s) (by simp only[ByteArray.size_append];omega) (HTB.out.below (HV5.out) HTB.out.1) (HM5v.out).items (HM5v.out).rules);(with_reducible refine K1.out.mono ?_);rintro e v6 ⟨rfl,hb⟩;have HV6:=iH ((HV5.out).trans (hb.mono (HV5.out).size));have HM6v:=iH ((HM5v.out).below hb);have BC6v:=iH ((BC5v.out).below hb (BC5v.out).lt);refine hK _ _ BC6v.out ?_;clear hK K1 hb;refine uS 35 97 BC6v.out ?_;refine uS 36 98 BC6v.out ?_;refine X_o 37 rfl fun K hK=>?_;go_simp;have K1:=iH (lives_any (HTB.out.below HV6.out HTB.out.1) (HPB.out.below HV6.out (by have:=HTB.out.1;omega)));(with_reducible refine K1.out.mono ?_);rintro e v7 ⟨rfl,hb⟩;have HV7:=iH (HV6.out.trans (hb.mono HV6.out.size));have BC7v:=iH (BC6v.out.below hb BC6v.out.lt);refine hK _ _ BC7v.out ?_;clear hK K1 hb;refine uS 38 100 BC7v.out ?_;refine X_o 39 rfl fun K hK=>?_;go_simp;refine hK _ _ BC7v.out ?_;clear hK;refine X_done (by kernel_rfl) ?_;clear hS;go_wp2;go_ret;exact⟨rfl,HV7.out⟩
section
open Go.ChangeAt Go.ChangeShapes Go.WideShapes
set_option linter.unusedVariables false
set_option linter.unusedSimpArgs false
section
theorem ownOff:ownKnob Tryz.prog.godebug=none:=by kernel_rfl
theorem laidOutAll:laidOutB Tryz.prog=true:=by kernel_rfl
theorem gKinds : Tryz.prog.globalNamed "worldmint/lexer.kinds" = some 1 := by kernel_rfl
theorem cellsInt:Tryz.prog.cellsOf 3=1:=by kernel_rfl
theorem hrec22:Tryz.prog.readableRec 22=true:=by kernel_rfl
theorem hlt22:22<Tryz.prog.types.size:=of_decide_eq_true (by kernel_rfl)
theorem ints_opened {H:Type} {enc:TypeId×Value->H} {W:World} {A:Option Addr} {n c:Nat} {d:DataW H} {p:List MemPlace} (h:DataW.Trod enc Tryz.prog W 0 (fun _=>true) true 22 (.slice A n c) d p):∃zs,IntsV W A n zs:=by
 obtain⟨fuel,hf⟩:=h;rcases open_ints Tryz.underlying22 Tryz.underlying3 cellsInt hf with ⟨hcs,hx⟩|⟨a,len,cap,zs,hcs,_,hl,hm,hz,hx,hcell,hwz⟩
 ·change[Value.slice A n c]=_ at hcs;obtain⟨rfl,rfl,rfl⟩:A=none∧n=0∧c=0:=by simpa using hcs
  exact⟨[],.inl rfl,rfl,fun z hz=>by cases hz⟩
 ·change[Value.slice A n c]=_ at hcs;obtain⟨rfl,rfl,rfl⟩:A=some a∧n=len∧c=cap:=by simpa using hcs
  rw[if_pos rfl]at hz;refine⟨zs.take n,?_,by simp;omega,fun z hz'=>?_⟩
  ·by_cases h0:n=0
   ·left;simp[ints,h0]
   ·right;have hc0:=hcell 0 (by omega);have ha:a.add 0=a:=by simp[Addr.add]
    rw[ha]at hc0;obtain⟨b,off,sp⟩:=a;cases sp with
    | some s=>simp[World.cell?]at hc0;split at hc0 <;> simp at hc0
    | none =>
      have hb:b<W.heap.size:=by
       rcases Nat.lt_or_ge b W.heap.size with h|h
       ·exact h
       ·simp[World.cell?,Array.getElem?_eq_none h]at hc0
      refine⟨b,off,rfl,hb,fun j u hu=>?_⟩;have hj:j<n∧j<zs.length:=by
       have:=(List.getElem?_eq_some_iff.1 hu).1;simp[ints]at this;omega
      have hcj:=hcell j hj.2;have e1:(⟨b,off,none⟩:Addr).add j=⟨b,off+j,none⟩:=by
       unfold Addr.add;split
       ·subst_vars;rfl
       ·rfl
      rw[e1]at hcj;rw[hcj,<- hu];simp[ints,hj.1,hj.2]
  ·have:=hwz z (List.mem_of_mem_take hz');have:=bounds_i64 this;omega
theorem kindsType:(Tryz.prog.globals[1]?).map (·.type)=some 222:=by kernel_rfl
theorem kindsU:Tryz.prog.underlying 222=some (.array 128 5):=by kernel_rfl
theorem u8U:Tryz.prog.underlying 5=some (.int .u8):=by kernel_rfl
theorem u8C:Tryz.prog.cellsOf 5=1:=by kernel_rfl
theorem kindsC:Tryz.prog.cellsOf 222=128:=by kernel_rfl
theorem table_of {W : World} (h : laidMetH Tryz.prog [("math/bits.deBruijn32tab", Rows.laid_math_bits_deBruijn32tab), ("math/bits.deBruijn64tab", Rows.laid_math_bits_deBruijn64tab), ("internal/strconv.uint64pow10", Rows.laid_internal_strconv_uint64pow10), ("worldmint/lexer.kinds", Rows.laid_worldmint_lexer_kinds)] W) : Tab W := by
 have h' := laidMetH.filter (fun x => x.1 == "worldmint/lexer.kinds") h
 have ht : Lib.TabIs Tryz.prog W "worldmint/lexer.kinds" .u8 kindL := Lib.tabIs_of_head (rest := []) gKinds kindsType kindsU u8U u8C kindsC h'
 have hc:∀i,i<128->W.cell? ⟨1,i,none⟩=some (.int .u8 (kindOf i)):=fun i hi=>by
  have:=ht.cell gKinds i hi;simpa[kindOf]using this
 refine⟨?_,hc⟩;have:=hc 0 (by omega);rcases Nat.lt_or_ge 1 W.heap.size with h|h
 ·exact h
 ·simp[World.cell?,Array.getElem?_eq_none h]at this
end
end
section
open Go.ChangeAt Go.ChangeShapes Go.WideShapes
theorem far_opened {W:World} {base:Nat} {A:Option Addr} {n c:Nat} (h:Value.okWide Tryz.prog W .any base 22 (.slice A n c)):∀b off,A=some ⟨b,off,none⟩->b<W.heap.size:=by
 intro b off e;subst e;simp only[Value.okWide,Tryz.underlying22,Cell.okWide,Cell.ok]at h;obtain⟨_,_,_,_,row,cells,hs,_⟩:=h;rcases Nat.lt_or_ge b W.heap.size with h1|h1
 ·exact h1
 ·exfalso;simp[World.shape?,Array.getElem?_eq_none h1]at hs
theorem powType:(Tryz.prog.globals[0]?).map (·.type)=some 216:=by kernel_rfl
theorem powU:Tryz.prog.underlying 216=some (.array 20 208):=by kernel_rfl
theorem u64U:Tryz.prog.underlying 208=some (.int .u64):=by kernel_rfl
theorem u64C:Tryz.prog.cellsOf 208=1:=by kernel_rfl
theorem powC:Tryz.prog.cellsOf 216=20:=by kernel_rfl
theorem pow_of {W : World} (h : laidMetH Tryz.prog [("math/bits.deBruijn32tab", Rows.laid_math_bits_deBruijn32tab), ("math/bits.deBruijn64tab", Rows.laid_math_bits_deBruijn64tab), ("internal/strconv.uint64pow10", Rows.laid_internal_strconv_uint64pow10), ("worldmint/lexer.kinds", Rows.laid_worldmint_lexer_kinds)] W) : TabP W := by
 have h' := laidMetH.filter (fun x => x.1 == "internal/strconv.uint64pow10") h
 exact Lib.tabIs_of_head (rest:=[]) gPow powType powU u64U u64C powC h'
def litVals (d:DataW Unit):List Value:=match d with
 | .agg l=>l.filterMap fun | .lit (.int k z)=>some (Value.int k z) | _=>none
 | _=>[]
def putL (xs:List Value):Obj->Obj
 | .cells _ t frozen=>.cells xs.toArray t frozen
 | o=>o
noncomputable def laidW4 (os:Os):World :=
 { World.holding Tryz.prog os ⟨#[],#[],[]⟩with heap:=((((World.holding Tryz.prog os ⟨#[],#[],[]⟩).heap.modify 0 (putL (litVals Rows.laid_internal_strconv_uint64pow10))).modify 1 (putL (litVals Rows.laid_worldmint_lexer_kinds))).modify 2 (putL (litVals Rows.laid_math_bits_deBruijn32tab))).modify 3 (putL (litVals Rows.laid_math_bits_deBruijn64tab)) }
end
end Go.Proofs.YtocodlpgaamblaaGreatDoor
