/- The reference's text of any valid mark, Print. -/
import Derived.Test.YtocodlpgaamblaaGreatDoorL13
import Derived.Test.YtocodlpgaamblaaGreatDoorL26
set_option linter.unusedVariables false
set_option linter.unusedSimpArgs false
set_option maxRecDepth 100000
set_option maxHeartbeats 4000000
open Go.RowKit
namespace Go.Proofs.YtocodlpgaamblaaGreatDoor
def TextS (m:CatM) (M:MkM):Prop:=∀(w:World) (P:Nat->Prop),M.Ok w 35 P->ItsV w m.si m.items->RulesV w m.sr m.rules->M.core.check m.si.n m.sr.n=0->(Mk.text (m.rules.map RuM.name) (m.items.map It.name) M.core).length<=1000000 ->
 Calls Tryz.prog 39 #[.agg #[.slice m.si.A m.si.n m.si.c,.slice m.sr.A m.sr.n m.sr.c,.slice m.st.A m.st.n m.st.c,.slice m.sx.A m.sx.n m.sx.c],.agg #[.string M.op,.int .i64 M.a,.int .i64 M.b,.slice M.s.A M.s.n M.s.c]] w fun e w'=>e=.returned (.string ⟨(Mk.text (m.rules.map RuM.name) (m.items.map It.name) M.core).toArray⟩)∧Below w.heap.size w w'
theorem rtext_any (m:CatM):∀M:MkM,TextS m M:=by
 intro M
 induction M using MkM.ind with
 | h M ih =>
   intro w P h hi hr hc hlen;obtain⟨op,a,b,l,⟨A,n,c⟩⟩:=M;have hl:=h.len;have ha:=h.ha;have hb:=h.hb;dsimp only at hl ih ha hb;have hcn:=check_node (op:=op) (a:=a) (b:=b) (ks:=MkM.coreL l) hc;rw[coreL_len,<- hl]at hcn;have hcore:MkM.core ⟨op,a,b,l,⟨A,n,c⟩⟩=.node op a b (l.map MkM.core):=by simp[MkM.core,coreL_map]
   rw[hcore]at hlen⊢;dsimp only;have hcm:∀t∈l,t.core.check m.si.n m.sr.n=0:=fun t ht=>hcn.2 _ (by rw[coreL_map];exact List.mem_map_of_mem ht)
   have hkid:∀o:ByteArray,(Mk.textL (m.rules.map RuM.name) (m.items.map It.name) o true (l.map MkM.core)).length<=1000000->∀t∈l,∀U,Below w.heap.size w U->Calls Tryz.prog 39 #[.agg #[.slice m.si.A m.si.n m.si.c,.slice m.sr.A m.sr.n m.sr.c,.slice m.st.A m.st.n m.st.c,.slice m.sx.A m.sx.n m.sx.c],.agg #[.string t.op,.int .i64 t.a,.int .i64 t.b,.slice t.s.A t.s.n t.s.c]] U fun e w'=>e=.returned (.string ⟨(Mk.text (m.rules.map RuM.name) (m.items.map It.name) t.core).toArray⟩)∧Below U.heap.size U w':=by
    intro o ho t ht U hU;have h1:=kid_bound (rn:=m.rules.map RuM.name) (it:=m.items.map It.name) (o:=o) (f:=true) (List.mem_map_of_mem (f:=MkM.core) ht);have h2:(Mk.text (m.rules.map RuM.name) (m.items.map It.name) t.core).length<=(wrapT (parT o t.core.op) (Mk.text (m.rules.map RuM.name) (m.items.map It.name) t.core)).length:=by
     cases parT o t.core.op <;> simp[wrapT]
     try omega
    exact ih t ht U P ((h.bel hU).each t ht) (hi.below hU) (hr.below hU) (hcm t ht) (by omega)
   by_cases h1:op=sAnd∨op=sOr
   ·have e:Mk.text (m.rules.map RuM.name) (m.items.map It.name) (.node op a b (l.map MkM.core))=Mk.textL (m.rules.map RuM.name) (m.items.map It.name) op true (l.map MkM.core):=by
     rw[Mk.text,if_pos h1]
    rw[e]at hlen⊢;exact rtext_joined h1 (hkid op hlen) h ha hlen
   by_cases h2:op=sNot
   ·subst h2;have e:Mk.text (m.rules.map RuM.name) (m.items.map It.name) (.node sNot a b (l.map MkM.core))=[110,111,116,32] ++ Mk.textL (m.rules.map RuM.name) (m.items.map It.name) sNot true (l.map MkM.core):=by
     rw[Mk.text,if_neg h1,if_pos rfl]
    rw[e]at hlen⊢;have hn1:n=1:=alone_not hcn.1;exact rtext_not hn1 (hkid sNot (by simp only[List.length_append]at hlen;omega)) h ha hlen
   have e:Mk.text (m.rules.map RuM.name) (m.items.map It.name) (.node op a b (l.map MkM.core))=condT (m.rules.map RuM.name) (m.items.map It.name) op a b:=by
    rw[Mk.text,if_neg h1,if_neg h2]
   rw[e];obtain⟨h0,hz,hn,hrg⟩:=alone_cond hcn.1 (fun k=>h1 (.inl k)) (fun k=>h1 (.inr k)) h2;subst hz;clear e hkid hlen ih hc hcn h1 h2 hcm;unfold isOp at h0;simp only[Bool.or_eq_true,decide_eq_true_eq]at h0;rcases h0 with ((((((rfl|rfl)|rfl)|rfl)|rfl)|rfl)|rfl)|rfl
   ·simp only[rangeK,if_true,Bool.and_eq_true,decide_eq_true_eq]at hrg;obtain⟨k,rfl⟩:∃k:Nat,a=k:=⟨a.toNat,by omega⟩;exact rtext_Kind hi hr k (by omega) b A c
   ·exact rtext_Actor hi hr a b ha hb A c
   ·simp only[namesOk,if_true,Bool.and_eq_true,decide_eq_true_eq]at hn;obtain⟨k,rfl⟩:∃k:Nat,a=k:=⟨a.toNat,by omega⟩;exact rtext_Rule hi hr k (by have:=hr.len;omega) b A c
   ·exact rtext_Tick hi hr a b ha hb A c
   ·simp only[namesOk,if_true,(by decide:(sItem=sRule)=False),if_false,Bool.and_eq_true,decide_eq_true_eq]at hn;obtain⟨k,rfl⟩:∃k:Nat,a=k:=⟨a.toNat,by omega⟩;exact rtext_Item hi hr k (by have:=hi.len;omega) b A c
   ·simp only[namesOk,if_true,(by decide:(sMore=sRule)=False),(by decide:(sMore=sItem)=False),if_false,Bool.and_eq_true,decide_eq_true_eq]at hn;obtain⟨k,rfl⟩:∃k:Nat,b=k:=⟨b.toNat,by omega⟩;exact rtext_More hi hr k (by have:=hi.len;omega) a ha A c
   ·exact rtext_Step hi hr a b ha hb A c
   ·exact rtext_Account hi hr a b ha hb A c
theorem rprint_any {m:CatM} {M:MkM} {W:World} {P:Nat->Prop} (hi:ItsV W m.si m.items) (hr:RulesV W m.sr m.rules) (h:M.Ok W 35 P) (hsz:M.core.size<=1000000000) :
 Calls Tryz.prog 10 #[.agg #[.slice m.si.A m.si.n m.si.c,.slice m.sr.A m.sr.n m.sr.c,.slice m.st.A m.st.n m.st.c,.slice m.sx.A m.sx.n m.sx.c],.agg #[.string M.op,.int .i64 M.a,.int .i64 M.b,.slice M.s.A M.s.n M.s.c]] W fun e w'=>e=.returned (.tuple #[.string (printS (m.rules.map RuM.name) (m.items.map It.name) M.core),.int .i64 (printE (m.rules.map RuM.name) (m.items.map It.name) M.core)])∧Below W.heap.size W w':=by
 have hil:m.si.n=(m.items.map It.name).length:=by rw[List.length_map];exact hi.len
 have hrl:m.sr.n=(m.rules.map RuM.name).length:=by rw[List.length_map];exact hr.len
 have hsit:∀s∈m.items.map It.name,s.size<=8192:=fun s hs=>by
  obtain⟨x,hx,rfl⟩:=List.mem_map.1 hs;exact hi.each x hx
 have hsrn:∀s∈m.rules.map RuM.name,s.size<=8192:=fun s hs=>by
  obtain⟨x,hx,rfl⟩:=List.mem_map.1 hs;exact(hr.each x hx).name
 have hcv:validM m.si.n m.sr.n M.core=validM (m.items.map It.name).length (m.rules.map RuM.name).length M.core:=by rw[hil,hrl]
 have hPE:printE (m.rules.map RuM.name) (m.items.map It.name) M.core=if validM m.si.n m.sr.n M.core≠0 then validM m.si.n m.sr.n M.core else if Mk.named (m.rules.map RuM.name) (m.items.map It.name) M.core then 0 else 6:=by unfold printE;rw[<- hcv]
 have y:Below W.heap.size W ((W.alloc (.cells #[.slice m.si.A m.si.n m.si.c,.slice m.sr.A m.sr.n m.sr.c,.slice m.st.A m.st.n m.st.c,.slice m.sx.A m.sx.n m.sx.c] 28)).alloc (.cells #[.string M.op,.int .i64 M.a,.int .i64 M.b,.slice M.s.A M.s.n M.s.c] 35)):=((Below.refl _ _).alloc (Nat.le_refl _) _).alloc (by simp) _;have Y:=iH y;have B0:=iH ((Bk.new W 28 [.slice m.si.A m.si.n m.si.c,.slice m.sr.A m.sr.n m.sr.c,.slice m.st.A m.st.n m.st.c,.slice m.sx.A m.sx.n m.sx.c]).alloc (.cells #[.string M.op,.int .i64 M.a,.int .i64 M.b,.slice M.s.A M.s.n M.s.c] 35));have B1:Hid (Bk ((W.alloc (.cells #[.slice m.si.A m.si.n m.si.c,.slice m.sr.A m.sr.n m.sr.c,.slice m.st.A m.st.n m.st.c,.slice m.sx.A m.sx.n m.sx.c] 28)).alloc (.cells #[.string M.op,.int .i64 M.a,.int .i64 M.b,.slice M.s.A M.s.n M.s.c] 35)) (W.heap.size+1) 35 [.string M.op,.int .i64 M.a,.int .i64 M.b,.slice M.s.A M.s.n M.s.c]):=by
  have:=Bk.new (W.alloc (.cells #[.slice m.si.A m.si.n m.si.c,.slice m.sr.A m.sr.n m.sr.c,.slice m.st.A m.st.n m.st.c,.slice m.sx.A m.sx.n m.sx.c] 28)) 35 [.string M.op,.int .i64 M.a,.int .i64 M.b,.slice M.s.A M.s.n M.s.c];rw[World.size_alloc]at this;exact iH this
 have K1:=iH (rvalid_any m.si m.sr m.st m.sx (by have:=hi.small;omega) (by have:=hr.small;omega) M _ P (h.bel y) hsz);have KN:Hid (∀U,Below W.heap.size W U->validM m.si.n m.sr.n M.core=0->_):=iH fun U hU hv=>rnamed_any m M U P (h.bel hU) (hi.below hU) (hr.below hU) (valid_zero hv).2
 have KT:Hid (∀U,Below W.heap.size W U->validM m.si.n m.sr.n M.core=0->_):=iH fun U hU hv=>rtext_any m M U P (h.bel hU) (hi.below hU) (hr.below hU) (valid_zero hv).2 (by
  have h1:=text_len (rn:=m.rules.map RuM.name) (it:=m.items.map It.name) hsrn hsit M.core h.in_ (valid_zero hv).2
  have h2:=(valid_zero hv).1
  omega)
 have HPE:=iH hPE;have HPS:Hid (printS (m.rules.map RuM.name) (m.items.map It.name) M.core=if printE (m.rules.map RuM.name) (m.items.map It.name) M.core=0 then⟨(Mk.text (m.rules.map RuM.name) (m.items.map It.name) M.core).toArray⟩ else⟨#[]⟩):=iH rfl;clear y hPE hcv hsit hsrn hil hrl hi hr h hsz;generalize printS (m.rules.map RuM.name) (m.items.map It.name) M.core=PS at *;generalize printE (m.rules.map RuM.name) (m.items.map It.name) M.core=PE at *;generalize(⟨(Mk.text (m.rules.map RuM.name) (m.items.map It.name) M.core).toArray⟩:ByteArray)=TX at *;generalize Mk.named (m.rules.map RuM.name) (m.items.map It.name) M.core=NM at *;generalize validM m.si.n m.sr.n M.core=VE at *;go_enter Tryz.func10,Tryz.ntmps10;go_wp2_with fail;refine K1.out.mono ?_;rintro e w1 ⟨rfl,hb1⟩;have Y1:=iH (Y.out.trans (hb1.mono Y.out.size));have B01:=iH (B0.out.below hb1 B0.out.lt);have B11:=iH (B1.out.below hb1 B1.out.lt);clear K1 hb1 B0 B1 Y;by_cases hv:VE=0
 ·subst hv;have K2:=iH (KN.out w1 Y1.out rfl);have b0:=B11.out.k0;have b1:=B11.out.k1;have b2:=B11.out.k2;have b3:=B11.out.k3;have bl:=B11.out.lt;have d0:=B01.out.k0;have d1:=B01.out.k1;have d2:=B01.out.k2;have d3:=B01.out.k3;clear KN;go_wp2_with fail;refine K2.out.mono ?_;rintro e w2 ⟨rfl,hb2⟩;have Y2:=iH (Y1.out.trans (hb2.mono Y1.out.size));have B02:=iH (B01.out.below hb2 B01.out.lt);have B12:=iH (B11.out.below hb2 B11.out.lt);clear K2 hb2 B01 B11 Y1 b0 b1 b2 b3 bl d0 d1 d2 d3;cases NM
  ·have HE:Hid (PE=6):=iH (by rw[HPE.out];rfl);have HS:Hid (PS=⟨#[]⟩):=iH (by rw[HPS.out,HE.out];rfl);clear HPE HPS KT;go_wp2;exact bodyPost_ret (v:=.tuple #[.string ⟨#[]⟩,.int .i64 6]) (by simp[results,Tryz.results10,go_sem]) rfl ⟨by rw[HS.out,HE.out],Y2.out⟩
  ·have HE:Hid (PE=0):=iH (by rw[HPE.out];rfl);have HS:Hid (PS=TX):=iH (by rw[HPS.out,HE.out];rfl);have K3:=iH (KT.out w2 Y2.out (by first | exact trivial | exact rfl));have b0:=B12.out.k0;have b1:=B12.out.k1;have b2:=B12.out.k2;have b3:=B12.out.k3;have bl:=B12.out.lt;have d0:=B02.out.k0;have d1:=B02.out.k1;have d2:=B02.out.k2;have d3:=B02.out.k3;clear HPE HPS KT;go_wp2_with fail;refine K3.out.mono ?_;rintro e w3 ⟨rfl,hb3⟩;have Y3:=iH (Y2.out.trans (hb3.mono Y2.out.size));clear K3 hb3;go_wp2;exact bodyPost_ret (v:=.tuple #[.string TX,.int .i64 0]) (by simp[results,Tryz.results10,go_sem]) rfl ⟨by rw[HS.out,HE.out],Y3.out⟩
 ·have HE:Hid (PE=VE):=iH (by rw[HPE.out,if_pos hv]);have HS:Hid (PS=⟨#[]⟩):=iH (by rw[HPS.out,HE.out,if_neg hv]);have hv1:(VE == 0)=false:=by simpa using hv
  have hv2:(VE != 0)=true:=by simpa using hv
  clear HPE HPS KT KN;go_wp2;exact bodyPost_ret (v:=.tuple #[.string ⟨#[]⟩,.int .i64 VE]) (by simp[results,Tryz.results10,go_sem]) rfl ⟨by rw[HS.out,HE.out],Y1.out⟩
end Go.Proofs.YtocodlpgaamblaaGreatDoor
