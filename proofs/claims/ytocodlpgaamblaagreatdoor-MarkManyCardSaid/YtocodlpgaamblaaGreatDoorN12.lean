/- The reference reads a condition. -/
import Derived.Test.YtocodlpgaamblaaGreatDoorN11
set_option linter.unusedVariables false
set_option linter.unusedSimpArgs false
set_option maxRecDepth 100000
set_option maxHeartbeats 4000000
open Go.RowKit
namespace Go.Proofs.YtocodlpgaamblaaGreatDoor
def zeroTok:Tok:=⟨0,⟨#[]⟩,0,0,0⟩
def tk (T:List Tok) (k:Int) (s:ByteArray) (i:Nat) (bad:Bool):Tok×Nat×Bool :=
 match bad,T[i]? with
 | false,some t=>if t.kind=k∧(s=⟨#[]⟩∨t.text=s) then(t,i+1,false) else(zeroTok,i,true)
 | _,_=>(zeroTok,i,true)
def TkQ (W:World) (pb:Nat) (m:CatM) (T:List Tok) (A:Option Addr) (n c i:Nat) (bad:Bool) (st:PSt) (k:Int) (s:ByteArray) (e:Ending) (w':World):Prop :=
 ∃u i2 b2,tk T k s i bad=(u,i2,b2)∧e=.returned (.agg #[.int .i64 u.kind,.string u.text,.int .i64 u.num,.int .i64 u.at_])∧QAt w' pb m T A n c i2 b2 st∧W.grownBy w' (some pb)∧u.text.size<=8192∧In64 u.num
theorem take_rd {W:World} {pb:Nat} {m:CatM} {T:List Tok} {A:Option Addr} {n c i:Nat} {st:PSt} {bad:Bool} (k:Int) (s:ByteArray) (h:QAt W pb m T A n c i bad st) :
 Calls Tryz.prog 122 #[.pointer (some ⟨pb,0,none⟩),.int .i64 k,.string s] W (TkQ W pb m T A n c i bad st k s):=by
 have hz:(zeroTok.text.size<=8192∧In64 zeroTok.num):=⟨by decide,by decide,by decide⟩;have no:(bad=true∨n<=i∨(∃t,T[i]? = some t∧t.kind≠k)∨(∃t,T[i]? = some t∧s≠⟨#[]⟩∧t.text≠s))->tk T k s i bad=(zeroTok,i,true)->Calls Tryz.prog 122 #[.pointer (some ⟨pb,0,none⟩),.int .i64 k,.string s] W (TkQ W pb m T A n c i bad st k s):=fun h1 h2=>(take_no k s h h1).mono fun e w' ⟨he,hq,hg⟩=>⟨zeroTok,i,true,h2,he,hq,hg,hz.1,hz.2⟩
 cases bad
 ·cases ht:T[i]? with
  | none =>
    refine no (.inr (.inl ?_)) (by simp[tk,ht]);have:=List.getElem?_eq_none_iff.1 ht;have:=h.len;omega
  | some t =>
    by_cases hk:t.kind=k
    ·by_cases hs:s=⟨#[]⟩∨t.text=s
     ·have hit:i<T.length:=(List.getElem?_eq_some_iff.1 ht).1;have htk:=h.toks t (List.mem_of_getElem? ht);refine(take_yes k s h (by have:=h.len;omega) ht hk hs).mono fun e w' ⟨he,hq,hg⟩=>⟨t,i+1,false,by simp[tk,ht,hk,hs],he,hq,hg,htk.1,htk.2.1⟩
     ·exact no (.inr (.inr (.inr ⟨t,ht,not_or.1 hs⟩))) (by simp[tk,ht,hs])
    ·exact no (.inr (.inr (.inl ⟨t,ht,hk⟩))) (by simp[tk,ht,hk])
 ·exact no (.inl rfl) (by cases hT:T[i]? <;> simp[tk])
def RPost (W:World) (pb:Nat) (m:CatM) (T:List Tok) (A:Option Addr) (n c:Nat) (p:PR Mk) (e:Ending) (w':World):Prop :=
 ∃(M:MkM) (i':Nat) (bad':Bool) (st':PSt),e=.returned (.agg #[.string M.op,.int .i64 M.a,.int .i64 M.b,.slice M.s.A M.s.n M.s.c])∧M.Ok w' 35 (fun b=>W.heap.size<=b)∧QAt w' pb m T A n c i' bad' st'∧W.grownBy w' (some pb) ∧
  match p with
  | .bad r=>bad'=true∧T.drop i'=r
  | .ok k r st1=>bad'=false∧T.drop i'=r∧st'=st1∧(st1.1=0->M.core=k)
theorem lay_mq {W V:World} {pb r:Nat} {m:CatM} {T:List Tok} {A:Option Addr} {n c i:Nat} {bad:Bool} {st:PSt} {y0 y1 y2 y3:Value} {M:MkM} (hr:Bk V r 35 [y0,y1,y2,y3]) (h:QAt V pb m T A n c i bad st) (hg:W.grownBy V (some pb)) (hp:pb<r) (hW:W.heap.size<=r) (hM:M.Ok V 35 (fun b=>W.heap.size<=b∧b≠r)) :
 M.Ok ((((V.setCell ⟨r,0,none⟩ (.string M.op)).setCell ⟨r,1,none⟩ (.int .i64 M.a)).setCell ⟨r,2,none⟩ (.int .i64 M.b)).setCell ⟨r,3,none⟩ (.slice M.s.A M.s.n M.s.c)) 35 (fun b=>W.heap.size<=b) ∧
 QAt ((((V.setCell ⟨r,0,none⟩ (.string M.op)).setCell ⟨r,1,none⟩ (.int .i64 M.a)).setCell ⟨r,2,none⟩ (.int .i64 M.b)).setCell ⟨r,3,none⟩ (.slice M.s.A M.s.n M.s.c)) pb m T A n c i bad st ∧
 W.grownBy ((((V.setCell ⟨r,0,none⟩ (.string M.op)).setCell ⟨r,1,none⟩ (.int .i64 M.a)).setCell ⟨r,2,none⟩ (.int .i64 M.b)).setCell ⟨r,3,none⟩ (.slice M.s.A M.s.n M.s.c)) (some pb) ∧
 Bk ((((V.setCell ⟨r,0,none⟩ (.string M.op)).setCell ⟨r,1,none⟩ (.int .i64 M.a)).setCell ⟨r,2,none⟩ (.int .i64 M.b)).setCell ⟨r,3,none⟩ (.slice M.s.A M.s.n M.s.c)) r 35 [.string M.op,.int .i64 M.a,.int .i64 M.b,.slice M.s.A M.s.n M.s.c]:=by
 have b1:=hr.set 0 (.string M.op);have b2:=b1.set 1 (.int .i64 M.a);have b3:=b2.set 2 (.int .i64 M.b);have b4:=b3.set 3 (.slice M.s.A M.s.n M.s.c);have s:∀(U:World) (k:Nat) (u:Value),W.grownBy U (some pb)->W.grownBy (U.setCell ⟨r,k,none⟩ u) (some pb):=fun U k u g =>
  ⟨g.os,g.tape,g.output,by simpa using g.size,fun b hb hne=>((grown_setCell U r k u).block b (Nat.lt_of_lt_of_le hb g.size) (by simp;omega)).trans (g.block b hb hne)⟩
 refine⟨(hM.grown (four_self V r (.string M.op) (.int .i64 M.a) (.int .i64 M.b) (.slice M.s.A M.s.n M.s.c)) fun b hb=>by simp;exact hb.2).mono fun b _ hb=>hb.1,(((h.far hr hp (by decide) (by decide) (by decide) _).far b1 hp (by decide) (by decide) (by decide) _).far b2 hp (by decide) (by decide) (by decide) _).far b3 hp (by decide) (by decide) (by decide) _,s _ _ _ (s _ _ _ (s _ _ _ (s _ _ _ hg))),b4⟩
theorem leaf_mk (W:World) (P:Nat->Prop) {op:ByteArray} {a b:Int} (hop:op.size<=8192) (ha:In64 a) (hb:In64 b):MkM.Ok W 35 P ⟨op,a,b,[],⟨none,0,0⟩⟩:=.mk _ _ _ _ _ (.inl rfl) rfl (by decide) hop ha hb (fun k hk=>by cases hk)
theorem field153 (k n a:Int) (s:ByteArray) (w:World):(Instr.field 153 (.agg #[.int .i64 k,.string s,.int .i64 n,.int .i64 a]) 1).run Tryz.prog w=.ok (.string s) w:=by kernel_rfl
theorem field153n (k n a:Int) (s:ByteArray) (w:World):(Instr.field 153 (.agg #[.int .i64 k,.string s,.int .i64 n,.int .i64 a]) 2).run Tryz.prog w=.ok (.int .i64 n) w:=by kernel_rfl
theorem cond_end {W:World} {pb:Nat} {m:CatM} {T:List Tok} {A:Option Addr} {n c i:Nat} {st:PSt} (h:QAt W pb m T A n c i false st) (hni:n<=i) :
 Calls Tryz.prog 135 #[.pointer (some ⟨pb,0,none⟩)] W (RPost W pb m T A n c (condP kindNs (m.rules.map RuM.name) (m.items.map It.name) (T.drop i) st)):=by
 have H:=iH h;have hpl:=h.pk.lt;have hfew:=h.few;have HQ:Hid (T.drop i=[]):=iH (List.drop_of_length_le (by have:=h.len;omega));have HR0:condP kindNs (m.rules.map RuM.name) (m.items.map It.name) (T.drop i) st=.bad []:=by rw[HQ.out];rfl
 rw[HR0];have hni2:n<=i:=hni;have y1:Below W.heap.size W (W.alloc (.cells #[.string ⟨#[]⟩,.int .i64 0,.int .i64 0,.slice none 0 0] 35)):=(Below.refl _ _).alloc (Nat.le_refl _) _;have H1:=iH (h.below y1);clear y1 h HR0;go_enter Tryz.func135,Tryz.ntmps135;go_wp2;refine wp_region_X (fun w'=>Bk w' pb 150 [.slice m.si.A m.si.n m.si.c,.slice m.sr.A m.sr.n m.sr.c,.slice m.st.A m.st.n m.st.c,.slice m.sx.A m.sx.n m.sx.c,.slice A n c,.int .i64 (i:Int),.bool false,.int .i64 st.1,.int .i64 st.2]) 26 (n:=26) rfl (by kernel_rfl) (H1.out.pk.drew) (fun hS=>?_);refine tU 0 (some 12) (v:=?_) rfl ⟨rfl,?_⟩ hS ?_;rotate_left
 ·intro w' hS';(go_simp;try with_reducible rfl)
 simp only[Act.put,Pa,Pb,Pc];refine tU 1 (some 13) (v:=?_) rfl ⟨rfl,?_⟩ hS ?_;rotate_left
 ·intro w' hS';(go_simp;try with_reducible rfl)
 simp only[Act.put,Pa,Pb,Pc];refine tU 2 (some 14) (v:=?_) rfl ⟨rfl,?_⟩ hS ?_;rotate_left
 ·intro w' hS';(go_simp;try with_reducible rfl)
 simp only[Act.put,Pa,Pb,Pc];refine tU 3 (some 15) (v:=?_) rfl ⟨rfl,?_⟩ hS ?_;rotate_left
 ·intro w' hS';have e0:=hS'.k0;have e1:=hS'.k1;have e2:=hS'.k2;have e3:=hS'.k3;have e4:=hS'.k4;have e5:=hS'.k5;have e6:=hS'.k6;have e7:=hS'.k7;have e8:=hS'.k8;have el:=hS'.lt;(go_simp;try with_reducible rfl)
 simp only[Act.put,Pa,Pb,Pc];refine tU 4 (some 16) (v:=?_) rfl ⟨rfl,?_⟩ hS ?_;rotate_left
 ·intro w' hS';(go_simp;try with_reducible rfl)
 simp only[Act.put,Pa,Pb,Pc];refine tU 5 (some 17) (v:=?_) rfl ⟨rfl,?_⟩ hS ?_;rotate_left
 ·intro w' hS';(go_simp;try with_reducible rfl)
 simp only[Act.put,Pa,Pb,Pc];refine tU 6 (some 18) (v:=?_) rfl ⟨rfl,?_⟩ hS ?_;rotate_left
 ·intro w' hS';(go_simp;try with_reducible rfl)
 simp only[Act.put,Pa,Pb,Pc];refine tU 7 (some 19) (v:=?_) rfl ⟨rfl,?_⟩ hS ?_;rotate_left
 ·intro w' hS';have e0:=hS'.k0;have e1:=hS'.k1;have e2:=hS'.k2;have e3:=hS'.k3;have e4:=hS'.k4;have e5:=hS'.k5;have e6:=hS'.k6;have e7:=hS'.k7;have e8:=hS'.k8;have el:=hS'.lt;(go_simp;try with_reducible rfl)
 simp only[Act.put,Pa,Pb,Pc];refine tU 8 (some 20) (v:=?_) rfl ⟨rfl,?_⟩ hS ?_;rotate_left
 ·intro w' hS';(go_simp;try with_reducible rfl)
 simp only[Act.put,Pa,Pb,Pc];refine tU 9 (some 21) (v:=?_) rfl ⟨rfl,?_⟩ hS ?_;rotate_left
 ·intro w' hS';(go_simp;try with_reducible rfl)
 simp only[Act.put,Pa,Pb,Pc];refine tU 10 (some 22) (v:=?_) rfl ⟨rfl,?_⟩ hS ?_;rotate_left
 ·intro w' hS';(go_simp;try with_reducible rfl)
 simp only[Act.put,Pa,Pb,Pc];refine X_skipU 12 (some 24) (listed':=#[true,true,true,true,true,true,true,true,true,true,true,false,true,false,false,false,false,false,false,false,false,false,false,false,false,false]) rfl rfl rfl (by kernel_rfl) rfl (fun _ _ _ h=>h) rfl hS ?_;simp only[Act.put,Pa,Pb,Pc];refine X_skipU 13 (some 25) (listed':=#[true,true,true,true,true,true,true,true,true,true,true,false,true,true,false,false,false,false,false,false,false,false,false,false,false,false]) rfl rfl rfl (by kernel_rfl) rfl (fun _ _ _ h=>h) rfl hS ?_;simp only[Act.put,Pa,Pb,Pc];refine X_skipU 14 (some 26) (listed':=#[true,true,true,true,true,true,true,true,true,true,true,false,true,true,true,false,false,false,false,false,false,false,false,false,false,false]) rfl rfl rfl (by kernel_rfl) rfl (fun _ _ _ h=>h) rfl hS ?_;simp only[Act.put,Pa,Pb,Pc];refine X_skipU 15 (some 27) (listed':=#[true,true,true,true,true,true,true,true,true,true,true,false,true,true,true,true,false,false,false,false,false,false,false,false,false,false]) rfl rfl rfl (by kernel_rfl) rfl (fun _ _ _ h=>h) rfl hS ?_;simp only[Act.put,Pa,Pb,Pc];refine X_skipU 16 (some 28) (listed':=#[true,true,true,true,true,true,true,true,true,true,true,false,true,true,true,true,true,false,false,false,false,false,false,false,false,false]) rfl rfl rfl (by kernel_rfl) rfl (fun _ _ _ h=>h) rfl hS ?_;simp only[Act.put,Pa,Pb,Pc];refine X_skipU 17 (some 29) (listed':=#[true,true,true,true,true,true,true,true,true,true,true,false,true,true,true,true,true,true,false,false,false,false,false,false,false,false]) rfl rfl rfl (by kernel_rfl) rfl (fun _ _ _ h=>h) rfl hS ?_;simp only[Act.put,Pa,Pb,Pc];refine X_skipU 18 (some 30) (listed':=#[true,true,true,true,true,true,true,true,true,true,true,false,true,true,true,true,true,true,true,false,false,false,false,false,false,false]) rfl rfl rfl (by kernel_rfl) rfl (fun _ _ _ h=>h) rfl hS ?_;simp only[Act.put,Pa,Pb,Pc];refine X_skipU 19 (some 31) (listed':=#[true,true,true,true,true,true,true,true,true,true,true,false,true,true,true,true,true,true,true,true,false,false,false,false,false,false]) rfl rfl rfl (by kernel_rfl) rfl (fun _ _ _ h=>h) rfl hS ?_;simp only[Act.put,Pa,Pb,Pc];refine X_skipU 20 (some 32) (listed':=#[true,true,true,true,true,true,true,true,true,true,true,false,true,true,true,true,true,true,true,true,true,false,false,false,false,false]) rfl rfl rfl (by kernel_rfl) rfl (fun _ _ _ h=>h) rfl hS ?_;simp only[Act.put,Pa,Pb,Pc];refine X_skipU 21 (some 33) (listed':=#[true,true,true,true,true,true,true,true,true,true,true,false,true,true,true,true,true,true,true,true,true,true,false,false,false,false]) rfl rfl rfl (by kernel_rfl) rfl (fun _ _ _ h=>h) rfl hS ?_;simp only[Act.put,Pa,Pb,Pc];refine X_skipU 22 (some 34) (listed':=#[true,true,true,true,true,true,true,true,true,true,true,false,true,true,true,true,true,true,true,true,true,true,true,false,false,false]) rfl rfl rfl (by kernel_rfl) rfl (fun _ _ _ h=>h) rfl hS ?_;simp only[Act.put,Pa,Pb,Pc];refine X_o 11 rfl fun K hK=>?_;go_simp;refine hK _ _ (H1.out.pk.drew) ?_;clear hK;refine X_o 23 rfl fun K hK=>?_;go_simp;refine hK _ _ (H1.out.pk.drew) ?_;clear hK;refine X_skipU 24 (some 36) (listed':=#[true,true,true,true,true,true,true,true,true,true,true,true,true,true,true,true,true,true,true,true,true,true,true,true,true,false]) rfl rfl rfl (by kernel_rfl) rfl (fun _ _ _ h=>h) rfl hS ?_;simp only[Act.put,Pa,Pb,Pc];refine tU 25 (some 37) (v:=?_) rfl ⟨rfl,?_⟩ hS ?_;rotate_left
 ·intro w' hS';(go_simp;try with_reducible rfl)
 simp only[Act.put,Pa,Pb,Pc];refine X_done (by kernel_rfl) ?_;clear hS;have HV:=iH (H.out.set (k:=6) (u:=.bool true) (i':=i) (bad':=true) (st':=st) rfl H.out.le);have hsz:(W.setCell ⟨pb,6,none⟩ (.bool true)).heap.size=W.heap.size:=by simp
 have yv:Below (W.setCell ⟨pb,6,none⟩ (.bool true)).heap.size (W.setCell ⟨pb,6,none⟩ (.bool true)) ((W.setCell ⟨pb,6,none⟩ (.bool true)).alloc (.cells #[.string ⟨#[]⟩,.int .i64 0,.int .i64 0,.slice none 0 0] 35)).drew:=((Below.refl _ _).alloc (Nat.le_refl _) _).drew;have HP1:=iH (HV.out.below yv);have HXB:Bk ((W.setCell ⟨pb,6,none⟩ (.bool true)).alloc (.cells #[.string ⟨#[]⟩,.int .i64 0,.int .i64 0,.slice none 0 0] 35)).drew W.heap.size 35 [.string ⟨#[]⟩,.int .i64 0,.int .i64 0,.slice none 0 0]:=by
  have:=(Bk.new (W.setCell ⟨pb,6,none⟩ (.bool true)) 35 [.string ⟨#[]⟩,.int .i64 0,.int .i64 0,.slice none 0 0]).drew;rw[hsz]at this;exact this
 have HG1:Hid (W.grownBy ((W.setCell ⟨pb,6,none⟩ (.bool true)).alloc (.cells #[.string ⟨#[]⟩,.int .i64 0,.int .i64 0,.slice none 0 0] 35)).drew (some pb)):=iH (grown_trans (grown_setCell W pb 6 _) (grown_of_below yv _));clear yv hsz;have g0:(W.alloc (.cells #[.string ⟨#[]⟩,.int .i64 0,.int .i64 0,.slice none 0 0] 35)).drew.cell? ⟨pb,0,none⟩=some (.slice m.si.A m.si.n m.si.c):=H1.out.drew.pk.cell 0;have g1:(W.alloc (.cells #[.string ⟨#[]⟩,.int .i64 0,.int .i64 0,.slice none 0 0] 35)).drew.cell? ⟨pb,1,none⟩=some (.slice m.sr.A m.sr.n m.sr.c):=H1.out.drew.pk.cell 1;have g2:(W.alloc (.cells #[.string ⟨#[]⟩,.int .i64 0,.int .i64 0,.slice none 0 0] 35)).drew.cell? ⟨pb,2,none⟩=some (.slice m.st.A m.st.n m.st.c):=H1.out.drew.pk.cell 2;have g3:(W.alloc (.cells #[.string ⟨#[]⟩,.int .i64 0,.int .i64 0,.slice none 0 0] 35)).drew.cell? ⟨pb,3,none⟩=some (.slice m.sx.A m.sx.n m.sx.c):=H1.out.drew.pk.cell 3;have g4:(W.alloc (.cells #[.string ⟨#[]⟩,.int .i64 0,.int .i64 0,.slice none 0 0] 35)).drew.cell? ⟨pb,4,none⟩=some (.slice A n c):=H1.out.drew.pk.cell 4;have g5:(W.alloc (.cells #[.string ⟨#[]⟩,.int .i64 0,.int .i64 0,.slice none 0 0] 35)).drew.cell? ⟨pb,5,none⟩=some (.int .i64 (i:Int)):=H1.out.drew.pk.cell 5;have g6:(W.alloc (.cells #[.string ⟨#[]⟩,.int .i64 0,.int .i64 0,.slice none 0 0] 35)).drew.cell? ⟨pb,6,none⟩=some (.bool false):=H1.out.drew.pk.cell 6;have g7:(W.alloc (.cells #[.string ⟨#[]⟩,.int .i64 0,.int .i64 0,.slice none 0 0] 35)).drew.cell? ⟨pb,7,none⟩=some (.int .i64 st.1):=H1.out.drew.pk.cell 7;have g8:(W.alloc (.cells #[.string ⟨#[]⟩,.int .i64 0,.int .i64 0,.slice none 0 0] 35)).drew.cell? ⟨pb,8,none⟩=some (.int .i64 st.2):=H1.out.drew.pk.cell 8;have gl:=H1.out.drew.pk.lt;have gf:=H1.out.drew.pk.frozen 6;go_wp2;generalize((W.setCell ⟨pb,6,none⟩ (.bool true)).alloc (.cells #[.string ⟨#[]⟩,.int .i64 0,.int .i64 0,.slice none 0 0] 35)).drew=X at *;have xx0:=HXB.k0;have xx1:=HXB.k1;have xx2:=HXB.k2;have xx3:=HXB.k3;refine bodyPost_ret (v:=.agg #[.string ⟨#[]⟩,.int .i64 0,.int .i64 0,.slice none 0 0]) (by simp[results,Tryz.results135,go_sem,xx0,xx1,xx2,xx3]) rfl ?_;exact⟨⟨⟨#[]⟩,0,0,[],⟨none,0,0⟩⟩,i,true,st,rfl,leaf_mk _ _ (by decide) ⟨by decide,by decide⟩ ⟨by decide,by decide⟩,HP1.out,HG1.out,rfl,HQ.out⟩
theorem cond_no {W:World} {pb:Nat} {m:CatM} {T:List Tok} {A:Option Addr} {n c i:Nat} {st:PSt} {t:Tok} (h:QAt W pb m T A n c i false st) (hi:i<n) (ht:T[i]? = some t) (ho:isOp t.text=false) :
 Calls Tryz.prog 135 #[.pointer (some ⟨pb,0,none⟩)] W (RPost W pb m T A n c (condP kindNs (m.rules.map RuM.name) (m.items.map It.name) (T.drop i) st)):=by
 have H:=iH h;have hpl:=h.pk.lt;have hfew:=h.few;have hit:i<T.length:=by have:=h.len;omega
 obtain⟨bb,off,rfl,hel,hbb⟩:=h.at_ hit;have HEL:Hid (∀w',Below W.heap.size W w'->((w'.cell? ⟨bb,off+i*4,none⟩=some (.int .i64 T[i].kind)∧w'.cell? ⟨bb,off+i*4+1,none⟩=some (.string T[i].text)∧w'.cell? ⟨bb,off+i*4+2,none⟩=some (.int .i64 T[i].num)∧w'.cell? ⟨bb,off+i*4+3,none⟩=some (.int .i64 T[i].at_))∧bb<w'.heap.size)):=iH fun U hU =>
  ⟨⟨(hU.cell (p:=⟨bb,off+i*4,none⟩) hbb).trans hel.1,(hU.cell (p:=⟨bb,off+i*4+1,none⟩) hbb).trans hel.2.1,(hU.cell (p:=⟨bb,off+i*4+2,none⟩) hbb).trans hel.2.2.1,(hU.cell (p:=⟨bb,off+i*4+3,none⟩) hbb).trans hel.2.2.2⟩,Nat.lt_of_lt_of_le hbb hU.size⟩
 have hiI:(i:Int)<n:=by omega
 have hni:¬ n<=i:=by omega
 have hnI:(n:Int)<=8192:=by omega
 have htt:T[i]=t:=by rw[List.getElem?_eq_getElem hit]at ht;exact Option.some.inj ht
 rw[htt]at HEL;have y1:Below W.heap.size W (W.alloc (.cells #[.string ⟨#[]⟩,.int .i64 0,.int .i64 0,.slice none 0 0] 35)):=(Below.refl _ _).alloc (Nat.le_refl _) _;have Y1:=iH y1;have H1:=iH (h.below y1);have HR:=iH (Bk.new W 35 [.string ⟨#[]⟩,.int .i64 0,.int .i64 0,.slice none 0 0]);have HTK:=iH (h.toks t (by rw[<- htt];exact List.getElem_mem hit));clear hel hbb htt y1 h;have HQ:Hid (T.drop i=t :: T.drop (i+1)):=iH (by rw[List.drop_eq_getElem_cons hit];rw[List.getElem?_eq_getElem hit]at ht;rw[Option.some.inj ht]);have HR0:condP kindNs (m.rules.map RuM.name) (m.items.map It.name) (T.drop i) st=.bad (t :: T.drop (i+1)):=by
  rw[HQ.out];simp only[condP];rw[if_pos (.inr ho)]
 rw[HR0];have HX:Hid (ixOf condNs t.text<0):=iH (by rw[ix_isOp];exact ho);clear HR0 ho ht hit;go_enter Tryz.func135,Tryz.ntmps135;go_wp2;refine wp_region_X (fun w'=>Bk w' pb 150 [.slice m.si.A m.si.n m.si.c,.slice m.sr.A m.sr.n m.sr.c,.slice m.st.A m.st.n m.st.c,.slice m.sx.A m.sx.n m.sx.c,.slice (some ⟨bb,off,none⟩) n c,.int .i64 (i:Int),.bool false,.int .i64 st.1,.int .i64 st.2]∧((w'.cell? ⟨bb,off+i*4,none⟩=some (.int .i64 t.kind)∧w'.cell? ⟨bb,off+i*4+1,none⟩=some (.string t.text)∧w'.cell? ⟨bb,off+i*4+2,none⟩=some (.int .i64 t.num)∧w'.cell? ⟨bb,off+i*4+3,none⟩=some (.int .i64 t.at_))∧bb<w'.heap.size)) 26 (n:=26) rfl (by kernel_rfl) (⟨H1.out.pk.drew,HEL.out _ Y1.out.drew⟩) (fun hS=>?_);refine tU 0 (some 12) (v:=?_) rfl ⟨rfl,?_⟩ hS ?_;rotate_left
 ·intro w' hS';(go_simp;try with_reducible rfl)
 simp only[Act.put,Pa,Pb,Pc];refine tU 1 (some 13) (v:=?_) rfl ⟨rfl,?_⟩ hS ?_;rotate_left
 ·intro w' hS';(go_simp;try with_reducible rfl)
 simp only[Act.put,Pa,Pb,Pc];refine tU 2 (some 14) (v:=?_) rfl ⟨rfl,?_⟩ hS ?_;rotate_left
 ·intro w' hS';(go_simp;try with_reducible rfl)
 simp only[Act.put,Pa,Pb,Pc];refine tU 3 (some 15) (v:=?_) rfl ⟨rfl,?_⟩ hS ?_;rotate_left
 ·intro w' hS';have e0:=hS'.1.k0;have e1:=hS'.1.k1;have e2:=hS'.1.k2;have e3:=hS'.1.k3;have e4:=hS'.1.k4;have e5:=hS'.1.k5;have e6:=hS'.1.k6;have e7:=hS'.1.k7;have e8:=hS'.1.k8;have el:=hS'.1.lt;have t0:=hS'.2.1.1;have t1:=hS'.2.1.2.1;have t2:=hS'.2.1.2.2.1;have t3:=hS'.2.1.2.2.2;have tl:=hS'.2.2;(go_simp;try with_reducible rfl)
 simp only[Act.put,Pa,Pb,Pc];refine tU 4 (some 16) (v:=?_) rfl ⟨rfl,?_⟩ hS ?_;rotate_left
 ·intro w' hS';(go_simp;try with_reducible rfl)
 simp only[Act.put,Pa,Pb,Pc];refine tU 5 (some 17) (v:=?_) rfl ⟨rfl,?_⟩ hS ?_;rotate_left
 ·intro w' hS';(go_simp;try with_reducible rfl)
 simp only[Act.put,Pa,Pb,Pc];refine tU 6 (some 18) (v:=?_) rfl ⟨rfl,?_⟩ hS ?_;rotate_left
 ·intro w' hS';(go_simp;try with_reducible rfl)
 simp only[Act.put,Pa,Pb,Pc];refine tU 7 (some 19) (v:=?_) rfl ⟨rfl,?_⟩ hS ?_;rotate_left
 ·intro w' hS';have e0:=hS'.1.k0;have e1:=hS'.1.k1;have e2:=hS'.1.k2;have e3:=hS'.1.k3;have e4:=hS'.1.k4;have e5:=hS'.1.k5;have e6:=hS'.1.k6;have e7:=hS'.1.k7;have e8:=hS'.1.k8;have el:=hS'.1.lt;have t0:=hS'.2.1.1;have t1:=hS'.2.1.2.1;have t2:=hS'.2.1.2.2.1;have t3:=hS'.2.1.2.2.2;have tl:=hS'.2.2;(go_simp;try with_reducible rfl)
 simp only[Act.put,Pa,Pb,Pc];refine tU 8 (some 20) (v:=?_) rfl ⟨rfl,?_⟩ hS ?_;rotate_left
 ·intro w' hS';(go_simp;try with_reducible rfl)
 simp only[Act.put,Pa,Pb,Pc];refine tU 9 (some 21) (v:=?_) rfl ⟨rfl,?_⟩ hS ?_;rotate_left
 ·intro w' hS';(go_simp;try with_reducible rfl)
 simp only[Act.put,Pa,Pb,Pc];refine tU 10 (some 22) (v:=?_) rfl ⟨rfl,?_⟩ hS ?_;rotate_left
 ·intro w' hS';(go_simp;try with_reducible rfl)
 simp only[Act.put,Pa,Pb,Pc];refine tU 12 (some 24) (v:=?_) rfl ⟨rfl,?_⟩ hS ?_;rotate_left
 ·intro w' hS';(go_simp;try with_reducible rfl)
 simp only[Act.put,Pa,Pb,Pc];refine tU 13 (some 25) (v:=?_) rfl ⟨rfl,?_⟩ hS ?_;rotate_left
 ·intro w' hS';(go_simp;try with_reducible rfl)
 simp only[Act.put,Pa,Pb,Pc];refine tU 14 (some 26) (v:=?_) rfl ⟨rfl,?_⟩ hS ?_;rotate_left
 ·intro w' hS';(go_simp;try with_reducible rfl)
 simp only[Act.put,Pa,Pb,Pc];refine tU 15 (some 27) (v:=?_) rfl ⟨rfl,?_⟩ hS ?_;rotate_left
 ·intro w' hS';have e0:=hS'.1.k0;have e1:=hS'.1.k1;have e2:=hS'.1.k2;have e3:=hS'.1.k3;have e4:=hS'.1.k4;have e5:=hS'.1.k5;have e6:=hS'.1.k6;have e7:=hS'.1.k7;have e8:=hS'.1.k8;have el:=hS'.1.lt;have t0:=hS'.2.1.1;have t1:=hS'.2.1.2.1;have t2:=hS'.2.1.2.2.1;have t3:=hS'.2.1.2.2.2;have tl:=hS'.2.2;(go_simp;try with_reducible rfl)
 simp only[Act.put,Pa,Pb,Pc];refine tU 16 (some 28) (v:=?_) rfl ⟨rfl,?_⟩ hS ?_;rotate_left
 ·intro w' hS';(go_simp;try with_reducible rfl)
 simp only[Act.put,Pa,Pb,Pc];refine tU 17 (some 29) (v:=?_) rfl ⟨rfl,?_⟩ hS ?_;rotate_left
 ·intro w' hS';(go_simp;try with_reducible rfl)
 simp only[Act.put,Pa,Pb,Pc];refine tU 18 (some 30) (v:=?_) rfl ⟨rfl,?_⟩ hS ?_;rotate_left
 ·intro w' hS';(go_simp;try with_reducible rfl)
 simp only[Act.put,Pa,Pb,Pc];refine tU 19 (some 31) (v:=?_) rfl ⟨rfl,?_⟩ hS ?_;rotate_left
 ·intro w' hS';have e0:=hS'.1.k0;have e1:=hS'.1.k1;have e2:=hS'.1.k2;have e3:=hS'.1.k3;have e4:=hS'.1.k4;have e5:=hS'.1.k5;have e6:=hS'.1.k6;have e7:=hS'.1.k7;have e8:=hS'.1.k8;have el:=hS'.1.lt;have t0:=hS'.2.1.1;have t1:=hS'.2.1.2.1;have t2:=hS'.2.1.2.2.1;have t3:=hS'.2.1.2.2.2;have tl:=hS'.2.2;(go_simp;try with_reducible rfl)
 simp only[Act.put,Pa,Pb,Pc];refine tU 20 (some 32) (v:=?_) rfl ⟨rfl,?_⟩ hS ?_;rotate_left
 ·intro w' hS';(go_simp;try with_reducible rfl)
 simp only[Act.put,Pa,Pb,Pc];refine tU 21 (some 33) (v:=?_) rfl ⟨rfl,?_⟩ hS ?_;rotate_left
 ·intro w' hS';(go_simp;try with_reducible rfl)
 simp only[Act.put,Pa,Pb,Pc];refine tU 22 (some 34) (v:=?_) rfl ⟨rfl,?_⟩ hS ?_;rotate_left
 ·intro w' hS';have e0:=hS'.1.k0;have e1:=hS'.1.k1;have e2:=hS'.1.k2;have e3:=hS'.1.k3;have e4:=hS'.1.k4;have e5:=hS'.1.k5;have e6:=hS'.1.k6;have e7:=hS'.1.k7;have e8:=hS'.1.k8;have el:=hS'.1.lt;have t0:=hS'.2.1.1;have t1:=hS'.2.1.2.1;have t2:=hS'.2.1.2.2.1;have t3:=hS'.2.1.2.2.2;have tl:=hS'.2.2;(go_simp;try with_reducible rfl)
 simp only[Act.put,Pa,Pb,Pc];refine X_o 11 rfl fun K hK=>?_;go_simp;have K1:=iH (condNs_any (W.alloc (.cells #[.string ⟨#[]⟩,.int .i64 0,.int .i64 0,.slice none 0 0] 35)).drew);(with_reducible refine K1.out.mono ?_);rintro e w2 ⟨A1,n1,c1,rfl,hnm,hb⟩;have hd:=(Below.refl (W.alloc (.cells #[.string ⟨#[]⟩,.int .i64 0,.int .i64 0,.slice none 0 0] 35)).heap.size (W.alloc (.cells #[.string ⟨#[]⟩,.int .i64 0,.int .i64 0,.slice none 0 0] 35))).drew.trans hb;have Y2:=iH (Y1.out.trans (hd.mono Y1.out.size));have H2:=iH (H1.out.below hd);have HR2:=iH (HR.out.below hd HR.out.lt);have HNM:=iH hnm;refine hK _ _ ⟨H2.out.pk,HEL.out _ Y2.out⟩ ?_;clear hK K1 hnm hb hd;refine X_o 23 rfl fun K hK=>?_;go_simp;have K1:=iH (rindex_any (c:=c1) t.text HNM.out);(with_reducible refine K1.out.mono ?_);rintro e w2 ⟨rfl,rfl⟩;refine hK _ _ ⟨H2.out.pk,HEL.out _ Y2.out⟩ ?_;clear hK K1 HNM;refine tU 24 (some 36) (v:=?_) rfl ⟨rfl,?_⟩ ⟨H2.out.pk,HEL.out _ Y2.out⟩ ?_;rotate_left
 ·intro w' hS';(go_simp;try with_reducible rfl)
 simp only[Act.put,Pa,Pb,Pc];refine tU 25 (some 37) (v:=?_) rfl ⟨rfl,?_⟩ ⟨H2.out.pk,HEL.out _ Y2.out⟩ ?_;rotate_left
 ·intro w' hS';(go_simp;try with_reducible rfl)
 simp only[Act.put,Pa,Pb,Pc];refine X_done (by kernel_rfl) ?_;clear hS;have hx1:ixOf condNs t.text<0:=HX.out;generalize ixOf condNs t.text=ix at *;have g0:=H2.out.pk.k0;have g1:=H2.out.pk.k1;have g2:=H2.out.pk.k2;have g3:=H2.out.pk.k3;have g4:=H2.out.pk.k4;have g5:=H2.out.pk.k5;have g6:=H2.out.pk.k6;have g7:=H2.out.pk.k7;have g8:=H2.out.pk.k8;have gl:=H2.out.pk.lt;have gf:=H2.out.pk.frozen 6;have r0:=HR2.out.k0;have r1:=HR2.out.k1;have r2:=HR2.out.k2;have r3:=HR2.out.k3;have rl:=HR2.out.lt;have rf0:=HR2.out.frozen 0;have rf1:=HR2.out.frozen 1;have rf2:=HR2.out.frozen 2;have rf3:=HR2.out.frozen 3;have HG0:=iH (grown_of_below Y2.out (some pb));go_wp2;have hX:=lay_mq (M:=⟨⟨#[]⟩,0,0,[],⟨none,0,0⟩⟩) (HR2.out.setOther (b:=pb) (k:=6) (u:=.bool true) (by omega)) (H2.out.set (k:=6) (u:=.bool true) (i':=i) (bad':=true) (st':=st) rfl H2.out.le) (grown_trans HG0.out (grown_setCell w2 pb 6 _)) (by omega) (Nat.le_refl _) (leaf_mk _ _ (by decide) ⟨by decide,by decide⟩ ⟨by decide,by decide⟩);dsimp only at hX;generalize((((w2.setCell ⟨pb,6,none⟩ (.bool true)).setCell ⟨W.heap.size,0,none⟩ (.string ⟨#[]⟩)).setCell ⟨W.heap.size,1,none⟩ (.int .i64 0)).setCell ⟨W.heap.size,2,none⟩ (.int .i64 0)).setCell ⟨W.heap.size,3,none⟩ (.slice none 0 0)=X at *;have HXB:=hX.2.2.2;have xx0:=HXB.k0;have xx1:=HXB.k1;have xx2:=HXB.k2;have xx3:=HXB.k3;refine bodyPost_ret (v:=.agg #[.string ⟨#[]⟩,.int .i64 0,.int .i64 0,.slice none 0 0]) (by simp[results,Tryz.results135,go_sem,xx0,xx1,xx2,xx3]) rfl ?_;exact⟨⟨⟨#[]⟩,0,0,[],⟨none,0,0⟩⟩,i,true,st,rfl,hX.1,hX.2.1,hX.2.2.1,rfl,HQ.out⟩
theorem named_rel {l:List ByteArray} {f:Int->Mk} {T:List Tok} {i:Nat} {st:PSt} {u:Tok} {i2:Nat} {b2:Bool} {K:Mk} (h:tk T 0 ⟨#[]⟩ (i+1) false=(u,i2,b2)) (hM:∀j,nameIx l u.text=some j->K=f j) :
 match nameP l f (T.drop (i+1)) st with
 | .bad r=>b2=true∧T.drop i2=r
 | .ok k r st1=>b2=false∧T.drop i2=r∧nameSt l u st=st1∧(st1.1=0->K=k):=by
 unfold tk at h;cases hT:T[i+1]? with
 | none =>
   rw[hT]at h;simp only[Prod.mk.injEq]at h;have hd:T.drop (i+1)=[]:=List.drop_of_length_le (List.getElem?_eq_none_iff.1 hT);rw[hd];obtain⟨-,rfl,rfl⟩:=h;exact⟨by first | rfl | trivial,hd⟩
 | some t =>
   have hl:i+1<T.length:=(List.getElem?_eq_some_iff.1 hT).1;have hd:T.drop (i+1)=t :: T.drop (i+2):=by
    rw[List.drop_eq_getElem_cons hl];rw[List.getElem?_eq_getElem hl]at hT;rw[Option.some.inj hT]
   rw[hT]at h;simp only[true_or,and_true]at h;rw[hd];by_cases hk:t.kind=0
   ·rw[if_pos hk]at h;simp only[Prod.mk.injEq]at h;obtain⟨rfl,rfl,rfl⟩:=h;simp only[nameP];rw[if_neg (by simpa using hk)];cases hx:nameIx l t.text with
    | some j=>exact⟨by first | rfl | trivial,by first | rfl | trivial,by simp[nameSt,hx],fun _=>hM j hx⟩
    | none=>exact⟨by first | rfl | trivial,by first | rfl | trivial,by simp[nameSt,hx],fun hz=>by
     try dsimp only at hz
     unfold PSt.note at hz
     split at hz
     ·cases hz
     ·contradiction⟩
   ·rw[if_neg hk]at h;simp only[Prod.mk.injEq]at h;obtain⟨-,rfl,rfl⟩:=h;simp only[nameP];rw[if_pos hk];exact⟨by first | rfl | trivial,hd⟩
theorem grown_fresh {W U:World} {pb r k:Nat} {u:Value} (g:W.grownBy U (some pb)) (hr:W.heap.size<=r):W.grownBy (U.setCell ⟨r,k,none⟩ u) (some pb) :=
 ⟨g.os,g.tape,g.output,by simpa using g.size,fun b hb hne=>((grown_setCell U r k u).block b (Nat.lt_of_lt_of_le hb g.size) (by simp;omega)).trans (g.block b hb hne)⟩
theorem cond_Kind {W:World} {pb:Nat} {m:CatM} {T:List Tok} {A:Option Addr} {n c i:Nat} {st:PSt} {t:Tok} (h:QAt W pb m T A n c i false st) (hi:i<n) (ht:T[i]? = some t) (hop:t.text=sKind) :
 Calls Tryz.prog 135 #[.pointer (some ⟨pb,0,none⟩)] W (RPost W pb m T A n c (condP kindNs (m.rules.map RuM.name) (m.items.map It.name) (T.drop i) st)):=by
 have H:=iH h;have hpl:=h.pk.lt;have hfew:=h.few;have hit:i<T.length:=by have:=h.len;omega
 obtain⟨bb,off,rfl,hel,hbb⟩:=h.at_ hit;have HEL:Hid (∀w',Below W.heap.size W w'->((w'.cell? ⟨bb,off+i*4,none⟩=some (.int .i64 T[i].kind)∧w'.cell? ⟨bb,off+i*4+1,none⟩=some (.string T[i].text)∧w'.cell? ⟨bb,off+i*4+2,none⟩=some (.int .i64 T[i].num)∧w'.cell? ⟨bb,off+i*4+3,none⟩=some (.int .i64 T[i].at_))∧bb<w'.heap.size)):=iH fun U hU =>
  ⟨⟨(hU.cell (p:=⟨bb,off+i*4,none⟩) hbb).trans hel.1,(hU.cell (p:=⟨bb,off+i*4+1,none⟩) hbb).trans hel.2.1,(hU.cell (p:=⟨bb,off+i*4+2,none⟩) hbb).trans hel.2.2.1,(hU.cell (p:=⟨bb,off+i*4+3,none⟩) hbb).trans hel.2.2.2⟩,Nat.lt_of_lt_of_le hbb hU.size⟩
 have hiI:(i:Int)<n:=by omega
 have hni:¬ n<=i:=by omega
 have hnI:(n:Int)<=8192:=by omega
 have htt:T[i]=t:=by rw[List.getElem?_eq_getElem hit]at ht;exact Option.some.inj ht
 rw[htt]at HEL;have y1:Below W.heap.size W (W.alloc (.cells #[.string ⟨#[]⟩,.int .i64 0,.int .i64 0,.slice none 0 0] 35)):=(Below.refl _ _).alloc (Nat.le_refl _) _;have Y1:=iH y1;have H1:=iH (h.below y1);have HR:=iH (Bk.new W 35 [.string ⟨#[]⟩,.int .i64 0,.int .i64 0,.slice none 0 0]);have HTK:=iH (h.toks t (by rw[<- htt];exact List.getElem_mem hit));clear hel hbb htt y1 h;have HQ:Hid (T.drop i=t :: T.drop (i+1)):=iH (by rw[List.drop_eq_getElem_cons hit];rw[List.getElem?_eq_getElem hit]at ht;rw[Option.some.inj ht]);have hio:isOp t.text=true:=by rw[hop];decide
 have hk0:t.kind=0:=HTK.out.2.2.1 (by rw[hop];decide);have HX:Hid (¬ ixOf condNs t.text<0):=iH (by rw[ix_isOp,hio];simp);have qKind:(t.text.toList == [107,105,110,100])=true:=by rw[hop,<- lKind',eqL];decide
 have qActor:(t.text.toList == [97,99,116,111,114])=false:=by rw[hop,<- lActor',eqL];decide
 have qRule:(t.text.toList == [114,117,108,101])=false:=by rw[hop,<- lRule',eqL];decide
 have qTick:(t.text.toList == [116,105,99,107])=false:=by rw[hop,<- lTick',eqL];decide
 have qItem:(t.text.toList == [105,116,101,109])=false:=by rw[hop,<- lItem',eqL];decide
 have qMore:(t.text.toList == [109,111,114,101])=false:=by rw[hop,<- lMore',eqL];decide
 have qStep:(t.text.toList == [115,116,101,112])=false:=by rw[hop,<- lStep',eqL];decide
 have qAccount:(t.text.toList == [97,99,99,111,117,110,116])=false:=by rw[hop,<- lAccount',eqL];decide
 have HOP:=iH hop;clear hit hio hop;have HR0:condP kindNs (m.rules.map RuM.name) (m.items.map It.name) (T.drop i) st=nameP kindNs (fun z=>.node sKind z 0 []) (T.drop (i+1)) st:=by
  rw[HQ.out];simp only[condP];rw[if_neg (by rw[hk0,HOP.out];decide),if_pos HOP.out]
 rw[HR0];clear HR0;go_enter Tryz.func135,Tryz.ntmps135;go_wp2;refine wp_region_X (fun w'=>Bk w' pb 150 [.slice m.si.A m.si.n m.si.c,.slice m.sr.A m.sr.n m.sr.c,.slice m.st.A m.st.n m.st.c,.slice m.sx.A m.sx.n m.sx.c,.slice (some ⟨bb,off,none⟩) n c,.int .i64 (i:Int),.bool false,.int .i64 st.1,.int .i64 st.2]∧((w'.cell? ⟨bb,off+i*4,none⟩=some (.int .i64 t.kind)∧w'.cell? ⟨bb,off+i*4+1,none⟩=some (.string t.text)∧w'.cell? ⟨bb,off+i*4+2,none⟩=some (.int .i64 t.num)∧w'.cell? ⟨bb,off+i*4+3,none⟩=some (.int .i64 t.at_))∧bb<w'.heap.size)) 26 (n:=26) rfl (by kernel_rfl) (⟨H1.out.pk.drew,HEL.out _ Y1.out.drew⟩) (fun hS=>?_);refine tU 0 (some 12) (v:=?_) rfl ⟨rfl,?_⟩ hS ?_;rotate_left
 ·intro w' hS';(go_simp;try with_reducible rfl)
 simp only[Act.put,Pa,Pb,Pc];refine tU 1 (some 13) (v:=?_) rfl ⟨rfl,?_⟩ hS ?_;rotate_left
 ·intro w' hS';(go_simp;try with_reducible rfl)
 simp only[Act.put,Pa,Pb,Pc];refine tU 2 (some 14) (v:=?_) rfl ⟨rfl,?_⟩ hS ?_;rotate_left
 ·intro w' hS';(go_simp;try with_reducible rfl)
 simp only[Act.put,Pa,Pb,Pc];refine tU 3 (some 15) (v:=?_) rfl ⟨rfl,?_⟩ hS ?_;rotate_left
 ·intro w' hS';have e0:=hS'.1.k0;have e1:=hS'.1.k1;have e2:=hS'.1.k2;have e3:=hS'.1.k3;have e4:=hS'.1.k4;have e5:=hS'.1.k5;have e6:=hS'.1.k6;have e7:=hS'.1.k7;have e8:=hS'.1.k8;have el:=hS'.1.lt;have t0:=hS'.2.1.1;have t1:=hS'.2.1.2.1;have t2:=hS'.2.1.2.2.1;have t3:=hS'.2.1.2.2.2;have tl:=hS'.2.2;(go_simp;try with_reducible rfl)
 simp only[Act.put,Pa,Pb,Pc];refine tU 4 (some 16) (v:=?_) rfl ⟨rfl,?_⟩ hS ?_;rotate_left
 ·intro w' hS';(go_simp;try with_reducible rfl)
 simp only[Act.put,Pa,Pb,Pc];refine tU 5 (some 17) (v:=?_) rfl ⟨rfl,?_⟩ hS ?_;rotate_left
 ·intro w' hS';(go_simp;try with_reducible rfl)
 simp only[Act.put,Pa,Pb,Pc];refine tU 6 (some 18) (v:=?_) rfl ⟨rfl,?_⟩ hS ?_;rotate_left
 ·intro w' hS';(go_simp;try with_reducible rfl)
 simp only[Act.put,Pa,Pb,Pc];refine tU 7 (some 19) (v:=?_) rfl ⟨rfl,?_⟩ hS ?_;rotate_left
 ·intro w' hS';have e0:=hS'.1.k0;have e1:=hS'.1.k1;have e2:=hS'.1.k2;have e3:=hS'.1.k3;have e4:=hS'.1.k4;have e5:=hS'.1.k5;have e6:=hS'.1.k6;have e7:=hS'.1.k7;have e8:=hS'.1.k8;have el:=hS'.1.lt;have t0:=hS'.2.1.1;have t1:=hS'.2.1.2.1;have t2:=hS'.2.1.2.2.1;have t3:=hS'.2.1.2.2.2;have tl:=hS'.2.2;(go_simp;try with_reducible rfl)
 simp only[Act.put,Pa,Pb,Pc];refine tU 8 (some 20) (v:=?_) rfl ⟨rfl,?_⟩ hS ?_;rotate_left
 ·intro w' hS';(go_simp;try with_reducible rfl)
 simp only[Act.put,Pa,Pb,Pc];refine tU 9 (some 21) (v:=?_) rfl ⟨rfl,?_⟩ hS ?_;rotate_left
 ·intro w' hS';(go_simp;try with_reducible rfl)
 simp only[Act.put,Pa,Pb,Pc];refine tU 10 (some 22) (v:=?_) rfl ⟨rfl,?_⟩ hS ?_;rotate_left
 ·intro w' hS';(go_simp;try with_reducible rfl)
 simp only[Act.put,Pa,Pb,Pc];refine tU 12 (some 24) (v:=?_) rfl ⟨rfl,?_⟩ hS ?_;rotate_left
 ·intro w' hS';(go_simp;try with_reducible rfl)
 simp only[Act.put,Pa,Pb,Pc];refine tU 13 (some 25) (v:=?_) rfl ⟨rfl,?_⟩ hS ?_;rotate_left
 ·intro w' hS';(go_simp;try with_reducible rfl)
 simp only[Act.put,Pa,Pb,Pc];refine tU 14 (some 26) (v:=?_) rfl ⟨rfl,?_⟩ hS ?_;rotate_left
 ·intro w' hS';(go_simp;try with_reducible rfl)
 simp only[Act.put,Pa,Pb,Pc];refine tU 15 (some 27) (v:=?_) rfl ⟨rfl,?_⟩ hS ?_;rotate_left
 ·intro w' hS';have e0:=hS'.1.k0;have e1:=hS'.1.k1;have e2:=hS'.1.k2;have e3:=hS'.1.k3;have e4:=hS'.1.k4;have e5:=hS'.1.k5;have e6:=hS'.1.k6;have e7:=hS'.1.k7;have e8:=hS'.1.k8;have el:=hS'.1.lt;have t0:=hS'.2.1.1;have t1:=hS'.2.1.2.1;have t2:=hS'.2.1.2.2.1;have t3:=hS'.2.1.2.2.2;have tl:=hS'.2.2;(go_simp;try with_reducible rfl)
 simp only[Act.put,Pa,Pb,Pc];refine tU 16 (some 28) (v:=?_) rfl ⟨rfl,?_⟩ hS ?_;rotate_left
 ·intro w' hS';(go_simp;try with_reducible rfl)
 simp only[Act.put,Pa,Pb,Pc];refine tU 17 (some 29) (v:=?_) rfl ⟨rfl,?_⟩ hS ?_;rotate_left
 ·intro w' hS';(go_simp;try with_reducible rfl)
 simp only[Act.put,Pa,Pb,Pc];refine tU 18 (some 30) (v:=?_) rfl ⟨rfl,?_⟩ hS ?_;rotate_left
 ·intro w' hS';(go_simp;try with_reducible rfl)
 simp only[Act.put,Pa,Pb,Pc];refine tU 19 (some 31) (v:=?_) rfl ⟨rfl,?_⟩ hS ?_;rotate_left
 ·intro w' hS';have e0:=hS'.1.k0;have e1:=hS'.1.k1;have e2:=hS'.1.k2;have e3:=hS'.1.k3;have e4:=hS'.1.k4;have e5:=hS'.1.k5;have e6:=hS'.1.k6;have e7:=hS'.1.k7;have e8:=hS'.1.k8;have el:=hS'.1.lt;have t0:=hS'.2.1.1;have t1:=hS'.2.1.2.1;have t2:=hS'.2.1.2.2.1;have t3:=hS'.2.1.2.2.2;have tl:=hS'.2.2;(go_simp;try with_reducible rfl)
 simp only[Act.put,Pa,Pb,Pc];refine tU 20 (some 32) (v:=?_) rfl ⟨rfl,?_⟩ hS ?_;rotate_left
 ·intro w' hS';(go_simp;try with_reducible rfl)
 simp only[Act.put,Pa,Pb,Pc];refine tU 21 (some 33) (v:=?_) rfl ⟨rfl,?_⟩ hS ?_;rotate_left
 ·intro w' hS';(go_simp;try with_reducible rfl)
 simp only[Act.put,Pa,Pb,Pc];refine tU 22 (some 34) (v:=?_) rfl ⟨rfl,?_⟩ hS ?_;rotate_left
 ·intro w' hS';have e0:=hS'.1.k0;have e1:=hS'.1.k1;have e2:=hS'.1.k2;have e3:=hS'.1.k3;have e4:=hS'.1.k4;have e5:=hS'.1.k5;have e6:=hS'.1.k6;have e7:=hS'.1.k7;have e8:=hS'.1.k8;have el:=hS'.1.lt;have t0:=hS'.2.1.1;have t1:=hS'.2.1.2.1;have t2:=hS'.2.1.2.2.1;have t3:=hS'.2.1.2.2.2;have tl:=hS'.2.2;(go_simp;try with_reducible rfl)
 simp only[Act.put,Pa,Pb,Pc];refine X_o 11 rfl fun K hK=>?_;go_simp;have K1:=iH (condNs_any (W.alloc (.cells #[.string ⟨#[]⟩,.int .i64 0,.int .i64 0,.slice none 0 0] 35)).drew);(with_reducible refine K1.out.mono ?_);rintro e w2 ⟨A1,n1,c1,rfl,hnm,hb⟩;have hd:=(Below.refl (W.alloc (.cells #[.string ⟨#[]⟩,.int .i64 0,.int .i64 0,.slice none 0 0] 35)).heap.size (W.alloc (.cells #[.string ⟨#[]⟩,.int .i64 0,.int .i64 0,.slice none 0 0] 35))).drew.trans hb;have Y2:=iH (Y1.out.trans (hd.mono Y1.out.size));have H2:=iH (H1.out.below hd);have HR2:=iH (HR.out.below hd HR.out.lt);have HNM:=iH hnm;refine hK _ _ ⟨H2.out.pk,HEL.out _ Y2.out⟩ ?_;clear hK K1 hnm hb hd;refine X_o 23 rfl fun K hK=>?_;go_simp;have K1:=iH (rindex_any (c:=c1) t.text HNM.out);(with_reducible refine K1.out.mono ?_);rintro e w2 ⟨rfl,rfl⟩;refine hK _ _ ⟨H2.out.pk,HEL.out _ Y2.out⟩ ?_;clear hK K1 HNM;refine tU 24 (some 36) (v:=?_) rfl ⟨rfl,?_⟩ ⟨H2.out.pk,HEL.out _ Y2.out⟩ ?_;rotate_left
 ·intro w' hS';(go_simp;try with_reducible rfl)
 simp only[Act.put,Pa,Pb,Pc];refine tU 25 (some 37) (v:=?_) rfl ⟨rfl,?_⟩ ⟨H2.out.pk,HEL.out _ Y2.out⟩ ?_;rotate_left
 ·intro w' hS';(go_simp;try with_reducible rfl)
 simp only[Act.put,Pa,Pb,Pc];refine X_done (by kernel_rfl) ?_;clear hS;have hx1:¬ ixOf condNs t.text<0:=by have:=HX.out;omega
 generalize ixOf condNs t.text=ix at *;have KT:=iH (take_yes 0 ⟨#[]⟩ H2.out hi ht hk0 (.inl rfl));rw[hk0]at KT;have hfd:=fun w=>field153 0 t.num t.at_ t.text w
 go_wp2_with fail;refine KT.out.mono ?_;rintro e w3 ⟨rfl,hq,hg⟩;have H3:=iH hq;have HR3:=iH (HR2.out.grown hg (by simp;omega));have HG3:=iH (grown_trans (grown_of_below Y2.out (some pb)) hg);have y4:Below w3.heap.size w3 (w3.alloc (.cells #[.string t.text,.int .i64 0,.int .i64 0,.slice none 0 0] 35)):=(Below.refl _ _).alloc (Nat.le_refl _) _;have H4:=iH (hq.below y4);have HR4:=iH (HR3.out.below y4 HR3.out.lt);have HB4:=iH (Bk.new w3 35 [.string t.text,.int .i64 0,.int .i64 0,.slice none 0 0]);have HG4:=iH (grown_trans HG3.out (grown_of_below y4 _));have hp3:pb<w3.heap.size:=hq.pk.lt;have hr3:W.heap.size<w3.heap.size:=HR3.out.lt;have b40:(w3.alloc (.cells #[.string t.text,.int .i64 0,.int .i64 0,.slice none 0 0] 35)).cell? ⟨w3.heap.size,0,none⟩=some (.string t.text):=HB4.out.cell 0;have b4l:=HB4.out.lt;clear KT hq hg y4 H2 HR2 Y2 H3 HR3 HG3 HX hx1;have KU:=iH (take_rd 0 ⟨#[]⟩ H4.out);go_wp2_with fail;refine KU.out.mono ?_;rintro e w5 ⟨u,i2,b2,htk,rfl,hq,hg,husz,hun⟩;have HTK2:=iH htk;have hn5:w3.heap.size<w5.heap.size:=Nat.lt_of_lt_of_le b4l hg.size;have y6:Below w5.heap.size w5 (w5.alloc (.cells #[.int .i64 u.kind,.string u.text,.int .i64 u.num,.int .i64 u.at_] 153)):=(Below.refl _ _).alloc (Nat.le_refl _) _;have H6:=iH (hq.below y6);have HR5:=HR4.out.grown hg (by simp;omega);have HB5:=HB4.out.grown hg (by simp;omega);have HR6:=iH (HR5.below y6 HR5.lt);have HB6:=iH (HB5.below y6 HB5.lt);have HT6:=iH (Bk.new w5 153 [.int .i64 u.kind,.string u.text,.int .i64 u.num,.int .i64 u.at_]);have HG6:=iH (grown_trans (grown_trans HG4.out hg) (grown_of_below y6 _));clear KU htk hq hg y6 H4 HR4 HB4 HG4 HR5 HB5 b40 b4l;go_wp2;refine wp_region_X (fun w'=>Bk w' w5.heap.size 153 [.int .i64 u.kind,.string u.text,.int .i64 u.num,.int .i64 u.at_]) 5 (n:=6) rfl (by kernel_rfl) (HT6.out.drew) (fun hS=>?_);refine tX 1 (some 62) (v:=?_) rfl ⟨rfl,?_⟩ hS ?_;rotate_left
 ·intro w' hS';(go_simp;try with_reducible rfl)
 simp only[Act.put,Pa,Pb,Pc];refine tX 2 (some 63) (v:=?_) rfl ⟨rfl,?_⟩ hS ?_;rotate_left
 ·intro w' hS';have e0:=hS'.k0;have e1:=hS'.k1;have e2:=hS'.k2;have e3:=hS'.k3;have el:=hS'.lt;(go_simp;try with_reducible rfl)
 simp only[Act.put,Pa,Pb,Pc];refine X_o 0 rfl fun K hK=>?_;go_simp;have K1:=iH (rkinds_any (w5.alloc (.cells #[.int .i64 u.kind,.string u.text,.int .i64 u.num,.int .i64 u.at_] 153)).drew);(with_reducible refine K1.out.mono ?_);rintro e w7 ⟨A1,n1,c1,rfl,hnm,hb⟩;have hd:=(Below.refl (w5.alloc (.cells #[.int .i64 u.kind,.string u.text,.int .i64 u.num,.int .i64 u.at_] 153)).heap.size (w5.alloc (.cells #[.int .i64 u.kind,.string u.text,.int .i64 u.num,.int .i64 u.at_] 153))).drew.trans hb;have H7:=iH (H6.out.below hd);have HR7:=iH (HR6.out.below hd HR6.out.lt);have HB7:=iH (HB6.out.below hd HB6.out.lt);have HT7:=iH (HT6.out.below hd HT6.out.lt);have HG7:=iH (grown_trans HG6.out (grown_of_below hd _));have HNM:=iH hnm;refine hK _ _ HT7.out ?_;clear hK K1 hnm hb hd H6 HR6 HB6 HT6 HG6;refine X_o 3 rfl fun K hK=>?_;go_simp;have K1:=iH (rindex_any (c:=c1) u.text HNM.out);(with_reducible refine K1.out.mono ?_);rintro e w7 ⟨rfl,rfl⟩;refine hK _ _ HT7.out ?_;clear hK K1 HNM;generalize hixk:ixOf kindNs u.text=ixk at *;refine X_o 4 rfl fun K hK=>?_;go_simp;refine hK _ _ HT7.out ?_;clear hK;refine X_tail (by kernel_rfl) ?_;refine A_one 5 (by kernel_rfl) rfl rfl (fun K hK=>?_);have r0:=HB7.out.k0;have r1:=HB7.out.k1;have r2:=HB7.out.k2;have r3:=HB7.out.k3;have rl:=HB7.out.lt;have rf:=HB7.out.frozen 1;go_simp;refine hK _ _ ?_;clear hK;refine A_done (by kernel_rfl) ?_;clear hS;have HB8:=iH (HB7.out.set 1 (.int .i64 ixk));have HT8:=iH (HT7.out.setOther (b:=w3.heap.size) (k:=1) (u:=.int .i64 ixk) (by omega));have HR8:=iH (HR7.out.setOther (b:=w3.heap.size) (k:=1) (u:=.int .i64 ixk) (by omega));have H8:=iH (H7.out.far (k:=1) HB7.out hp3 (by decide) (by decide) (by decide) (.int .i64 ixk));have HG8:=iH (grown_fresh (k:=1) (u:=.int .i64 ixk) HG7.out (by omega:W.heap.size<=w3.heap.size));clear H7 HR7 HB7 HT7 HG7;generalize(w7.setCell ⟨w3.heap.size,1,none⟩ (.int .i64 ixk))=w8 at *;have HTS:Hid (t.text.size<=8192):=iH HTK.out.1;cases hx:nameIx kindNs u.text with
 | some j =>
   have HREL:=iH (named_rel (l:=kindNs) (f:=fun z=>.node sKind z 0 []) (K:=.node t.text ixk 0 []) (st:=st) HTK2.out (fun j' hj'=>by rw[hx]at hj';cases hj';rw[show ixk=((j:Nat):Int) from by rw[<- hixk];unfold ixOf;rw[hx],HOP.out]));have HNS:nameSt kindNs u st=st:=by simp[nameSt,hx]
   rw[HNS]at HREL;have hj:=nameIx_lt hx;have hixj:ixk=(j:Int):=by rw[<- hixk];unfold ixOf;rw[hx]
   have hix0:¬ ixk<0:=by omega
   have hix1:0<=ixk:=by omega
   have hj11:j<11:=hj;clear hixk;have hixb:ixk<=100:=by omega
   clear hixj hj hj11;have HKI:Hid (In64 ixk):=iH ⟨by omega,by omega⟩;have HB:=HB8;have HR:=HR8;have HQA:=H8;have HGA:=HG8;have m0:=HB.out.k0;have m1:=HB.out.k1;have m2:=HB.out.k2;have m3:=HB.out.k3;have ml:=HB.out.lt;have r0:=HR.out.k0;have r1:=HR.out.k1;have r2:=HR.out.k2;have r3:=HR.out.k3;have rl:=HR.out.lt;have rf0:=HR.out.frozen 0;have rf1:=HR.out.frozen 1;have rf2:=HR.out.frozen 2;have rf3:=HR.out.frozen 3;clear hx HNS;go_wp2;have hX:=lay_mq (M:=⟨t.text,ixk,0,[],⟨none,0,0⟩⟩) HR.out HQA.out HGA.out (by omega) (Nat.le_refl _) (leaf_mk _ _ HTS.out HKI.out ⟨by decide,by decide⟩);dsimp only at hX;generalize((((w8.setCell ⟨W.heap.size,0,none⟩ (.string t.text)).setCell ⟨W.heap.size,1,none⟩ (.int .i64 ixk)).setCell ⟨W.heap.size,2,none⟩ (.int .i64 0)).setCell ⟨W.heap.size,3,none⟩ (.slice none 0 0))=X at *;have HXB:=hX.2.2.2;have xx0:=HXB.k0;have xx1:=HXB.k1;have xx2:=HXB.k2;have xx3:=HXB.k3;refine bodyPost_ret (v:=.agg #[.string t.text,.int .i64 ixk,.int .i64 0,.slice none 0 0]) (by simp[results,Tryz.results135,go_sem,xx0,xx1,xx2,xx3]) rfl ?_;exact⟨⟨t.text,ixk,0,[],⟨none,0,0⟩⟩,i2,b2,st,rfl,hX.1,hX.2.1,hX.2.2.1,HREL.out⟩
 | none =>
   have HREL:=iH (named_rel (l:=kindNs) (f:=fun z=>.node sKind z 0 []) (K:=.node t.text ixk 0 []) (st:=st) HTK2.out (fun j' hj'=>by rw[hx]at hj';cases hj'));have HNS:nameSt kindNs u st=st.note 6 u.at_:=by simp[nameSt,hx]
   rw[HNS]at HREL;have hixj:ixk = -1:=by rw[<- hixk];unfold ixOf;rw[hx]
   have hix0:ixk<0:=by omega
   have hix1:¬ 0<=ixk:=by omega
   have hixb : -1<=ixk:=by omega
   clear hixk hixj;have HKI:Hid (In64 ixk):=iH ⟨by omega,by omega⟩;have m0:=HB8.out.k0;have m1:=HB8.out.k1;have m2:=HB8.out.k2;have m3:=HB8.out.k3;have ml:=HB8.out.lt;have u0:=HT8.out.k0;have u1:=HT8.out.k1;have u2:=HT8.out.k2;have u3:=HT8.out.k3;have ul:=HT8.out.lt;have KF:=iH (fail_rd 6 u.at_ H8.out);clear hx HNS;go_wp2_with fail;refine KF.out.mono ?_;rintro e w9 ⟨rfl,hq,hg⟩;have HQA:=iH hq;have HB:=iH (HB8.out.grown hg (by simp;omega));have HR:=iH (HR8.out.grown hg (by simp;omega));have HGA:=iH (grown_trans HG8.out hg);clear KF hq hg H8 HR8 HB8 HG8 HT8 m0 m1 m2 m3 ml u0 u1 u2 u3 ul;have m0:=HB.out.k0;have m1:=HB.out.k1;have m2:=HB.out.k2;have m3:=HB.out.k3;have ml:=HB.out.lt;have r0:=HR.out.k0;have r1:=HR.out.k1;have r2:=HR.out.k2;have r3:=HR.out.k3;have rl:=HR.out.lt;have rf0:=HR.out.frozen 0;have rf1:=HR.out.frozen 1;have rf2:=HR.out.frozen 2;have rf3:=HR.out.frozen 3;go_wp2;have hX:=lay_mq (M:=⟨t.text,ixk,0,[],⟨none,0,0⟩⟩) HR.out HQA.out HGA.out (by omega) (Nat.le_refl _) (leaf_mk _ _ HTS.out HKI.out ⟨by decide,by decide⟩);dsimp only at hX;generalize((((w9.setCell ⟨W.heap.size,0,none⟩ (.string t.text)).setCell ⟨W.heap.size,1,none⟩ (.int .i64 ixk)).setCell ⟨W.heap.size,2,none⟩ (.int .i64 0)).setCell ⟨W.heap.size,3,none⟩ (.slice none 0 0))=X at *;have HXB:=hX.2.2.2;have xx0:=HXB.k0;have xx1:=HXB.k1;have xx2:=HXB.k2;have xx3:=HXB.k3;refine bodyPost_ret (v:=.agg #[.string t.text,.int .i64 ixk,.int .i64 0,.slice none 0 0]) (by simp[results,Tryz.results135,go_sem,xx0,xx1,xx2,xx3]) rfl ?_;exact⟨⟨t.text,ixk,0,[],⟨none,0,0⟩⟩,i2,b2,(st.note 6 u.at_),rfl,hX.1,hX.2.1,hX.2.2.1,HREL.out⟩
theorem cond_Rule {W:World} {pb:Nat} {m:CatM} {T:List Tok} {A:Option Addr} {n c i:Nat} {st:PSt} {t:Tok} (h:QAt W pb m T A n c i false st) (hi:i<n) (ht:T[i]? = some t) (hop:t.text=sRule) :
 Calls Tryz.prog 135 #[.pointer (some ⟨pb,0,none⟩)] W (RPost W pb m T A n c (condP kindNs (m.rules.map RuM.name) (m.items.map It.name) (T.drop i) st)):=by
 have H:=iH h;have hpl:=h.pk.lt;have hfew:=h.few;have hit:i<T.length:=by have:=h.len;omega
 obtain⟨bb,off,rfl,hel,hbb⟩:=h.at_ hit;have HEL:Hid (∀w',Below W.heap.size W w'->((w'.cell? ⟨bb,off+i*4,none⟩=some (.int .i64 T[i].kind)∧w'.cell? ⟨bb,off+i*4+1,none⟩=some (.string T[i].text)∧w'.cell? ⟨bb,off+i*4+2,none⟩=some (.int .i64 T[i].num)∧w'.cell? ⟨bb,off+i*4+3,none⟩=some (.int .i64 T[i].at_))∧bb<w'.heap.size)):=iH fun U hU =>
  ⟨⟨(hU.cell (p:=⟨bb,off+i*4,none⟩) hbb).trans hel.1,(hU.cell (p:=⟨bb,off+i*4+1,none⟩) hbb).trans hel.2.1,(hU.cell (p:=⟨bb,off+i*4+2,none⟩) hbb).trans hel.2.2.1,(hU.cell (p:=⟨bb,off+i*4+3,none⟩) hbb).trans hel.2.2.2⟩,Nat.lt_of_lt_of_le hbb hU.size⟩
 have hiI:(i:Int)<n:=by omega
 have hni:¬ n<=i:=by omega
 have hnI:(n:Int)<=8192:=by omega
 have htt:T[i]=t:=by rw[List.getElem?_eq_getElem hit]at ht;exact Option.some.inj ht
 rw[htt]at HEL;have y1:Below W.heap.size W (W.alloc (.cells #[.string ⟨#[]⟩,.int .i64 0,.int .i64 0,.slice none 0 0] 35)):=(Below.refl _ _).alloc (Nat.le_refl _) _;have Y1:=iH y1;have H1:=iH (h.below y1);have HR:=iH (Bk.new W 35 [.string ⟨#[]⟩,.int .i64 0,.int .i64 0,.slice none 0 0]);have HTK:=iH (h.toks t (by rw[<- htt];exact List.getElem_mem hit));clear hel hbb htt y1 h;have HQ:Hid (T.drop i=t :: T.drop (i+1)):=iH (by rw[List.drop_eq_getElem_cons hit];rw[List.getElem?_eq_getElem hit]at ht;rw[Option.some.inj ht]);have hio:isOp t.text=true:=by rw[hop];decide
 have hk0:t.kind=0:=HTK.out.2.2.1 (by rw[hop];decide);have HX:Hid (¬ ixOf condNs t.text<0):=iH (by rw[ix_isOp,hio];simp);have qKind:(t.text.toList == [107,105,110,100])=false:=by rw[hop,<- lKind',eqL];decide
 have qActor:(t.text.toList == [97,99,116,111,114])=false:=by rw[hop,<- lActor',eqL];decide
 have qRule:(t.text.toList == [114,117,108,101])=true:=by rw[hop,<- lRule',eqL];decide
 have qTick:(t.text.toList == [116,105,99,107])=false:=by rw[hop,<- lTick',eqL];decide
 have qItem:(t.text.toList == [105,116,101,109])=false:=by rw[hop,<- lItem',eqL];decide
 have qMore:(t.text.toList == [109,111,114,101])=false:=by rw[hop,<- lMore',eqL];decide
 have qStep:(t.text.toList == [115,116,101,112])=false:=by rw[hop,<- lStep',eqL];decide
 have qAccount:(t.text.toList == [97,99,99,111,117,110,116])=false:=by rw[hop,<- lAccount',eqL];decide
 have HOP:=iH hop;clear hit hio hop;have HR0:condP kindNs (m.rules.map RuM.name) (m.items.map It.name) (T.drop i) st=nameP (m.rules.map RuM.name) (fun z=>.node sRule z 0 []) (T.drop (i+1)) st:=by
  rw[HQ.out];simp only[condP];rw[if_neg (by rw[hk0,HOP.out];decide),if_neg (by rw[HOP.out];decide),if_pos HOP.out]
 rw[HR0];clear HR0;go_enter Tryz.func135,Tryz.ntmps135;go_wp2;refine wp_region_X (fun w'=>Bk w' pb 150 [.slice m.si.A m.si.n m.si.c,.slice m.sr.A m.sr.n m.sr.c,.slice m.st.A m.st.n m.st.c,.slice m.sx.A m.sx.n m.sx.c,.slice (some ⟨bb,off,none⟩) n c,.int .i64 (i:Int),.bool false,.int .i64 st.1,.int .i64 st.2]∧((w'.cell? ⟨bb,off+i*4,none⟩=some (.int .i64 t.kind)∧w'.cell? ⟨bb,off+i*4+1,none⟩=some (.string t.text)∧w'.cell? ⟨bb,off+i*4+2,none⟩=some (.int .i64 t.num)∧w'.cell? ⟨bb,off+i*4+3,none⟩=some (.int .i64 t.at_))∧bb<w'.heap.size)) 26 (n:=26) rfl (by kernel_rfl) (⟨H1.out.pk.drew,HEL.out _ Y1.out.drew⟩) (fun hS=>?_);refine tU 0 (some 12) (v:=?_) rfl ⟨rfl,?_⟩ hS ?_;rotate_left
 ·intro w' hS';(go_simp;try with_reducible rfl)
 simp only[Act.put,Pa,Pb,Pc];refine tU 1 (some 13) (v:=?_) rfl ⟨rfl,?_⟩ hS ?_;rotate_left
 ·intro w' hS';(go_simp;try with_reducible rfl)
 simp only[Act.put,Pa,Pb,Pc];refine tU 2 (some 14) (v:=?_) rfl ⟨rfl,?_⟩ hS ?_;rotate_left
 ·intro w' hS';(go_simp;try with_reducible rfl)
 simp only[Act.put,Pa,Pb,Pc];refine tU 3 (some 15) (v:=?_) rfl ⟨rfl,?_⟩ hS ?_;rotate_left
 ·intro w' hS';have e0:=hS'.1.k0;have e1:=hS'.1.k1;have e2:=hS'.1.k2;have e3:=hS'.1.k3;have e4:=hS'.1.k4;have e5:=hS'.1.k5;have e6:=hS'.1.k6;have e7:=hS'.1.k7;have e8:=hS'.1.k8;have el:=hS'.1.lt;have t0:=hS'.2.1.1;have t1:=hS'.2.1.2.1;have t2:=hS'.2.1.2.2.1;have t3:=hS'.2.1.2.2.2;have tl:=hS'.2.2;(go_simp;try with_reducible rfl)
 simp only[Act.put,Pa,Pb,Pc];refine tU 4 (some 16) (v:=?_) rfl ⟨rfl,?_⟩ hS ?_;rotate_left
 ·intro w' hS';(go_simp;try with_reducible rfl)
 simp only[Act.put,Pa,Pb,Pc];refine tU 5 (some 17) (v:=?_) rfl ⟨rfl,?_⟩ hS ?_;rotate_left
 ·intro w' hS';(go_simp;try with_reducible rfl)
 simp only[Act.put,Pa,Pb,Pc];refine tU 6 (some 18) (v:=?_) rfl ⟨rfl,?_⟩ hS ?_;rotate_left
 ·intro w' hS';(go_simp;try with_reducible rfl)
 simp only[Act.put,Pa,Pb,Pc];refine tU 7 (some 19) (v:=?_) rfl ⟨rfl,?_⟩ hS ?_;rotate_left
 ·intro w' hS';have e0:=hS'.1.k0;have e1:=hS'.1.k1;have e2:=hS'.1.k2;have e3:=hS'.1.k3;have e4:=hS'.1.k4;have e5:=hS'.1.k5;have e6:=hS'.1.k6;have e7:=hS'.1.k7;have e8:=hS'.1.k8;have el:=hS'.1.lt;have t0:=hS'.2.1.1;have t1:=hS'.2.1.2.1;have t2:=hS'.2.1.2.2.1;have t3:=hS'.2.1.2.2.2;have tl:=hS'.2.2;(go_simp;try with_reducible rfl)
 simp only[Act.put,Pa,Pb,Pc];refine tU 8 (some 20) (v:=?_) rfl ⟨rfl,?_⟩ hS ?_;rotate_left
 ·intro w' hS';(go_simp;try with_reducible rfl)
 simp only[Act.put,Pa,Pb,Pc];refine tU 9 (some 21) (v:=?_) rfl ⟨rfl,?_⟩ hS ?_;rotate_left
 ·intro w' hS';(go_simp;try with_reducible rfl)
 simp only[Act.put,Pa,Pb,Pc];refine tU 10 (some 22) (v:=?_) rfl ⟨rfl,?_⟩ hS ?_;rotate_left
 ·intro w' hS';(go_simp;try with_reducible rfl)
 simp only[Act.put,Pa,Pb,Pc];refine tU 12 (some 24) (v:=?_) rfl ⟨rfl,?_⟩ hS ?_;rotate_left
 ·intro w' hS';(go_simp;try with_reducible rfl)
 simp only[Act.put,Pa,Pb,Pc];refine tU 13 (some 25) (v:=?_) rfl ⟨rfl,?_⟩ hS ?_;rotate_left
 ·intro w' hS';(go_simp;try with_reducible rfl)
 simp only[Act.put,Pa,Pb,Pc];refine tU 14 (some 26) (v:=?_) rfl ⟨rfl,?_⟩ hS ?_;rotate_left
 ·intro w' hS';(go_simp;try with_reducible rfl)
 simp only[Act.put,Pa,Pb,Pc];refine tU 15 (some 27) (v:=?_) rfl ⟨rfl,?_⟩ hS ?_;rotate_left
 ·intro w' hS';have e0:=hS'.1.k0;have e1:=hS'.1.k1;have e2:=hS'.1.k2;have e3:=hS'.1.k3;have e4:=hS'.1.k4;have e5:=hS'.1.k5;have e6:=hS'.1.k6;have e7:=hS'.1.k7;have e8:=hS'.1.k8;have el:=hS'.1.lt;have t0:=hS'.2.1.1;have t1:=hS'.2.1.2.1;have t2:=hS'.2.1.2.2.1;have t3:=hS'.2.1.2.2.2;have tl:=hS'.2.2;(go_simp;try with_reducible rfl)
 simp only[Act.put,Pa,Pb,Pc];refine tU 16 (some 28) (v:=?_) rfl ⟨rfl,?_⟩ hS ?_;rotate_left
 ·intro w' hS';(go_simp;try with_reducible rfl)
 simp only[Act.put,Pa,Pb,Pc];refine tU 17 (some 29) (v:=?_) rfl ⟨rfl,?_⟩ hS ?_;rotate_left
 ·intro w' hS';(go_simp;try with_reducible rfl)
 simp only[Act.put,Pa,Pb,Pc];refine tU 18 (some 30) (v:=?_) rfl ⟨rfl,?_⟩ hS ?_;rotate_left
 ·intro w' hS';(go_simp;try with_reducible rfl)
 simp only[Act.put,Pa,Pb,Pc];refine tU 19 (some 31) (v:=?_) rfl ⟨rfl,?_⟩ hS ?_;rotate_left
 ·intro w' hS';have e0:=hS'.1.k0;have e1:=hS'.1.k1;have e2:=hS'.1.k2;have e3:=hS'.1.k3;have e4:=hS'.1.k4;have e5:=hS'.1.k5;have e6:=hS'.1.k6;have e7:=hS'.1.k7;have e8:=hS'.1.k8;have el:=hS'.1.lt;have t0:=hS'.2.1.1;have t1:=hS'.2.1.2.1;have t2:=hS'.2.1.2.2.1;have t3:=hS'.2.1.2.2.2;have tl:=hS'.2.2;(go_simp;try with_reducible rfl)
 simp only[Act.put,Pa,Pb,Pc];refine tU 20 (some 32) (v:=?_) rfl ⟨rfl,?_⟩ hS ?_;rotate_left
 ·intro w' hS';(go_simp;try with_reducible rfl)
 simp only[Act.put,Pa,Pb,Pc];refine tU 21 (some 33) (v:=?_) rfl ⟨rfl,?_⟩ hS ?_;rotate_left
 ·intro w' hS';(go_simp;try with_reducible rfl)
 simp only[Act.put,Pa,Pb,Pc];refine tU 22 (some 34) (v:=?_) rfl ⟨rfl,?_⟩ hS ?_;rotate_left
 ·intro w' hS';have e0:=hS'.1.k0;have e1:=hS'.1.k1;have e2:=hS'.1.k2;have e3:=hS'.1.k3;have e4:=hS'.1.k4;have e5:=hS'.1.k5;have e6:=hS'.1.k6;have e7:=hS'.1.k7;have e8:=hS'.1.k8;have el:=hS'.1.lt;have t0:=hS'.2.1.1;have t1:=hS'.2.1.2.1;have t2:=hS'.2.1.2.2.1;have t3:=hS'.2.1.2.2.2;have tl:=hS'.2.2;(go_simp;try with_reducible rfl)
 simp only[Act.put,Pa,Pb,Pc];refine X_o 11 rfl fun K hK=>?_;go_simp;have K1:=iH (condNs_any (W.alloc (.cells #[.string ⟨#[]⟩,.int .i64 0,.int .i64 0,.slice none 0 0] 35)).drew);(with_reducible refine K1.out.mono ?_);rintro e w2 ⟨A1,n1,c1,rfl,hnm,hb⟩;have hd:=(Below.refl (W.alloc (.cells #[.string ⟨#[]⟩,.int .i64 0,.int .i64 0,.slice none 0 0] 35)).heap.size (W.alloc (.cells #[.string ⟨#[]⟩,.int .i64 0,.int .i64 0,.slice none 0 0] 35))).drew.trans hb;have Y2:=iH (Y1.out.trans (hd.mono Y1.out.size));have H2:=iH (H1.out.below hd);have HR2:=iH (HR.out.below hd HR.out.lt);have HNM:=iH hnm;refine hK _ _ ⟨H2.out.pk,HEL.out _ Y2.out⟩ ?_;clear hK K1 hnm hb hd;refine X_o 23 rfl fun K hK=>?_;go_simp;have K1:=iH (rindex_any (c:=c1) t.text HNM.out);(with_reducible refine K1.out.mono ?_);rintro e w2 ⟨rfl,rfl⟩;refine hK _ _ ⟨H2.out.pk,HEL.out _ Y2.out⟩ ?_;clear hK K1 HNM;refine tU 24 (some 36) (v:=?_) rfl ⟨rfl,?_⟩ ⟨H2.out.pk,HEL.out _ Y2.out⟩ ?_;rotate_left
 ·intro w' hS';(go_simp;try with_reducible rfl)
 simp only[Act.put,Pa,Pb,Pc];refine tU 25 (some 37) (v:=?_) rfl ⟨rfl,?_⟩ ⟨H2.out.pk,HEL.out _ Y2.out⟩ ?_;rotate_left
 ·intro w' hS';(go_simp;try with_reducible rfl)
 simp only[Act.put,Pa,Pb,Pc];refine X_done (by kernel_rfl) ?_;clear hS;have hx1:¬ ixOf condNs t.text<0:=by have:=HX.out;omega
 generalize ixOf condNs t.text=ix at *;have KT:=iH (take_yes 0 ⟨#[]⟩ H2.out hi ht hk0 (.inl rfl));rw[hk0]at KT;have hfd:=fun w=>field153 0 t.num t.at_ t.text w
 go_wp2_with fail;refine KT.out.mono ?_;rintro e w3 ⟨rfl,hq,hg⟩;have H3:=iH hq;have HR3:=iH (HR2.out.grown hg (by simp;omega));have HG3:=iH (grown_trans (grown_of_below Y2.out (some pb)) hg);have y4:Below w3.heap.size w3 (w3.alloc (.cells #[.string t.text,.int .i64 0,.int .i64 0,.slice none 0 0] 35)):=(Below.refl _ _).alloc (Nat.le_refl _) _;have H4:=iH (hq.below y4);have HR4:=iH (HR3.out.below y4 HR3.out.lt);have HB4:=iH (Bk.new w3 35 [.string t.text,.int .i64 0,.int .i64 0,.slice none 0 0]);have HG4:=iH (grown_trans HG3.out (grown_of_below y4 _));have hp3:pb<w3.heap.size:=hq.pk.lt;have hr3:W.heap.size<w3.heap.size:=HR3.out.lt;have b40:(w3.alloc (.cells #[.string t.text,.int .i64 0,.int .i64 0,.slice none 0 0] 35)).cell? ⟨w3.heap.size,0,none⟩=some (.string t.text):=HB4.out.cell 0;have b4l:=HB4.out.lt;clear KT hq hg y4 H2 HR2 Y2 H3 HR3 HG3 HX hx1;have KU:=iH (take_rd 0 ⟨#[]⟩ H4.out);go_wp2_with fail;refine KU.out.mono ?_;rintro e w5 ⟨u,i2,b2,htk,rfl,hq,hg,husz,hun⟩;have HTK2:=iH htk;have hn5:w3.heap.size<w5.heap.size:=Nat.lt_of_lt_of_le b4l hg.size;have y6:Below w5.heap.size w5 (w5.alloc (.cells #[.int .i64 u.kind,.string u.text,.int .i64 u.num,.int .i64 u.at_] 153)):=(Below.refl _ _).alloc (Nat.le_refl _) _;have H6:=iH (hq.below y6);have HR5:=HR4.out.grown hg (by simp;omega);have HB5:=HB4.out.grown hg (by simp;omega);have HR6:=iH (HR5.below y6 HR5.lt);have HB6:=iH (HB5.below y6 HB5.lt);have HT6:=iH (Bk.new w5 153 [.int .i64 u.kind,.string u.text,.int .i64 u.num,.int .i64 u.at_]);have HG6:=iH (grown_trans (grown_trans HG4.out hg) (grown_of_below y6 _));clear KU htk hq hg y6 H4 HR4 HB4 HG4 HR5 HB5 b40 b4l;go_wp2;refine wp_region_X (fun w'=>Bk w' w5.heap.size 153 [.int .i64 u.kind,.string u.text,.int .i64 u.num,.int .i64 u.at_]) 5 (n:=6) rfl (by kernel_rfl) (HT6.out.drew) (fun hS=>?_);refine tX 1 (some 62) (v:=?_) rfl ⟨rfl,?_⟩ hS ?_;rotate_left
 ·intro w' hS';(go_simp;try with_reducible rfl)
 simp only[Act.put,Pa,Pb,Pc];refine tX 2 (some 63) (v:=?_) rfl ⟨rfl,?_⟩ hS ?_;rotate_left
 ·intro w' hS';have e0:=hS'.k0;have e1:=hS'.k1;have e2:=hS'.k2;have e3:=hS'.k3;have el:=hS'.lt;(go_simp;try with_reducible rfl)
 simp only[Act.put,Pa,Pb,Pc];refine X_o 0 rfl fun K hK=>?_;go_simp;have K1:=iH (rkinds_any (w5.alloc (.cells #[.int .i64 u.kind,.string u.text,.int .i64 u.num,.int .i64 u.at_] 153)).drew);(with_reducible refine K1.out.mono ?_);rintro e w7 ⟨A1,n1,c1,rfl,hnm,hb⟩;have hd:=(Below.refl (w5.alloc (.cells #[.int .i64 u.kind,.string u.text,.int .i64 u.num,.int .i64 u.at_] 153)).heap.size (w5.alloc (.cells #[.int .i64 u.kind,.string u.text,.int .i64 u.num,.int .i64 u.at_] 153))).drew.trans hb;have H7:=iH (H6.out.below hd);have HR7:=iH (HR6.out.below hd HR6.out.lt);have HB7:=iH (HB6.out.below hd HB6.out.lt);have HT7:=iH (HT6.out.below hd HT6.out.lt);have HG7:=iH (grown_trans HG6.out (grown_of_below hd _));have HNM:=iH hnm;refine hK _ _ HT7.out ?_;clear hK K1 hnm hb hd H6 HR6 HB6 HT6 HG6;refine X_o 3 rfl fun K hK=>?_;go_simp;have K1:=iH (rindex_any (c:=c1) u.text HNM.out);(with_reducible refine K1.out.mono ?_);rintro e w7 ⟨rfl,rfl⟩;refine hK _ _ HT7.out ?_;clear hK K1 HNM;generalize hixk:ixOf kindNs u.text=ixk at *;refine X_o 4 rfl fun K hK=>?_;go_simp;refine hK _ _ HT7.out ?_;clear hK;refine X_tail (by kernel_rfl) ?_;refine A_one 5 (by kernel_rfl) rfl rfl (fun K hK=>?_);have r0:=HB7.out.k0;have r1:=HB7.out.k1;have r2:=HB7.out.k2;have r3:=HB7.out.k3;have rl:=HB7.out.lt;have rf:=HB7.out.frozen 1;go_simp;refine hK _ _ ?_;clear hK;refine A_done (by kernel_rfl) ?_;clear hS;have HB8:=iH (HB7.out.set 1 (.int .i64 ixk));have HT8:=iH (HT7.out.setOther (b:=w3.heap.size) (k:=1) (u:=.int .i64 ixk) (by omega));have HR8:=iH (HR7.out.setOther (b:=w3.heap.size) (k:=1) (u:=.int .i64 ixk) (by omega));have H8:=iH (H7.out.far (k:=1) HB7.out hp3 (by decide) (by decide) (by decide) (.int .i64 ixk));have HG8:=iH (grown_fresh (k:=1) (u:=.int .i64 ixk) HG7.out (by omega:W.heap.size<=w3.heap.size));clear H7 HR7 HB7 HT7 HG7 hixk;generalize(w7.setCell ⟨w3.heap.size,1,none⟩ (.int .i64 ixk))=w8 at *;have hp5:pb<w5.heap.size:=by omega
 have m0:=HB8.out.k0;have m1:=HB8.out.k1;have m2:=HB8.out.k2;have m3:=HB8.out.k3;have ml:=HB8.out.lt;go_wp2;clear m0 m1 m2 m3 ml;refine wp_region_X (fun w'=>Bk w' pb 150 [.slice m.si.A m.si.n m.si.c,.slice m.sr.A m.sr.n m.sr.c,.slice m.st.A m.st.n m.st.c,.slice m.sx.A m.sx.n m.sx.c,.slice (some ⟨bb,off,none⟩) n c,.int .i64 (i2:Int),.bool b2,.int .i64 st.1,.int .i64 st.2]∧Bk w' w5.heap.size 153 [.int .i64 u.kind,.string u.text,.int .i64 u.num,.int .i64 u.at_]) 13 (n:=13) rfl (by kernel_rfl) (⟨H8.out.drew.pk,HT8.out.drew⟩) (fun hS=>?_);refine tU 0 (some 73) (v:=?_) rfl ⟨rfl,?_⟩ hS ?_;rotate_left
 ·intro w' hS';(go_simp;try with_reducible rfl)
 simp only[Act.put,Pa,Pb,Pc];refine tU 1 (some 74) (v:=?_) rfl ⟨rfl,?_⟩ hS ?_;rotate_left
 ·intro w' hS';(go_simp;try with_reducible rfl)
 simp only[Act.put,Pa,Pb,Pc];refine tU 2 (some 75) (v:=?_) rfl ⟨rfl,?_⟩ hS ?_;rotate_left
 ·intro w' hS';(go_simp;try with_reducible rfl)
 simp only[Act.put,Pa,Pb,Pc];refine tU 3 (some 76) (v:=?_) rfl ⟨rfl,?_⟩ hS ?_;rotate_left
 ·intro w' hS';have e0:=hS'.1.k0;have e1:=hS'.1.k1;have e2:=hS'.1.k2;have e3:=hS'.1.k3;have e4:=hS'.1.k4;have e5:=hS'.1.k5;have e6:=hS'.1.k6;have e7:=hS'.1.k7;have e8:=hS'.1.k8;have el:=hS'.1.lt;have v0:=hS'.2.k0;have v1:=hS'.2.k1;have v2:=hS'.2.k2;have v3:=hS'.2.k3;have vl:=hS'.2.lt;(go_simp;try with_reducible rfl)
 simp only[Act.put,Pa,Pb,Pc];refine tU 4 (some 77) (v:=?_) rfl ⟨rfl,?_⟩ hS ?_;rotate_left
 ·intro w' hS';(go_simp;try with_reducible rfl)
 simp only[Act.put,Pa,Pb,Pc];refine tU 5 (some 78) (v:=?_) rfl ⟨rfl,?_⟩ hS ?_;rotate_left
 ·intro w' hS';have e0:=hS'.1.k0;have e1:=hS'.1.k1;have e2:=hS'.1.k2;have e3:=hS'.1.k3;have e4:=hS'.1.k4;have e5:=hS'.1.k5;have e6:=hS'.1.k6;have e7:=hS'.1.k7;have e8:=hS'.1.k8;have el:=hS'.1.lt;have v0:=hS'.2.k0;have v1:=hS'.2.k1;have v2:=hS'.2.k2;have v3:=hS'.2.k3;have vl:=hS'.2.lt;(go_simp;try with_reducible rfl)
 simp only[Act.put,Pa,Pb,Pc];refine X_o 6 rfl fun K hK=>?_;go_simp;have K1:=iH (rrule_any (m:=m) H8.out.drew.rus u.text);unfold FindQ at K1;generalize hkk:(nameIx (m.rules.map RuM.name) u.text).getD 0=kk at *;generalize hok:(nameIx (m.rules.map RuM.name) u.text).isSome=okk at *;(with_reducible refine K1.out.mono ?_);rintro e wa ⟨rfl,hb⟩;have hd:=(Below.refl w8.heap.size w8).drew.trans hb;have Ha:=iH (H8.out.below hd);have HRa:=iH (HR8.out.below hd HR8.out.lt);have HBa:=iH (HB8.out.below hd HB8.out.lt);have HTa:=iH (HT8.out.below hd HT8.out.lt);have HGa:=iH (grown_trans HG8.out (grown_of_below hd _));refine hK _ _ ⟨Ha.out.pk,HTa.out⟩ ?_;clear hK K1 hb hd H8 HR8 HB8 HT8 HG8;refine tU 7 (some 72) (v:=?_) rfl ⟨rfl,?_⟩ ⟨Ha.out.pk,HTa.out⟩ ?_;rotate_left
 ·intro w' hS';(go_simp;try with_reducible rfl)
 simp only[Act.put,Pa,Pb,Pc];refine tU 8 (some 80) (v:=?_) rfl ⟨rfl,?_⟩ ⟨Ha.out.pk,HTa.out⟩ ?_;rotate_left
 ·intro w' hS';(go_simp;try with_reducible rfl)
 simp only[Act.put,Pa,Pb,Pc];refine tU 9 (some 81) (v:=?_) rfl ⟨rfl,?_⟩ ⟨Ha.out.pk,HTa.out⟩ ?_;rotate_left
 ·intro w' hS';(go_simp;try with_reducible rfl)
 simp only[Act.put,Pa,Pb,Pc];refine X_o 10 rfl fun K hK=>?_;go_simp;refine hK _ _ ⟨Ha.out.pk,HTa.out⟩ ?_;clear hK;refine X_o 11 rfl fun K hK=>?_;have r0:=HBa.out.k0;have r1:=HBa.out.k1;have r2:=HBa.out.k2;have r3:=HBa.out.k3;have rl:=HBa.out.lt;have rf:=HBa.out.frozen 1;go_simp;have HT9:=iH (HTa.out.setOther (b:=w3.heap.size) (k:=1) (u:=.int .i64 (kk:Int)) (by omega));have HP9:=iH (Ha.out.pk.setOther (b:=w3.heap.size) (k:=1) (u:=.int .i64 (kk:Int)) (by omega));refine hK _ _ ⟨HP9.out,HT9.out⟩ ?_;clear hK r0 r1 r2 r3 rl rf;refine X_o 12 rfl fun K hK=>?_;go_simp;refine hK _ _ ⟨HP9.out,HT9.out⟩ ?_;clear hK;refine X_done (by kernel_rfl) ?_;clear hS HP9 HT9;have HB8:=iH (HBa.out.set 1 (.int .i64 (kk:Int)));have HT8:=iH (HTa.out.setOther (b:=w3.heap.size) (k:=1) (u:=.int .i64 (kk:Int)) (by omega));have HR8:=iH (HRa.out.setOther (b:=w3.heap.size) (k:=1) (u:=.int .i64 (kk:Int)) (by omega));have H8:=iH (Ha.out.far (k:=1) HBa.out hp3 (by decide) (by decide) (by decide) (.int .i64 (kk:Int)));have HG8:=iH (grown_fresh (k:=1) (u:=.int .i64 (kk:Int)) HGa.out (by omega:W.heap.size<=w3.heap.size));have HKN:Hid (∀j,nameIx (m.rules.map RuM.name) u.text=some j->j<m.rules.length):=iH fun j hj=>by have:=nameIx_lt hj;simpa using this
 have HSM:Hid (m.rules.length<=100000):=iH (by have h1:=Ha.out.rus.len;have h2:=Ha.out.rus.small;omega);clear Ha HRa HBa HTa HGa;generalize(wa.setCell ⟨w3.heap.size,1,none⟩ (.int .i64 (kk:Int)))=w8 at *;have HTS:Hid (t.text.size<=8192):=iH HTK.out.1;cases hx:nameIx (m.rules.map RuM.name) u.text with
 | some j =>
   have HREL:=iH (named_rel (l:=(m.rules.map RuM.name)) (f:=fun z=>.node sRule z 0 []) (K:=.node t.text (kk:Int) 0 []) (st:=st) HTK2.out (fun j' hj'=>by rw[hx]at hj';cases hj';rw[show(kk:Int)=((j:Nat):Int) from by rw[<- hkk,hx];rfl,HOP.out]));have HNS:nameSt (m.rules.map RuM.name) u st=st:=by simp[nameSt,hx]
   rw[HNS]at HREL;have hkj:kk=j:=by rw[<- hkk,hx];rfl
   have hkb:kk<=100000:=by have h1:=HKN.out j hx;have h2:=HSM.out;omega
   have hot:okk=true:=by rw[<- hok,hx];rfl
   clear hkk hok HKN HSM hkj;subst hot;have HKI:Hid (In64 (kk:Int)):=iH ⟨by omega,by omega⟩;have HB:=HB8;have HR:=HR8;have HQA:=H8;have HGA:=HG8;have m0:=HB.out.k0;have m1:=HB.out.k1;have m2:=HB.out.k2;have m3:=HB.out.k3;have ml:=HB.out.lt;have r0:=HR.out.k0;have r1:=HR.out.k1;have r2:=HR.out.k2;have r3:=HR.out.k3;have rl:=HR.out.lt;have rf0:=HR.out.frozen 0;have rf1:=HR.out.frozen 1;have rf2:=HR.out.frozen 2;have rf3:=HR.out.frozen 3;clear hx HNS;go_wp2;have hX:=lay_mq (M:=⟨t.text,(kk:Int),0,[],⟨none,0,0⟩⟩) HR.out HQA.out HGA.out (by omega) (Nat.le_refl _) (leaf_mk _ _ HTS.out HKI.out ⟨by decide,by decide⟩);dsimp only at hX;generalize((((w8.setCell ⟨W.heap.size,0,none⟩ (.string t.text)).setCell ⟨W.heap.size,1,none⟩ (.int .i64 (kk:Int))).setCell ⟨W.heap.size,2,none⟩ (.int .i64 0)).setCell ⟨W.heap.size,3,none⟩ (.slice none 0 0))=X at *;have HXB:=hX.2.2.2;have xx0:=HXB.k0;have xx1:=HXB.k1;have xx2:=HXB.k2;have xx3:=HXB.k3;refine bodyPost_ret (v:=.agg #[.string t.text,.int .i64 (kk:Int),.int .i64 0,.slice none 0 0]) (by simp[results,Tryz.results135,go_sem,xx0,xx1,xx2,xx3]) rfl ?_;exact⟨⟨t.text,(kk:Int),0,[],⟨none,0,0⟩⟩,i2,b2,st,rfl,hX.1,hX.2.1,hX.2.2.1,HREL.out⟩
 | none =>
   have HREL:=iH (named_rel (l:=(m.rules.map RuM.name)) (f:=fun z=>.node sRule z 0 []) (K:=.node t.text (kk:Int) 0 []) (st:=st) HTK2.out (fun j' hj'=>by rw[hx]at hj';cases hj'));have HNS:nameSt (m.rules.map RuM.name) u st=st.note 6 u.at_:=by simp[nameSt,hx]
   rw[HNS]at HREL;have hkj:kk=0:=by rw[<- hkk,hx];rfl
   have hkb:kk<=100000:=by omega
   have hot:okk=false:=by rw[<- hok,hx];rfl
   clear hkk hok HKN HSM hkj;subst hot;have HKI:Hid (In64 (kk:Int)):=iH ⟨by omega,by omega⟩;have m0:=HB8.out.k0;have m1:=HB8.out.k1;have m2:=HB8.out.k2;have m3:=HB8.out.k3;have ml:=HB8.out.lt;have u0:=HT8.out.k0;have u1:=HT8.out.k1;have u2:=HT8.out.k2;have u3:=HT8.out.k3;have ul:=HT8.out.lt;have KF:=iH (fail_rd 6 u.at_ H8.out);clear hx HNS;go_wp2_with fail;refine KF.out.mono ?_;rintro e w9 ⟨rfl,hq,hg⟩;have HQA:=iH hq;have HB:=iH (HB8.out.grown hg (by simp;omega));have HR:=iH (HR8.out.grown hg (by simp;omega));have HGA:=iH (grown_trans HG8.out hg);clear KF hq hg H8 HR8 HB8 HG8 HT8 m0 m1 m2 m3 ml u0 u1 u2 u3 ul;have m0:=HB.out.k0;have m1:=HB.out.k1;have m2:=HB.out.k2;have m3:=HB.out.k3;have ml:=HB.out.lt;have r0:=HR.out.k0;have r1:=HR.out.k1;have r2:=HR.out.k2;have r3:=HR.out.k3;have rl:=HR.out.lt;have rf0:=HR.out.frozen 0;have rf1:=HR.out.frozen 1;have rf2:=HR.out.frozen 2;have rf3:=HR.out.frozen 3;go_wp2;have hX:=lay_mq (M:=⟨t.text,(kk:Int),0,[],⟨none,0,0⟩⟩) HR.out HQA.out HGA.out (by omega) (Nat.le_refl _) (leaf_mk _ _ HTS.out HKI.out ⟨by decide,by decide⟩);dsimp only at hX;generalize((((w9.setCell ⟨W.heap.size,0,none⟩ (.string t.text)).setCell ⟨W.heap.size,1,none⟩ (.int .i64 (kk:Int))).setCell ⟨W.heap.size,2,none⟩ (.int .i64 0)).setCell ⟨W.heap.size,3,none⟩ (.slice none 0 0))=X at *;have HXB:=hX.2.2.2;have xx0:=HXB.k0;have xx1:=HXB.k1;have xx2:=HXB.k2;have xx3:=HXB.k3;refine bodyPost_ret (v:=.agg #[.string t.text,.int .i64 (kk:Int),.int .i64 0,.slice none 0 0]) (by simp[results,Tryz.results135,go_sem,xx0,xx1,xx2,xx3]) rfl ?_;exact⟨⟨t.text,(kk:Int),0,[],⟨none,0,0⟩⟩,i2,b2,(st.note 6 u.at_),rfl,hX.1,hX.2.1,hX.2.2.1,HREL.out⟩
theorem cond_Item {W:World} {pb:Nat} {m:CatM} {T:List Tok} {A:Option Addr} {n c i:Nat} {st:PSt} {t:Tok} (h:QAt W pb m T A n c i false st) (hi:i<n) (ht:T[i]? = some t) (hop:t.text=sItem) :
 Calls Tryz.prog 135 #[.pointer (some ⟨pb,0,none⟩)] W (RPost W pb m T A n c (condP kindNs (m.rules.map RuM.name) (m.items.map It.name) (T.drop i) st)):=by
 have H:=iH h;have hpl:=h.pk.lt;have hfew:=h.few;have hit:i<T.length:=by have:=h.len;omega
 obtain⟨bb,off,rfl,hel,hbb⟩:=h.at_ hit;have HEL:Hid (∀w',Below W.heap.size W w'->((w'.cell? ⟨bb,off+i*4,none⟩=some (.int .i64 T[i].kind)∧w'.cell? ⟨bb,off+i*4+1,none⟩=some (.string T[i].text)∧w'.cell? ⟨bb,off+i*4+2,none⟩=some (.int .i64 T[i].num)∧w'.cell? ⟨bb,off+i*4+3,none⟩=some (.int .i64 T[i].at_))∧bb<w'.heap.size)):=iH fun U hU =>
  ⟨⟨(hU.cell (p:=⟨bb,off+i*4,none⟩) hbb).trans hel.1,(hU.cell (p:=⟨bb,off+i*4+1,none⟩) hbb).trans hel.2.1,(hU.cell (p:=⟨bb,off+i*4+2,none⟩) hbb).trans hel.2.2.1,(hU.cell (p:=⟨bb,off+i*4+3,none⟩) hbb).trans hel.2.2.2⟩,Nat.lt_of_lt_of_le hbb hU.size⟩
 have hiI:(i:Int)<n:=by omega
 have hni:¬ n<=i:=by omega
 have hnI:(n:Int)<=8192:=by omega
 have htt:T[i]=t:=by rw[List.getElem?_eq_getElem hit]at ht;exact Option.some.inj ht
 rw[htt]at HEL;have y1:Below W.heap.size W (W.alloc (.cells #[.string ⟨#[]⟩,.int .i64 0,.int .i64 0,.slice none 0 0] 35)):=(Below.refl _ _).alloc (Nat.le_refl _) _;have Y1:=iH y1;have H1:=iH (h.below y1);have HR:=iH (Bk.new W 35 [.string ⟨#[]⟩,.int .i64 0,.int .i64 0,.slice none 0 0]);have HTK:=iH (h.toks t (by rw[<- htt];exact List.getElem_mem hit));clear hel hbb htt y1 h;have HQ:Hid (T.drop i=t :: T.drop (i+1)):=iH (by rw[List.drop_eq_getElem_cons hit];rw[List.getElem?_eq_getElem hit]at ht;rw[Option.some.inj ht]);have hio:isOp t.text=true:=by rw[hop];decide
 have hk0:t.kind=0:=HTK.out.2.2.1 (by rw[hop];decide);have HX:Hid (¬ ixOf condNs t.text<0):=iH (by rw[ix_isOp,hio];simp);have qKind:(t.text.toList == [107,105,110,100])=false:=by rw[hop,<- lKind',eqL];decide
 have qActor:(t.text.toList == [97,99,116,111,114])=false:=by rw[hop,<- lActor',eqL];decide
 have qRule:(t.text.toList == [114,117,108,101])=false:=by rw[hop,<- lRule',eqL];decide
 have qTick:(t.text.toList == [116,105,99,107])=false:=by rw[hop,<- lTick',eqL];decide
 have qItem:(t.text.toList == [105,116,101,109])=true:=by rw[hop,<- lItem',eqL];decide
 have qMore:(t.text.toList == [109,111,114,101])=false:=by rw[hop,<- lMore',eqL];decide
 have qStep:(t.text.toList == [115,116,101,112])=false:=by rw[hop,<- lStep',eqL];decide
 have qAccount:(t.text.toList == [97,99,99,111,117,110,116])=false:=by rw[hop,<- lAccount',eqL];decide
 have HOP:=iH hop;clear hit hio hop;have HR0:condP kindNs (m.rules.map RuM.name) (m.items.map It.name) (T.drop i) st=nameP (m.items.map It.name) (fun z=>.node sItem z 0 []) (T.drop (i+1)) st:=by
  rw[HQ.out];simp only[condP];rw[if_neg (by rw[hk0,HOP.out];decide),if_neg (by rw[HOP.out];decide),if_neg (by rw[HOP.out];decide),if_pos HOP.out]
 rw[HR0];clear HR0;go_enter Tryz.func135,Tryz.ntmps135;go_wp2;refine wp_region_X (fun w'=>Bk w' pb 150 [.slice m.si.A m.si.n m.si.c,.slice m.sr.A m.sr.n m.sr.c,.slice m.st.A m.st.n m.st.c,.slice m.sx.A m.sx.n m.sx.c,.slice (some ⟨bb,off,none⟩) n c,.int .i64 (i:Int),.bool false,.int .i64 st.1,.int .i64 st.2]∧((w'.cell? ⟨bb,off+i*4,none⟩=some (.int .i64 t.kind)∧w'.cell? ⟨bb,off+i*4+1,none⟩=some (.string t.text)∧w'.cell? ⟨bb,off+i*4+2,none⟩=some (.int .i64 t.num)∧w'.cell? ⟨bb,off+i*4+3,none⟩=some (.int .i64 t.at_))∧bb<w'.heap.size)) 26 (n:=26) rfl (by kernel_rfl) (⟨H1.out.pk.drew,HEL.out _ Y1.out.drew⟩) (fun hS=>?_);refine tU 0 (some 12) (v:=?_) rfl ⟨rfl,?_⟩ hS ?_;rotate_left
 ·intro w' hS';(go_simp;try with_reducible rfl)
 simp only[Act.put,Pa,Pb,Pc];refine tU 1 (some 13) (v:=?_) rfl ⟨rfl,?_⟩ hS ?_;rotate_left
 ·intro w' hS';(go_simp;try with_reducible rfl)
 simp only[Act.put,Pa,Pb,Pc];refine tU 2 (some 14) (v:=?_) rfl ⟨rfl,?_⟩ hS ?_;rotate_left
 ·intro w' hS';(go_simp;try with_reducible rfl)
 simp only[Act.put,Pa,Pb,Pc];refine tU 3 (some 15) (v:=?_) rfl ⟨rfl,?_⟩ hS ?_;rotate_left
 ·intro w' hS';have e0:=hS'.1.k0;have e1:=hS'.1.k1;have e2:=hS'.1.k2;have e3:=hS'.1.k3;have e4:=hS'.1.k4;have e5:=hS'.1.k5;have e6:=hS'.1.k6;have e7:=hS'.1.k7;have e8:=hS'.1.k8;have el:=hS'.1.lt;have t0:=hS'.2.1.1;have t1:=hS'.2.1.2.1;have t2:=hS'.2.1.2.2.1;have t3:=hS'.2.1.2.2.2;have tl:=hS'.2.2;(go_simp;try with_reducible rfl)
 simp only[Act.put,Pa,Pb,Pc];refine tU 4 (some 16) (v:=?_) rfl ⟨rfl,?_⟩ hS ?_;rotate_left
 ·intro w' hS';(go_simp;try with_reducible rfl)
 simp only[Act.put,Pa,Pb,Pc];refine tU 5 (some 17) (v:=?_) rfl ⟨rfl,?_⟩ hS ?_;rotate_left
 ·intro w' hS';(go_simp;try with_reducible rfl)
 simp only[Act.put,Pa,Pb,Pc];refine tU 6 (some 18) (v:=?_) rfl ⟨rfl,?_⟩ hS ?_;rotate_left
 ·intro w' hS';(go_simp;try with_reducible rfl)
 simp only[Act.put,Pa,Pb,Pc];refine tU 7 (some 19) (v:=?_) rfl ⟨rfl,?_⟩ hS ?_;rotate_left
 ·intro w' hS';have e0:=hS'.1.k0;have e1:=hS'.1.k1;have e2:=hS'.1.k2;have e3:=hS'.1.k3;have e4:=hS'.1.k4;have e5:=hS'.1.k5;have e6:=hS'.1.k6;have e7:=hS'.1.k7;have e8:=hS'.1.k8;have el:=hS'.1.lt;have t0:=hS'.2.1.1;have t1:=hS'.2.1.2.1;have t2:=hS'.2.1.2.2.1;have t3:=hS'.2.1.2.2.2;have tl:=hS'.2.2;(go_simp;try with_reducible rfl)
 simp only[Act.put,Pa,Pb,Pc];refine tU 8 (some 20) (v:=?_) rfl ⟨rfl,?_⟩ hS ?_;rotate_left
 ·intro w' hS';(go_simp;try with_reducible rfl)
 simp only[Act.put,Pa,Pb,Pc];refine tU 9 (some 21) (v:=?_) rfl ⟨rfl,?_⟩ hS ?_;rotate_left
 ·intro w' hS';(go_simp;try with_reducible rfl)
 simp only[Act.put,Pa,Pb,Pc];refine tU 10 (some 22) (v:=?_) rfl ⟨rfl,?_⟩ hS ?_;rotate_left
 ·intro w' hS';(go_simp;try with_reducible rfl)
 simp only[Act.put,Pa,Pb,Pc];refine tU 12 (some 24) (v:=?_) rfl ⟨rfl,?_⟩ hS ?_;rotate_left
 ·intro w' hS';(go_simp;try with_reducible rfl)
 simp only[Act.put,Pa,Pb,Pc];refine tU 13 (some 25) (v:=?_) rfl ⟨rfl,?_⟩ hS ?_;rotate_left
 ·intro w' hS';(go_simp;try with_reducible rfl)
 simp only[Act.put,Pa,Pb,Pc];refine tU 14 (some 26) (v:=?_) rfl ⟨rfl,?_⟩ hS ?_;rotate_left
 ·intro w' hS';(go_simp;try with_reducible rfl)
 simp only[Act.put,Pa,Pb,Pc];refine tU 15 (some 27) (v:=?_) rfl ⟨rfl,?_⟩ hS ?_;rotate_left
 ·intro w' hS';have e0:=hS'.1.k0;have e1:=hS'.1.k1;have e2:=hS'.1.k2;have e3:=hS'.1.k3;have e4:=hS'.1.k4;have e5:=hS'.1.k5;have e6:=hS'.1.k6;have e7:=hS'.1.k7;have e8:=hS'.1.k8;have el:=hS'.1.lt;have t0:=hS'.2.1.1;have t1:=hS'.2.1.2.1;have t2:=hS'.2.1.2.2.1;have t3:=hS'.2.1.2.2.2;have tl:=hS'.2.2;(go_simp;try with_reducible rfl)
 simp only[Act.put,Pa,Pb,Pc];refine tU 16 (some 28) (v:=?_) rfl ⟨rfl,?_⟩ hS ?_;rotate_left
 ·intro w' hS';(go_simp;try with_reducible rfl)
 simp only[Act.put,Pa,Pb,Pc];refine tU 17 (some 29) (v:=?_) rfl ⟨rfl,?_⟩ hS ?_;rotate_left
 ·intro w' hS';(go_simp;try with_reducible rfl)
 simp only[Act.put,Pa,Pb,Pc];refine tU 18 (some 30) (v:=?_) rfl ⟨rfl,?_⟩ hS ?_;rotate_left
 ·intro w' hS';(go_simp;try with_reducible rfl)
 simp only[Act.put,Pa,Pb,Pc];refine tU 19 (some 31) (v:=?_) rfl ⟨rfl,?_⟩ hS ?_;rotate_left
 ·intro w' hS';have e0:=hS'.1.k0;have e1:=hS'.1.k1;have e2:=hS'.1.k2;have e3:=hS'.1.k3;have e4:=hS'.1.k4;have e5:=hS'.1.k5;have e6:=hS'.1.k6;have e7:=hS'.1.k7;have e8:=hS'.1.k8;have el:=hS'.1.lt;have t0:=hS'.2.1.1;have t1:=hS'.2.1.2.1;have t2:=hS'.2.1.2.2.1;have t3:=hS'.2.1.2.2.2;have tl:=hS'.2.2;(go_simp;try with_reducible rfl)
 simp only[Act.put,Pa,Pb,Pc];refine tU 20 (some 32) (v:=?_) rfl ⟨rfl,?_⟩ hS ?_;rotate_left
 ·intro w' hS';(go_simp;try with_reducible rfl)
 simp only[Act.put,Pa,Pb,Pc];refine tU 21 (some 33) (v:=?_) rfl ⟨rfl,?_⟩ hS ?_;rotate_left
 ·intro w' hS';(go_simp;try with_reducible rfl)
 simp only[Act.put,Pa,Pb,Pc];refine tU 22 (some 34) (v:=?_) rfl ⟨rfl,?_⟩ hS ?_;rotate_left
 ·intro w' hS';have e0:=hS'.1.k0;have e1:=hS'.1.k1;have e2:=hS'.1.k2;have e3:=hS'.1.k3;have e4:=hS'.1.k4;have e5:=hS'.1.k5;have e6:=hS'.1.k6;have e7:=hS'.1.k7;have e8:=hS'.1.k8;have el:=hS'.1.lt;have t0:=hS'.2.1.1;have t1:=hS'.2.1.2.1;have t2:=hS'.2.1.2.2.1;have t3:=hS'.2.1.2.2.2;have tl:=hS'.2.2;(go_simp;try with_reducible rfl)
 simp only[Act.put,Pa,Pb,Pc];refine X_o 11 rfl fun K hK=>?_;go_simp;have K1:=iH (condNs_any (W.alloc (.cells #[.string ⟨#[]⟩,.int .i64 0,.int .i64 0,.slice none 0 0] 35)).drew);(with_reducible refine K1.out.mono ?_);rintro e w2 ⟨A1,n1,c1,rfl,hnm,hb⟩;have hd:=(Below.refl (W.alloc (.cells #[.string ⟨#[]⟩,.int .i64 0,.int .i64 0,.slice none 0 0] 35)).heap.size (W.alloc (.cells #[.string ⟨#[]⟩,.int .i64 0,.int .i64 0,.slice none 0 0] 35))).drew.trans hb;have Y2:=iH (Y1.out.trans (hd.mono Y1.out.size));have H2:=iH (H1.out.below hd);have HR2:=iH (HR.out.below hd HR.out.lt);have HNM:=iH hnm;refine hK _ _ ⟨H2.out.pk,HEL.out _ Y2.out⟩ ?_;clear hK K1 hnm hb hd;refine X_o 23 rfl fun K hK=>?_;go_simp;have K1:=iH (rindex_any (c:=c1) t.text HNM.out);(with_reducible refine K1.out.mono ?_);rintro e w2 ⟨rfl,rfl⟩;refine hK _ _ ⟨H2.out.pk,HEL.out _ Y2.out⟩ ?_;clear hK K1 HNM;refine tU 24 (some 36) (v:=?_) rfl ⟨rfl,?_⟩ ⟨H2.out.pk,HEL.out _ Y2.out⟩ ?_;rotate_left
 ·intro w' hS';(go_simp;try with_reducible rfl)
 simp only[Act.put,Pa,Pb,Pc];refine tU 25 (some 37) (v:=?_) rfl ⟨rfl,?_⟩ ⟨H2.out.pk,HEL.out _ Y2.out⟩ ?_;rotate_left
 ·intro w' hS';(go_simp;try with_reducible rfl)
 simp only[Act.put,Pa,Pb,Pc];refine X_done (by kernel_rfl) ?_;clear hS;have hx1:¬ ixOf condNs t.text<0:=by have:=HX.out;omega
 generalize ixOf condNs t.text=ix at *;have KT:=iH (take_yes 0 ⟨#[]⟩ H2.out hi ht hk0 (.inl rfl));rw[hk0]at KT;have hfd:=fun w=>field153 0 t.num t.at_ t.text w
 go_wp2_with fail;refine KT.out.mono ?_;rintro e w3 ⟨rfl,hq,hg⟩;have H3:=iH hq;have HR3:=iH (HR2.out.grown hg (by simp;omega));have HG3:=iH (grown_trans (grown_of_below Y2.out (some pb)) hg);have y4:Below w3.heap.size w3 (w3.alloc (.cells #[.string t.text,.int .i64 0,.int .i64 0,.slice none 0 0] 35)):=(Below.refl _ _).alloc (Nat.le_refl _) _;have H4:=iH (hq.below y4);have HR4:=iH (HR3.out.below y4 HR3.out.lt);have HB4:=iH (Bk.new w3 35 [.string t.text,.int .i64 0,.int .i64 0,.slice none 0 0]);have HG4:=iH (grown_trans HG3.out (grown_of_below y4 _));have hp3:pb<w3.heap.size:=hq.pk.lt;have hr3:W.heap.size<w3.heap.size:=HR3.out.lt;have b40:(w3.alloc (.cells #[.string t.text,.int .i64 0,.int .i64 0,.slice none 0 0] 35)).cell? ⟨w3.heap.size,0,none⟩=some (.string t.text):=HB4.out.cell 0;have b4l:=HB4.out.lt;clear KT hq hg y4 H2 HR2 Y2 H3 HR3 HG3 HX hx1;have KU:=iH (take_rd 0 ⟨#[]⟩ H4.out);go_wp2_with fail;refine KU.out.mono ?_;rintro e w5 ⟨u,i2,b2,htk,rfl,hq,hg,husz,hun⟩;have HTK2:=iH htk;have hn5:w3.heap.size<w5.heap.size:=Nat.lt_of_lt_of_le b4l hg.size;have y6:Below w5.heap.size w5 (w5.alloc (.cells #[.int .i64 u.kind,.string u.text,.int .i64 u.num,.int .i64 u.at_] 153)):=(Below.refl _ _).alloc (Nat.le_refl _) _;have H6:=iH (hq.below y6);have HR5:=HR4.out.grown hg (by simp;omega);have HB5:=HB4.out.grown hg (by simp;omega);have HR6:=iH (HR5.below y6 HR5.lt);have HB6:=iH (HB5.below y6 HB5.lt);have HT6:=iH (Bk.new w5 153 [.int .i64 u.kind,.string u.text,.int .i64 u.num,.int .i64 u.at_]);have HG6:=iH (grown_trans (grown_trans HG4.out hg) (grown_of_below y6 _));clear KU htk hq hg y6 H4 HR4 HB4 HG4 HR5 HB5 b40 b4l;go_wp2;refine wp_region_X (fun w'=>Bk w' w5.heap.size 153 [.int .i64 u.kind,.string u.text,.int .i64 u.num,.int .i64 u.at_]) 5 (n:=6) rfl (by kernel_rfl) (HT6.out.drew) (fun hS=>?_);refine tX 1 (some 62) (v:=?_) rfl ⟨rfl,?_⟩ hS ?_;rotate_left
 ·intro w' hS';(go_simp;try with_reducible rfl)
 simp only[Act.put,Pa,Pb,Pc];refine tX 2 (some 63) (v:=?_) rfl ⟨rfl,?_⟩ hS ?_;rotate_left
 ·intro w' hS';have e0:=hS'.k0;have e1:=hS'.k1;have e2:=hS'.k2;have e3:=hS'.k3;have el:=hS'.lt;(go_simp;try with_reducible rfl)
 simp only[Act.put,Pa,Pb,Pc];refine X_o 0 rfl fun K hK=>?_;go_simp;have K1:=iH (rkinds_any (w5.alloc (.cells #[.int .i64 u.kind,.string u.text,.int .i64 u.num,.int .i64 u.at_] 153)).drew);(with_reducible refine K1.out.mono ?_);rintro e w7 ⟨A1,n1,c1,rfl,hnm,hb⟩;have hd:=(Below.refl (w5.alloc (.cells #[.int .i64 u.kind,.string u.text,.int .i64 u.num,.int .i64 u.at_] 153)).heap.size (w5.alloc (.cells #[.int .i64 u.kind,.string u.text,.int .i64 u.num,.int .i64 u.at_] 153))).drew.trans hb;have H7:=iH (H6.out.below hd);have HR7:=iH (HR6.out.below hd HR6.out.lt);have HB7:=iH (HB6.out.below hd HB6.out.lt);have HT7:=iH (HT6.out.below hd HT6.out.lt);have HG7:=iH (grown_trans HG6.out (grown_of_below hd _));have HNM:=iH hnm;refine hK _ _ HT7.out ?_;clear hK K1 hnm hb hd H6 HR6 HB6 HT6 HG6;refine X_o 3 rfl fun K hK=>?_;go_simp;have K1:=iH (rindex_any (c:=c1) u.text HNM.out);(with_reducible refine K1.out.mono ?_);rintro e w7 ⟨rfl,rfl⟩;refine hK _ _ HT7.out ?_;clear hK K1 HNM;generalize hixk:ixOf kindNs u.text=ixk at *;refine X_o 4 rfl fun K hK=>?_;go_simp;refine hK _ _ HT7.out ?_;clear hK;refine X_tail (by kernel_rfl) ?_;refine A_one 5 (by kernel_rfl) rfl rfl (fun K hK=>?_);have r0:=HB7.out.k0;have r1:=HB7.out.k1;have r2:=HB7.out.k2;have r3:=HB7.out.k3;have rl:=HB7.out.lt;have rf:=HB7.out.frozen 1;go_simp;refine hK _ _ ?_;clear hK;refine A_done (by kernel_rfl) ?_;clear hS;have HB8:=iH (HB7.out.set 1 (.int .i64 ixk));have HT8:=iH (HT7.out.setOther (b:=w3.heap.size) (k:=1) (u:=.int .i64 ixk) (by omega));have HR8:=iH (HR7.out.setOther (b:=w3.heap.size) (k:=1) (u:=.int .i64 ixk) (by omega));have H8:=iH (H7.out.far (k:=1) HB7.out hp3 (by decide) (by decide) (by decide) (.int .i64 ixk));have HG8:=iH (grown_fresh (k:=1) (u:=.int .i64 ixk) HG7.out (by omega:W.heap.size<=w3.heap.size));clear H7 HR7 HB7 HT7 HG7 hixk;generalize(w7.setCell ⟨w3.heap.size,1,none⟩ (.int .i64 ixk))=w8 at *;have hp5:pb<w5.heap.size:=by omega
 have m0:=HB8.out.k0;have m1:=HB8.out.k1;have m2:=HB8.out.k2;have m3:=HB8.out.k3;have ml:=HB8.out.lt;go_wp2;clear m0 m1 m2 m3 ml;refine wp_region_X (fun w'=>Bk w' pb 150 [.slice m.si.A m.si.n m.si.c,.slice m.sr.A m.sr.n m.sr.c,.slice m.st.A m.st.n m.st.c,.slice m.sx.A m.sx.n m.sx.c,.slice (some ⟨bb,off,none⟩) n c,.int .i64 (i2:Int),.bool b2,.int .i64 st.1,.int .i64 st.2]∧Bk w' w5.heap.size 153 [.int .i64 u.kind,.string u.text,.int .i64 u.num,.int .i64 u.at_]) 13 (n:=13) rfl (by kernel_rfl) (⟨H8.out.drew.pk,HT8.out.drew⟩) (fun hS=>?_);refine tU 0 (some 87) (v:=?_) rfl ⟨rfl,?_⟩ hS ?_;rotate_left
 ·intro w' hS';(go_simp;try with_reducible rfl)
 simp only[Act.put,Pa,Pb,Pc];refine tU 1 (some 88) (v:=?_) rfl ⟨rfl,?_⟩ hS ?_;rotate_left
 ·intro w' hS';(go_simp;try with_reducible rfl)
 simp only[Act.put,Pa,Pb,Pc];refine tU 2 (some 89) (v:=?_) rfl ⟨rfl,?_⟩ hS ?_;rotate_left
 ·intro w' hS';(go_simp;try with_reducible rfl)
 simp only[Act.put,Pa,Pb,Pc];refine tU 3 (some 90) (v:=?_) rfl ⟨rfl,?_⟩ hS ?_;rotate_left
 ·intro w' hS';have e0:=hS'.1.k0;have e1:=hS'.1.k1;have e2:=hS'.1.k2;have e3:=hS'.1.k3;have e4:=hS'.1.k4;have e5:=hS'.1.k5;have e6:=hS'.1.k6;have e7:=hS'.1.k7;have e8:=hS'.1.k8;have el:=hS'.1.lt;have v0:=hS'.2.k0;have v1:=hS'.2.k1;have v2:=hS'.2.k2;have v3:=hS'.2.k3;have vl:=hS'.2.lt;(go_simp;try with_reducible rfl)
 simp only[Act.put,Pa,Pb,Pc];refine tU 4 (some 91) (v:=?_) rfl ⟨rfl,?_⟩ hS ?_;rotate_left
 ·intro w' hS';(go_simp;try with_reducible rfl)
 simp only[Act.put,Pa,Pb,Pc];refine tU 5 (some 92) (v:=?_) rfl ⟨rfl,?_⟩ hS ?_;rotate_left
 ·intro w' hS';have e0:=hS'.1.k0;have e1:=hS'.1.k1;have e2:=hS'.1.k2;have e3:=hS'.1.k3;have e4:=hS'.1.k4;have e5:=hS'.1.k5;have e6:=hS'.1.k6;have e7:=hS'.1.k7;have e8:=hS'.1.k8;have el:=hS'.1.lt;have v0:=hS'.2.k0;have v1:=hS'.2.k1;have v2:=hS'.2.k2;have v3:=hS'.2.k3;have vl:=hS'.2.lt;(go_simp;try with_reducible rfl)
 simp only[Act.put,Pa,Pb,Pc];refine X_o 6 rfl fun K hK=>?_;go_simp;have K1:=iH (ritemN_any (m:=m) H8.out.drew.its u.text);unfold FindQ at K1;generalize hkk:(nameIx (m.items.map It.name) u.text).getD 0=kk at *;generalize hok:(nameIx (m.items.map It.name) u.text).isSome=okk at *;(with_reducible refine K1.out.mono ?_);rintro e wa ⟨rfl,hb⟩;have hd:=(Below.refl w8.heap.size w8).drew.trans hb;have Ha:=iH (H8.out.below hd);have HRa:=iH (HR8.out.below hd HR8.out.lt);have HBa:=iH (HB8.out.below hd HB8.out.lt);have HTa:=iH (HT8.out.below hd HT8.out.lt);have HGa:=iH (grown_trans HG8.out (grown_of_below hd _));refine hK _ _ ⟨Ha.out.pk,HTa.out⟩ ?_;clear hK K1 hb hd H8 HR8 HB8 HT8 HG8;refine tU 7 (some 86) (v:=?_) rfl ⟨rfl,?_⟩ ⟨Ha.out.pk,HTa.out⟩ ?_;rotate_left
 ·intro w' hS';(go_simp;try with_reducible rfl)
 simp only[Act.put,Pa,Pb,Pc];refine tU 8 (some 94) (v:=?_) rfl ⟨rfl,?_⟩ ⟨Ha.out.pk,HTa.out⟩ ?_;rotate_left
 ·intro w' hS';(go_simp;try with_reducible rfl)
 simp only[Act.put,Pa,Pb,Pc];refine tU 9 (some 95) (v:=?_) rfl ⟨rfl,?_⟩ ⟨Ha.out.pk,HTa.out⟩ ?_;rotate_left
 ·intro w' hS';(go_simp;try with_reducible rfl)
 simp only[Act.put,Pa,Pb,Pc];refine X_o 10 rfl fun K hK=>?_;go_simp;refine hK _ _ ⟨Ha.out.pk,HTa.out⟩ ?_;clear hK;refine X_o 11 rfl fun K hK=>?_;have r0:=HBa.out.k0;have r1:=HBa.out.k1;have r2:=HBa.out.k2;have r3:=HBa.out.k3;have rl:=HBa.out.lt;have rf:=HBa.out.frozen 1;go_simp;have HT9:=iH (HTa.out.setOther (b:=w3.heap.size) (k:=1) (u:=.int .i64 (kk:Int)) (by omega));have HP9:=iH (Ha.out.pk.setOther (b:=w3.heap.size) (k:=1) (u:=.int .i64 (kk:Int)) (by omega));refine hK _ _ ⟨HP9.out,HT9.out⟩ ?_;clear hK r0 r1 r2 r3 rl rf;refine X_o 12 rfl fun K hK=>?_;go_simp;refine hK _ _ ⟨HP9.out,HT9.out⟩ ?_;clear hK;refine X_done (by kernel_rfl) ?_;clear hS HP9 HT9;have HB8:=iH (HBa.out.set 1 (.int .i64 (kk:Int)));have HT8:=iH (HTa.out.setOther (b:=w3.heap.size) (k:=1) (u:=.int .i64 (kk:Int)) (by omega));have HR8:=iH (HRa.out.setOther (b:=w3.heap.size) (k:=1) (u:=.int .i64 (kk:Int)) (by omega));have H8:=iH (Ha.out.far (k:=1) HBa.out hp3 (by decide) (by decide) (by decide) (.int .i64 (kk:Int)));have HG8:=iH (grown_fresh (k:=1) (u:=.int .i64 (kk:Int)) HGa.out (by omega:W.heap.size<=w3.heap.size));have HKN:Hid (∀j,nameIx (m.items.map It.name) u.text=some j->j<m.items.length):=iH fun j hj=>by have:=nameIx_lt hj;simpa using this
 have HSM:Hid (m.items.length<=100000):=iH (by have h1:=Ha.out.its.len;have h2:=Ha.out.its.small;omega);clear Ha HRa HBa HTa HGa;generalize(wa.setCell ⟨w3.heap.size,1,none⟩ (.int .i64 (kk:Int)))=w8 at *;have HTS:Hid (t.text.size<=8192):=iH HTK.out.1;cases hx:nameIx (m.items.map It.name) u.text with
 | some j =>
   have HREL:=iH (named_rel (l:=(m.items.map It.name)) (f:=fun z=>.node sItem z 0 []) (K:=.node t.text (kk:Int) 0 []) (st:=st) HTK2.out (fun j' hj'=>by rw[hx]at hj';cases hj';rw[show(kk:Int)=((j:Nat):Int) from by rw[<- hkk,hx];rfl,HOP.out]));have HNS:nameSt (m.items.map It.name) u st=st:=by simp[nameSt,hx]
   rw[HNS]at HREL;have hkj:kk=j:=by rw[<- hkk,hx];rfl
   have hkb:kk<=100000:=by have h1:=HKN.out j hx;have h2:=HSM.out;omega
   have hot:okk=true:=by rw[<- hok,hx];rfl
   clear hkk hok HKN HSM hkj;subst hot;have HKI:Hid (In64 (kk:Int)):=iH ⟨by omega,by omega⟩;have HB:=HB8;have HR:=HR8;have HQA:=H8;have HGA:=HG8;have m0:=HB.out.k0;have m1:=HB.out.k1;have m2:=HB.out.k2;have m3:=HB.out.k3;have ml:=HB.out.lt;have r0:=HR.out.k0;have r1:=HR.out.k1;have r2:=HR.out.k2;have r3:=HR.out.k3;have rl:=HR.out.lt;have rf0:=HR.out.frozen 0;have rf1:=HR.out.frozen 1;have rf2:=HR.out.frozen 2;have rf3:=HR.out.frozen 3;clear hx HNS;go_wp2;have hX:=lay_mq (M:=⟨t.text,(kk:Int),0,[],⟨none,0,0⟩⟩) HR.out HQA.out HGA.out (by omega) (Nat.le_refl _) (leaf_mk _ _ HTS.out HKI.out ⟨by decide,by decide⟩);dsimp only at hX;generalize((((w8.setCell ⟨W.heap.size,0,none⟩ (.string t.text)).setCell ⟨W.heap.size,1,none⟩ (.int .i64 (kk:Int))).setCell ⟨W.heap.size,2,none⟩ (.int .i64 0)).setCell ⟨W.heap.size,3,none⟩ (.slice none 0 0))=X at *;have HXB:=hX.2.2.2;have xx0:=HXB.k0;have xx1:=HXB.k1;have xx2:=HXB.k2;have xx3:=HXB.k3;refine bodyPost_ret (v:=.agg #[.string t.text,.int .i64 (kk:Int),.int .i64 0,.slice none 0 0]) (by simp[results,Tryz.results135,go_sem,xx0,xx1,xx2,xx3]) rfl ?_;exact⟨⟨t.text,(kk:Int),0,[],⟨none,0,0⟩⟩,i2,b2,st,rfl,hX.1,hX.2.1,hX.2.2.1,HREL.out⟩
 | none =>
   have HREL:=iH (named_rel (l:=(m.items.map It.name)) (f:=fun z=>.node sItem z 0 []) (K:=.node t.text (kk:Int) 0 []) (st:=st) HTK2.out (fun j' hj'=>by rw[hx]at hj';cases hj'));have HNS:nameSt (m.items.map It.name) u st=st.note 6 u.at_:=by simp[nameSt,hx]
   rw[HNS]at HREL;have hkj:kk=0:=by rw[<- hkk,hx];rfl
   have hkb:kk<=100000:=by omega
   have hot:okk=false:=by rw[<- hok,hx];rfl
   clear hkk hok HKN HSM hkj;subst hot;have HKI:Hid (In64 (kk:Int)):=iH ⟨by omega,by omega⟩;have m0:=HB8.out.k0;have m1:=HB8.out.k1;have m2:=HB8.out.k2;have m3:=HB8.out.k3;have ml:=HB8.out.lt;have u0:=HT8.out.k0;have u1:=HT8.out.k1;have u2:=HT8.out.k2;have u3:=HT8.out.k3;have ul:=HT8.out.lt;have KF:=iH (fail_rd 6 u.at_ H8.out);clear hx HNS;go_wp2_with fail;refine KF.out.mono ?_;rintro e w9 ⟨rfl,hq,hg⟩;have HQA:=iH hq;have HB:=iH (HB8.out.grown hg (by simp;omega));have HR:=iH (HR8.out.grown hg (by simp;omega));have HGA:=iH (grown_trans HG8.out hg);clear KF hq hg H8 HR8 HB8 HG8 HT8 m0 m1 m2 m3 ml u0 u1 u2 u3 ul;have m0:=HB.out.k0;have m1:=HB.out.k1;have m2:=HB.out.k2;have m3:=HB.out.k3;have ml:=HB.out.lt;have r0:=HR.out.k0;have r1:=HR.out.k1;have r2:=HR.out.k2;have r3:=HR.out.k3;have rl:=HR.out.lt;have rf0:=HR.out.frozen 0;have rf1:=HR.out.frozen 1;have rf2:=HR.out.frozen 2;have rf3:=HR.out.frozen 3;go_wp2;have hX:=lay_mq (M:=⟨t.text,(kk:Int),0,[],⟨none,0,0⟩⟩) HR.out HQA.out HGA.out (by omega) (Nat.le_refl _) (leaf_mk _ _ HTS.out HKI.out ⟨by decide,by decide⟩);dsimp only at hX;generalize((((w9.setCell ⟨W.heap.size,0,none⟩ (.string t.text)).setCell ⟨W.heap.size,1,none⟩ (.int .i64 (kk:Int))).setCell ⟨W.heap.size,2,none⟩ (.int .i64 0)).setCell ⟨W.heap.size,3,none⟩ (.slice none 0 0))=X at *;have HXB:=hX.2.2.2;have xx0:=HXB.k0;have xx1:=HXB.k1;have xx2:=HXB.k2;have xx3:=HXB.k3;refine bodyPost_ret (v:=.agg #[.string t.text,.int .i64 (kk:Int),.int .i64 0,.slice none 0 0]) (by simp[results,Tryz.results135,go_sem,xx0,xx1,xx2,xx3]) rfl ?_;exact⟨⟨t.text,(kk:Int),0,[],⟨none,0,0⟩⟩,i2,b2,(st.note 6 u.at_),rfl,hX.1,hX.2.1,hX.2.2.1,HREL.out⟩
end Go.Proofs.YtocodlpgaamblaaGreatDoor
