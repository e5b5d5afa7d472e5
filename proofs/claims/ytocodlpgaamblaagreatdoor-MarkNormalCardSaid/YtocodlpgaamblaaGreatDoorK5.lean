/- The parser's state; find, name. The parser reads a name; the tests of ranges. -/
import Derived.Test.YtocodlpgaamblaaGreatDoorK4
set_option linter.unusedVariables false
set_option linter.unusedSimpArgs false
open Go.RowKit
namespace Go.Proofs.YtocodlpgaamblaaGreatDoor
section
/-- Of what was there the blocks r and p alone have changed. -/
structure Gr2 (r p : Nat) (w w' : World) : Prop where
 os:w'.os=w.os
 tape:w'.tape=w.tape
 output:w'.output=w.output
 size:w.heap.size≤w'.heap.size
 block:∀i,i<w.heap.size→i≠r→i≠p→w'.heap[i]? = w.heap[i]?
section
variable {r p : Nat} {a b c w w' : World}
theorem Gr2.refl (r p:Nat) (w:World):Gr2 r p w w:=⟨rfl,rfl,rfl,Nat.le_refl _,fun _ _ _ _=>rfl⟩
theorem Gr2.trans (h:Gr2 r p a b) (k:Gr2 r p b c):Gr2 r p a c:=⟨k.os.trans h.os,k.tape.trans h.tape,k.output.trans h.output,Nat.le_trans h.size k.size,fun i hi h1 h2=>(k.block i (Nat.lt_of_lt_of_le hi h.size) h1 h2).trans (h.block i hi h1 h2)⟩
theorem Gr2.of_r (h:w.grownBy w' (some r)):Gr2 r p w w':=⟨h.os,h.tape,h.output,h.size,fun i hi h1 _=>h.block i hi (by simpa using h1)⟩
theorem Gr2.of_p (h:w.grownBy w' (some p)):Gr2 r p w w':=⟨h.os,h.tape,h.output,h.size,fun i hi _ h2=>h.block i hi (by simpa using h2)⟩
theorem Gr2.of_below (h:Below w.heap.size w w'):Gr2 r p w w':=⟨h.os,h.tape,h.output,h.size,fun i hi _ _=>h.block i hi⟩
theorem Gr2.below {B:Nat} (h:Gr2 r p b c) (k:Below B a b) (hr:B≤r) (hp:B≤p) (hB:B≤b.heap.size):Below B a c:=k.trans ⟨h.os,h.tape,h.output,h.size,fun i hi=>h.block i (by omega) (by omega) (by omega)⟩
theorem Gr2.keep {t:TypeId} (h:Gr2 r p w w') (hr:∀cur fl,w.heap[r]? ≠ some (.cells cur t fl)) (hp:∀cur fl,w.heap[p]? ≠ some (.cells cur t fl)):Keep t w w':=fun i cur fl hi=>by
 have h1:i≠r:=fun e=>hr cur fl (e ▸ hi)
 have h2:i≠p:=fun e=>hp cur fl (e ▸ hi)
 exact(h.block i (Array.getElem?_eq_some_iff.1 hi).1 h1 h2).trans hi
theorem Bk.gr2 {g:Nat} {t:TypeId} {xs:List Value} (k:Bk w g t xs) (h:Gr2 r p w w') (h1:g≠r) (h2:g≠p):Bk w' g t xs:=(h.block g k.lt h1 h2).trans k
theorem Bk.not {g:Nat} {t t':TypeId} {xs:List Value} (k:Bk w g t xs) (hne:t≠t'):∀cur fl,w.heap[g]? ≠ some (.cells cur t' fl):=fun cur fl e=>by
 unfold Bk at k;rw[k]at e;cases e;exact hne rfl
theorem MkM.Ok.gr2 {t:TypeId} {P:Nat→Prop} {m:MkM} (h:m.Ok w t P) (hg:Gr2 r p w w') (hP:∀b,P b→b≠r∧b≠p):m.Ok w' t P:=by
 induction h with
 | mk op a b ks s row len small hop ha hb _ ih =>
   refine .mk op a b ks s ?_ len small hop ha hb ih;rcases row with h|⟨b,off,cur,fl,hA,hPb,hb,hc⟩
   ·exact .inl h
   ·exact .inr ⟨b,off,cur,fl,hA,hPb,(hg.block b (Array.getElem?_eq_some_iff.1 hb).1 (hP b hPb).1 (hP b hPb).2).trans hb,hc⟩
end
def pCells (rb:Nat) (m:CatM) (st:PSt):List Value:=[.pointer (some ⟨rb,0,none⟩),.slice m.si.A m.si.n m.si.c,.slice m.sr.A m.sr.n m.sr.c,.slice m.st.A m.st.n m.st.c,.slice m.sx.A m.sx.n m.sx.c,.string ⟨#[]⟩,.int .i64 0,.int .i64 0,.slice none 0 0,.int .i64 st.2,.int .i64 st.1]
/-- The parser at block pb, its reader at block rb. -/
structure PAt (W : World) (rb pb : Nat) (m : CatM) (ts : List Tok) (len : Int) (st : PSt) : Prop where
 rd:RdAt W rb ts len
 pk:Bk W pb 142 (pCells rb m st)
 its:ItsV W m.si m.items
 rus:RulesV W m.sr m.rules
 lt:rb<pb
 toks:∀t∈ts,t.text.size≤8192∧In64 t.num
section
variable {W W' : World} {rb pb : Nat} {m : CatM} {ts ts' : List Tok} {len : Int} {st st' : PSt}
theorem RdAt.not {t':TypeId} (h:RdAt W rb ts len) (hne:176≠t'):∀cur fl,W.heap[rb]? ≠ some (.cells cur t' fl):=by
 obtain⟨A,c,h1,_⟩:=h;exact h1.not hne
theorem PAt.turned (h:PAt W rb pb m ts len st) (g:Gr2 rb pb W W') (hrd:RdAt W' rb ts' len) (hpk:Bk W' pb 142 (pCells rb m st')) (hts:∀t∈ts',t∈ts):PAt W' rb pb m ts' len st' :=
 ⟨hrd,hpk,h.its.keep (g.keep (h.rd.not (by decide)) (h.pk.not (by decide))),h.rus.keep (g.keep (h.rd.not (by decide)) (h.pk.not (by decide))) (g.keep (h.rd.not (by decide)) (h.pk.not (by decide))),h.lt,fun t ht=>h.toks t (hts t ht)⟩
/-- Behind a call that reads. -/
theorem PAt.read (h:PAt W rb pb m ts len st) (g:W.grownBy W' (some rb)) (hrd:RdAt W' rb ts' len) (hts:∀t∈ts',t∈ts):PAt W' rb pb m ts' len st :=
 h.turned (.of_r g) hrd (h.pk.grown g (by have:=h.lt;simp;omega)) hts
theorem PAt.below (h:PAt W rb pb m ts len st) (hb:Below W.heap.size W W'):PAt W' rb pb m ts len st :=
 h.turned (.of_below hb) (h.rd.below hb) (h.pk.below hb h.pk.lt) fun _ ht=>ht
theorem PAt.r0 (h:PAt W rb pb m ts len st):W.cell? ⟨pb,0,none⟩=some (.pointer (some ⟨rb,0,none⟩)):=h.pk.cell 0
theorem PAt.plt (h:PAt W rb pb m ts len st):pb<W.heap.size:=h.pk.lt
theorem PAt.rlt (h:PAt W rb pb m ts len st):rb<W.heap.size:=h.rd.lt
end
theorem isB_any (ts:List Tok) (k:Int):isB ts k ⟨#[]⟩=kindB ts k:=by
 cases ts with
 | nil=>rfl
 | cons t r=>simp[isB,kindB,ByteArray.toList_eq]
theorem isB_word (ts:List Tok) (k:Int) {s:ByteArray} (hs:s≠⟨#[]⟩):isB ts k s=headB ts k s:=by
 cases ts with
 | nil=>rfl
 | cons t r =>
   have:s.toList.isEmpty=false:=by
    cases q:s.toList.isEmpty
    ·rfl
    ·exfalso;rw[List.isEmpty_iff,ByteArray.toList_eq]at q;exact hs (bytes_inj (by simpa using q))
   simp[isB,headB,this,eqL]
set_option maxRecDepth 100000 in
theorem find_any {W:World} {rb pb:Nat} {m:CatM} {ts:List Tok} {len:Int} {st:PSt} (a e:Int) (h:PAt W rb pb m ts len st):Calls Tryz.prog 145 #[.pointer (some ⟨pb,0,none⟩),.int .i64 a,.int .i64 e] W fun en w'=>en=.returned (.tuple #[])∧PAt w' rb pb m ts len (st.note e a)∧Gr2 rb pb W w':=by
 have H:=Lib.hid h;have hl:=h.plt;have c10:W.cell? ⟨pb,10,none⟩=some (.int .i64 st.1):=h.pk.cell 10;have f9:=h.pk.frozen 9;have f10:=h.pk.frozen 10;have c9:W.cell? ⟨pb,9,none⟩=some (.int .i64 st.2):=h.pk.cell 9;obtain⟨s1,s2⟩:=st;dsimp only at *;clear h;cases q:(s1 == 0)
 ·have q':(s1 == 0)=false:=q;have hn:(PSt.note (s1,s2) e a)=(s1,s2):=by simp only[PSt.note];rw[if_neg (by simpa using q)]
  have HN:=Lib.hid hn;clear hn q;go_enter Tryz.func145,Tryz.ntmps145;go_wp2
  go_end0
  exact⟨rfl,by rw[HN.out];exact H.out,.refl _ _ _⟩
 ·have hn:(PSt.note (s1,s2) e a)=(e,a):=by simp only[PSt.note];rw[if_pos (by simpa using q)]
  have HB:Hid (Bk ((W.setCell ⟨pb,9,none⟩ (.int .i64 a)).setCell ⟨pb,10,none⟩ (.int .i64 e)) pb 142 (pCells rb m (e,a))):=(H.out.pk.set 9 (.int .i64 a)).set 10 (.int .i64 e);have HG:Hid (W.grownBy ((W.setCell ⟨pb,9,none⟩ (.int .i64 a)).setCell ⟨pb,10,none⟩ (.int .i64 e)) (some pb)):=grown_trans2 (grown_setCell W pb 9 _) (grown_setCell _ pb 10 _);have HR:=Lib.hid (H.out.rd.keep (W':=(W.setCell ⟨pb,9,none⟩ (.int .i64 a)).setCell ⟨pb,10,none⟩ (.int .i64 e)) fun i hi=>HG.out.block i (Nat.lt_of_le_of_lt hi H.out.rlt) (by have:=H.out.lt;simp;omega));have q':s1=0:=by simpa using q
  subst q';have HN:=Lib.hid hn;clear hn q;go_enter Tryz.func145,Tryz.ntmps145;go_wp2
  go_end0
  exact⟨rfl,by rw[HN.out];exact H.out.turned (.of_p HG.out) HR.out HB.out fun _ ht=>ht,.of_p HG.out⟩
end
def nameV (l:List ByteArray) (s:ByteArray):Int:=match nameIx l s with | some i=>i | none=>0
def nameSt (l:List ByteArray) (t:Tok) (st:PSt):PSt:=match nameIx l t.text with | some _=>st | none=>st.note 6 t.at_
set_option maxRecDepth 100000 in
theorem name_no {W:World} {rb pb:Nat} {m:CatM} {ts:List Tok} {len:Int} {st:PSt} {A:Option Addr} {n c:Nat} (h:PAt W rb pb m ts len st) (hk:kindB ts 0=false):Calls Tryz.prog 143 #[.pointer (some ⟨pb,0,none⟩),.slice A n c] W fun e w'=>e=failV ts len∧Gr2 rb pb W w':=by
 have K:=Lib.hid (word_no ⟨#[]⟩ h.rd (by rw[isB_any];exact hk));have r0:=h.r0;have hl:=h.plt;clear h hk;go_enter Tryz.func143,Tryz.ntmps143;go_wp2_with fail;refine K.out.mono ?_;rintro e w1 ⟨rfl,hg⟩;exact⟨rfl,rfl,.of_r hg⟩
set_option maxRecDepth 100000 in
set_option maxHeartbeats 1000000 in
theorem name_ok {W:World} {rb pb:Nat} {m:CatM} {t:Tok} {r:List Tok} {len:Int} {st:PSt} {A:Option Addr} {n c:Nat} {l:List ByteArray} (h:PAt W rb pb m (t :: r) len st) (hN:NmV W A n l) (hk:t.kind=0) :
 Calls Tryz.prog 143 #[.pointer (some ⟨pb,0,none⟩),.slice A n c] W fun e w'=>e=.returned (.int .i64 (nameV l t.text))∧PAt w' rb pb m r len (nameSt l t st)∧Gr2 rb pb W w':=by
 have K:=Lib.hid (word_yes ⟨#[]⟩ h.rd (by rw[isB_any];simp[kindB,hk]));have r0:=h.r0;have hl:=h.plt;have H:=Lib.hid h;have HN:=Lib.hid hN;clear h hk hN;go_enter Tryz.func143,Tryz.ntmps143;go_wp2_with fail;refine K.out.mono ?_;rintro e w1 ⟨rfl,hr,hg⟩;have H1:=H.out.read hg hr (fun _ ht=>List.mem_cons_of_mem _ ht);have y:Below w1.heap.size w1 (w1.alloc (.cells #[.int .i64 t.kind,.string t.text,.int .i64 t.num,.int .i64 t.at_] 186)):=(Below.refl _ _).alloc (Nat.le_refl _) _;have H2:=Lib.hid (H1.below y);have HG:=Lib.hid ((Gr2.of_r (p:=pb) hg).trans (.of_below y));have KI:=Lib.hid (index_any (c:=c) t.text ((HN.out.keep (.grown hg (H.out.rd.not (by decide)))).below y));clear K hr hg H1;go_wp2_with fail;refine KI.out.mono ?_;rintro e w2 ⟨rfl,rfl⟩;have HF:=Lib.hid (find_any t.at_ 6 H2.out);clear KI y;have e1:ixOf l t.text=(match nameIx l t.text with | some k=>(k:Int) | none=>-1):=rfl;have e2:nameV l t.text=(match nameIx l t.text with | some k=>(k:Int) | none=>0):=rfl;have e3:nameSt l t st=(match nameIx l t.text with | some _=>st | none=>st.note 6 t.at_):=rfl;have E3:=Lib.hid e3;have E2:=Lib.hid e2;rw[e1];clear e1 e2 e3;cases q:nameIx l t.text with
 | some k =>
   rw[q]at E3 E2;have E3':=E3.out;have E2':=E2.out;dsimp only at E3' E2'⊢;have E4:=Lib.hid E3';have E5:=Lib.hid E2';clear E2 E2';clear E3 E3' q HF;go_wp2;go_ret;exact⟨by rw[E5.out];rfl,by rw[E4.out];exact H2.out,HG.out⟩
 | none =>
   rw[q]at E3 E2;have E3':=E3.out;have E2':=E2.out;dsimp only at E3' E2'⊢;have E4:=Lib.hid E3';have E5:=Lib.hid E2';clear E2 E2';clear E3 E3' q;go_wp2_with fail;refine HF.out.mono ?_;rintro e w3 ⟨rfl,hp,hg3⟩;have HP:=Lib.hid hp;have HG3:=Lib.hid (HG.out.trans hg3);clear HF hp hg3;go_wp2;go_ret;exact⟨by rw[E5.out];rfl,by rw[E4.out];exact HP.out,HG3.out⟩
/-- The test of a condition's numbers. -/
def RgOk (q:Nat) (f:Int→Int→Bool):Prop:=∀(op:ByteArray) (a b:Int) (A:Option Addr) (n c:Nat) (w:World),Calls Tryz.prog q #[.agg #[.string op,.int .i64 a,.int .i64 b,.slice A n c]] w fun e w'=>e=.returned (.bool (f a b))∧Below w.heap.size w w'
set_option maxRecDepth 100000 in
theorem rg_account:RgOk 93 fun a _=>decide (0≤a) && decide (a≤1073741824):=by
 intro op a b A n c w;cases q:decide (0≤a)
 ·have q':decide (0≤a)=false:=q;go_enter Tryz.func93,Tryz.ntmps93;go_wp2;go_ret;exact⟨by congr 2;(first | (rw[q];simp) | skip);(first | (rw[q2];simp) | skip),(Below.refl _ _).alloc (Nat.le_refl _) _⟩
 ·have q':decide (0≤a)=true:=q;go_enter Tryz.func93,Tryz.ntmps93;go_wp2;go_ret;exact⟨by congr 2;(first | (rw[q];simp) | skip);(first | (rw[q2];simp) | skip),(Below.refl _ _).alloc (Nat.le_refl _) _⟩
set_option maxRecDepth 100000 in
theorem rg_range:RgOk 98 fun a b=>decide (0≤a) && decide (a≤b) && decide (b≤1099511627776):=by
 intro op a b A n c w;cases q:decide (0≤a)
 ·have q':decide (0≤a)=false:=q;go_enter Tryz.func98,Tryz.ntmps98;go_wp2;go_ret;exact⟨by congr 2;(first | (rw[q];simp) | skip);(first | (rw[q2];simp) | skip),(Below.refl _ _).alloc (Nat.le_refl _) _⟩
 ·have q':decide (0≤a)=true:=q;cases q2:decide (a≤b)
  ·have q2':decide (a≤b)=false:=q2;go_enter Tryz.func98,Tryz.ntmps98;go_wp2;go_ret;exact⟨by congr 2;rw[q,q2];simp,(Below.refl _ _).alloc (Nat.le_refl _) _⟩
  ·have q2':decide (a≤b)=true:=q2;go_enter Tryz.func98,Tryz.ntmps98;go_wp2;go_ret;exact⟨by congr 2;rw[q,q2];simp,(Below.refl _ _).alloc (Nat.le_refl _) _⟩
set_option maxRecDepth 100000 in
theorem rg_always:RgOk 96 fun _ _=>true:=by
 intro op a b A n c w;go_enter Tryz.func96,Tryz.ntmps96;go_wp2;go_ret;exact⟨rfl,by first | exact Below.refl _ _ | exact(Below.refl _ _).alloc (Nat.le_refl _) _⟩
set_option maxRecDepth 100000 in
theorem rg_kind:RgOk 91 fun a _=>decide (0≤a) && decide (a≤10):=by
 intro op a b A n c w;cases q:decide (0≤a)
 ·have q':decide (0≤a)=false:=q;go_enter Tryz.func91,Tryz.ntmps91;go_wp2;go_ret;exact⟨by congr 2;(first | (rw[q];simp) | skip);(first | (rw[q2];simp) | skip),(Below.refl _ _).alloc (Nat.le_refl _) _⟩
 ·have q':decide (0≤a)=true:=q;go_enter Tryz.func91,Tryz.ntmps91;go_wp2;go_ret;exact⟨by congr 2;(first | (rw[q];simp) | skip);(first | (rw[q2];simp) | skip),(Below.refl _ _).alloc (Nat.le_refl _) _⟩
set_option maxRecDepth 100000 in
theorem rg_more:RgOk 103 fun a _=>decide (0≤a) && decide (a≤1099511627776):=by
 intro op a b A n c w;cases q:decide (0≤a)
 ·have q':decide (0≤a)=false:=q;go_enter Tryz.func103,Tryz.ntmps103;go_wp2;go_ret;exact⟨by congr 2;(first | (rw[q];simp) | skip);(first | (rw[q2];simp) | skip),(Below.refl _ _).alloc (Nat.le_refl _) _⟩
 ·have q':decide (0≤a)=true:=q;go_enter Tryz.func103,Tryz.ntmps103;go_wp2;go_ret;exact⟨by congr 2;(first | (rw[q];simp) | skip);(first | (rw[q2];simp) | skip),(Below.refl _ _).alloc (Nat.le_refl _) _⟩
end Go.Proofs.YtocodlpgaamblaaGreatDoor
