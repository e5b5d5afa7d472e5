/- The reference's reader of marks: its state, is, take, fail. -/
import Derived.Test.YtocodlpgaamblaaGreatDoorN10
set_option linter.unusedVariables false
set_option linter.unusedSimpArgs false
set_option maxRecDepth 100000
set_option maxHeartbeats 4000000
open Go.RowKit
namespace Go.Proofs.YtocodlpgaamblaaGreatDoor
section
def TokK (t:Tok):Prop:=(kindAt t.text 0=3->t.kind=0)∧(kindAt t.text 0=7->t.kind=2)∧0<t.text.size
theorem kindAt_cut {s:ByteArray} {p e:Nat} (h:p<e) (he:e<=s.size):kindAt (s.extract p e) 0=kindAt s p:=by
 have hs:(s.extract p e).size=e-p:=by rw[ByteArray.size_extract];omega
 have h0:0<(s.extract p e).size:=by omega
 have hp:p<s.size:=by omega
 have hg:(s.extract p e)[0]=s[p]:=by
  have:=ByteArray.getElem_extract (b:=s) (start:=p) (stop:=e) (i:=0) h0;simpa using this
 unfold kindAt;rw[dif_pos h0,dif_pos hp,hg]
theorem cut_kind {s:ByteArray} {p e:Nat} {k n a er:Int} {c:Int} (h:p<e) (he:e<=s.size) (hc:kindAt s p=c) (h3:c=3->k=0) (h7:c=7->k=2):TokK ⟨k,s.extract p e,n,a,er⟩:=by
 refine⟨fun q=>h3 ?_,fun q=>h7 ?_,?_⟩
 ·dsimp only at q;rw[kindAt_cut h he,hc]at q;exact q
 ·dsimp only at q;rw[kindAt_cut h he,hc]at q;exact q
 ·show 0<(s.extract p e).size;rw[ByteArray.size_extract];omega
theorem nextT_kind {s:ByteArray} {p:Nat} (hp:p<s.size) (he:(nextT s p).err=0):TokK (nextT s p):=by
 have b1:=runEnd_bd wordB s (p+1) hp;have b2:=runEnd_bd digB s (p+1) hp;unfold nextT at he⊢;by_cases h3:kindAt s p=3
 ·rw[if_pos h3]at he⊢;split
  ·rename_i h;rw[if_pos h]at he;cases he
  ·exact cut_kind (by omega) (by omega) h3 (fun _=>rfl) (fun h=>absurd h (by decide))
 rw[if_neg h3]at he⊢;by_cases h4:kindAt s p=4
 ·rw[if_pos h4]at he⊢;split
  ·rename_i h;rw[if_pos h]at he;cases he
  ·exact cut_kind (by omega) (by omega) h4 (fun h=>absurd h (by decide)) (fun h=>absurd h (by decide))
 rw[if_neg h4]at he⊢;by_cases h7:kindAt s p=7
 ·rw[if_pos h7]at he⊢;exact cut_kind (by omega) (by omega) h7 (fun h=>absurd h (by decide)) (fun _=>rfl)
 rw[if_neg h7]at he⊢;by_cases h6:kindAt s p=6
 ·rw[if_pos h6]at he⊢;split
  ·rename_i h;exact cut_kind (by omega) h.1 h6 (fun h=>absurd h (by decide)) (fun h=>absurd h (by decide))
  ·rename_i h;rw[if_neg h]at he;cases he
 ·rw[if_neg h6]at he;cases he
theorem toks_kind {s:ByteArray} {t:Tok} (h:t∈toks s) (he:t.err=0):TokK t:=by
 obtain⟨q,hq,rfl⟩:=toks_mem _ h;exact nextT_kind hq he
def textB (ts:List Tok) (s:ByteArray):Bool:=match ts with | t :: _=>decide (t.text=s) | []=>false
theorem head_word {ts:List Tok} {s:ByteArray} (hs:kindAt s 0=3) (h:∀t∈ts,TokK t):headB ts 0 s=textB ts s:=by
 cases ts with
 | nil=>rfl
 | cons t r =>
   simp only[headB,textB];by_cases e:t.text=s
   ·have:=(h t (List.mem_cons_self ..)).1 (by rw[e];exact hs);simp[this,e]
   ·simp[e]
theorem head_sym {ts:List Tok} {s:ByteArray} (hs:kindAt s 0=7) (h:∀t∈ts,TokK t):headB ts 2 s=textB ts s:=by
 cases ts with
 | nil=>rfl
 | cons t r =>
   simp only[headB,textB];by_cases e:t.text=s
   ·have:=(h t (List.mem_cons_self ..)).2.1 (by rw[e];exact hs);simp[this,e]
   ·simp[e]
def qCells (m:CatM) (A:Option Addr) (n c i:Nat) (bad:Bool) (st:PSt):List Value:=[.slice m.si.A m.si.n m.si.c,.slice m.sr.A m.sr.n m.sr.c,.slice m.st.A m.st.n m.st.c,.slice m.sx.A m.sx.n m.sx.c,.slice A n c,.int .i64 i,.bool bad,.int .i64 st.1,.int .i64 st.2]
structure QAt (W : World) (pb : Nat) (m : CatM) (T : List Tok) (A : Option Addr) (n c i : Nat) (bad : Bool) (st : PSt) : Prop where
 pk:Bk W pb 150 (qCells m A n c i bad st)
 row:TRow W 153 A (kcells T)
 len:n=T.length
 few:n<=8192
 le:i<=n
 lo:∀b off,A=some ⟨b,off,none⟩->b<pb
 its:ItsV W m.si m.items
 rus:RulesV W m.sr m.rules
 toks:∀t∈T,t.text.size<=8192∧In64 t.num∧TokK t
section
variable {W W' : World} {pb : Nat} {m : CatM} {T : List Tok} {A : Option Addr} {n c i i' : Nat} {bad bad' : Bool} {st st' : PSt}
theorem QAt.below (h:QAt W pb m T A n c i bad st) (hb:Below W.heap.size W W'):QAt W' pb m T A n c i bad st :=
 ⟨h.pk.below hb h.pk.lt,h.row.keep (.below hb),h.len,h.few,h.le,h.lo,h.its.below hb,h.rus.below hb,h.toks⟩
theorem QAt.drew (h:QAt W pb m T A n c i bad st):QAt W.drew pb m T A n c i bad st:=h.below (Below.refl _ _).drew
theorem QAt.set (h:QAt W pb m T A n c i bad st) {k:Nat} {u:Value} (hk:(qCells m A n c i bad st).set k u=qCells m A n c i' bad' st') (hi:i'<=n):QAt (W.setCell ⟨pb,k,none⟩ u) pb m T A n c i' bad' st' :=
 ⟨hk ▸ h.pk.set k u,h.row.keep (.setCell h.pk (by decide) u),h.len,h.few,hi,h.lo,h.its.keep (.setCell h.pk (by decide) u),h.rus.keep (.setCell h.pk (by decide) u) (.setCell h.pk (by decide) u),h.toks⟩
theorem QAt.far {r k:Nat} {t':TypeId} {xs:List Value} (h:QAt W pb m T A n c i bad st) (hr:Bk W r t' xs) (hne:pb<r) (h2:t'≠76) (h3:t'≠80) (h4:t'≠132) (u:Value):QAt (W.setCell ⟨r,k,none⟩ u) pb m T A n c i bad st :=
 ⟨h.pk.setOther (by omega),by
  rcases h.row with e|⟨b,off,cur,fl,hA,hb,hc⟩
  ·exact .inl e
  ·refine .inr ⟨b,off,cur,fl,hA,?_,hc⟩
   have hbp:=h.lo b off hA
   have hbl:=(Array.getElem?_eq_some_iff.1 hb).1
   rw[(grown_setCell W r k u).block b hbl (by simp;omega)]
   exact hb,h.len,h.few,h.le,h.lo,h.its.keep (.setCell hr h2 u),h.rus.keep (.setCell hr h3 u) (.setCell hr h4 u),h.toks⟩
theorem QAt.at_ (h:QAt W pb m T A n c i bad st) (hi:i<T.length):∃b off,A=some ⟨b,off,none⟩∧(W.cell? ⟨b,off+i*4,none⟩=some (.int .i64 T[i].kind)∧W.cell? ⟨b,off+i*4+1,none⟩=some (.string T[i].text)∧W.cell? ⟨b,off+i*4+2,none⟩=some (.int .i64 T[i].num)∧W.cell? ⟨b,off+i*4+3,none⟩=some (.int .i64 T[i].at_))∧b<W.heap.size:=by
 obtain⟨b,off,hA,hb,hc⟩:=TRow.at_ (f:=Tok.cells) (n:=4) (fun _=>rfl) h.row i hi (by omega);exact⟨b,off,hA,⟨hc 0 _ rfl,hc 1 _ rfl,hc 2 _ rfl,hc 3 _ rfl⟩,hb⟩
theorem QAt.drop (h:QAt W pb m T A n c i bad st) (hi:i<T.length):T.drop i=T[i] :: T.drop (i+1):=List.drop_eq_getElem_cons hi
end
theorem is_rd {W:World} {pb:Nat} {m:CatM} {T:List Tok} {A:Option Addr} {n c i:Nat} {bad:Bool} {st:PSt} (s:ByteArray) (h:QAt W pb m T A n c i bad st) :
 Calls Tryz.prog 121 #[.pointer (some ⟨pb,0,none⟩),.string s] W fun e w'=>e=.returned (.bool (!bad && textB (T.drop i) s))∧Below W.heap.size W w':=by
 have H:=iH h;have hpl:=h.pk.lt;have hle:=h.le;have hfew:=h.few;have hlen:=h.len;clear h;cases bad
 ·by_cases hi:i<n
  ·have hit:i<T.length:=by omega
   obtain⟨bb,off,rfl,hel,hbb⟩:=H.out.at_ hit;have HEL:Hid (∀w',Below W.heap.size W w'->((w'.cell? ⟨bb,off+i*4,none⟩=some (.int .i64 T[i].kind)∧w'.cell? ⟨bb,off+i*4+1,none⟩=some (.string T[i].text)∧w'.cell? ⟨bb,off+i*4+2,none⟩=some (.int .i64 T[i].num)∧w'.cell? ⟨bb,off+i*4+3,none⟩=some (.int .i64 T[i].at_))∧bb<w'.heap.size)):=iH fun U hU =>
    ⟨⟨(hU.cell (p:=⟨bb,off+i*4,none⟩) hbb).trans hel.1,(hU.cell (p:=⟨bb,off+i*4+1,none⟩) hbb).trans hel.2.1,(hU.cell (p:=⟨bb,off+i*4+2,none⟩) hbb).trans hel.2.2.1,(hU.cell (p:=⟨bb,off+i*4+3,none⟩) hbb).trans hel.2.2.2⟩,Nat.lt_of_lt_of_le hbb hU.size⟩
   have HQ:Hid (textB (T.drop i) s=decide (T[i].text=s)):=iH (by rw[List.drop_eq_getElem_cons hit];rfl);have q1:=eqL T[i].text s;have hiI:(i:Int)<n:=by omega
   have hnI:(n:Int)<=8192:=by omega
   generalize T[i]=t at *;generalize textB (T.drop i) s=tb at *;clear hel hbb hit hlen;by_cases hq:t.text=s
   ·rw[decide_eq_true hq]at q1;have HQ2:Hid (tb=true):=iH (by rw[HQ.out,decide_eq_true hq]);clear hq HQ;go_enter Tryz.func121,Tryz.ntmps121;go_wp2;refine wp_region_X (fun w'=>Bk w' pb 150 [.slice m.si.A m.si.n m.si.c,.slice m.sr.A m.sr.n m.sr.c,.slice m.st.A m.st.n m.st.c,.slice m.sx.A m.sx.n m.sx.c,.slice (some ⟨bb,off,none⟩) n c,.int .i64 (i:Int),.bool false,.int .i64 st.1,.int .i64 st.2]∧((w'.cell? ⟨bb,off+i*4,none⟩=some (.int .i64 t.kind)∧w'.cell? ⟨bb,off+i*4+1,none⟩=some (.string t.text)∧w'.cell? ⟨bb,off+i*4+2,none⟩=some (.int .i64 t.num)∧w'.cell? ⟨bb,off+i*4+3,none⟩=some (.int .i64 t.at_))∧bb<w'.heap.size)) 33 (n:=33) rfl (by kernel_rfl) (⟨H.out.pk.drew,HEL.out _ (Below.refl _ _).drew⟩) (fun hS=>?_);refine tU 0 (some 5) (v:=?_) rfl ⟨rfl,?_⟩ hS ?_;rotate_left
    ·intro w' hS';(go_simp;try with_reducible rfl)
    simp only[Act.put,Pa,Pb,Pc];refine tU 1 (some 6) (v:=?_) rfl ⟨rfl,?_⟩ hS ?_;rotate_left
    ·intro w' hS';(go_simp;try with_reducible rfl)
    simp only[Act.put,Pa,Pb,Pc];refine tU 2 (some 7) (v:=?_) rfl ⟨rfl,?_⟩ hS ?_;rotate_left
    ·intro w' hS';(go_simp;try with_reducible rfl)
    simp only[Act.put,Pa,Pb,Pc];refine tU 3 (some 8) (v:=?_) rfl ⟨rfl,?_⟩ hS ?_;rotate_left
    ·intro w' hS';have e0:=hS'.1.k0;have e1:=hS'.1.k1;have e2:=hS'.1.k2;have e3:=hS'.1.k3;have e4:=hS'.1.k4;have e5:=hS'.1.k5;have e6:=hS'.1.k6;have e7:=hS'.1.k7;have e8:=hS'.1.k8;have el:=hS'.1.lt;have t0:=hS'.2.1.1;have t1:=hS'.2.1.2.1;have t2:=hS'.2.1.2.2.1;have t3:=hS'.2.1.2.2.2;have tl:=hS'.2.2;(go_simp;try with_reducible rfl)
    simp only[Act.put,Pa,Pb,Pc];refine tU 4 (some 9) (v:=?_) rfl ⟨rfl,?_⟩ hS ?_;rotate_left
    ·intro w' hS';(go_simp;try with_reducible rfl)
    simp only[Act.put,Pa,Pb,Pc];refine tU 5 (some 10) (v:=?_) rfl ⟨rfl,?_⟩ hS ?_;rotate_left
    ·intro w' hS';(go_simp;try with_reducible rfl)
    simp only[Act.put,Pa,Pb,Pc];refine tU 6 (some 11) (v:=?_) rfl ⟨rfl,?_⟩ hS ?_;rotate_left
    ·intro w' hS';(go_simp;try with_reducible rfl)
    simp only[Act.put,Pa,Pb,Pc];refine tU 7 (some 12) (v:=?_) rfl ⟨rfl,?_⟩ hS ?_;rotate_left
    ·intro w' hS';(go_simp;try with_reducible rfl)
    simp only[Act.put,Pa,Pb,Pc];refine tU 8 (some 13) (v:=?_) rfl ⟨rfl,?_⟩ hS ?_;rotate_left
    ·intro w' hS';(go_simp;try with_reducible rfl)
    simp only[Act.put,Pa,Pb,Pc];refine tU 9 (some 14) (v:=?_) rfl ⟨rfl,?_⟩ hS ?_;rotate_left
    ·intro w' hS';have e0:=hS'.1.k0;have e1:=hS'.1.k1;have e2:=hS'.1.k2;have e3:=hS'.1.k3;have e4:=hS'.1.k4;have e5:=hS'.1.k5;have e6:=hS'.1.k6;have e7:=hS'.1.k7;have e8:=hS'.1.k8;have el:=hS'.1.lt;have t0:=hS'.2.1.1;have t1:=hS'.2.1.2.1;have t2:=hS'.2.1.2.2.1;have t3:=hS'.2.1.2.2.2;have tl:=hS'.2.2;(go_simp;try with_reducible rfl)
    simp only[Act.put,Pa,Pb,Pc];refine tU 10 (some 15) (v:=?_) rfl ⟨rfl,?_⟩ hS ?_;rotate_left
    ·intro w' hS';(go_simp;try with_reducible rfl)
    simp only[Act.put,Pa,Pb,Pc];refine tU 11 (some 16) (v:=?_) rfl ⟨rfl,?_⟩ hS ?_;rotate_left
    ·intro w' hS';(go_simp;try with_reducible rfl)
    simp only[Act.put,Pa,Pb,Pc];refine tU 12 (some 17) (v:=?_) rfl ⟨rfl,?_⟩ hS ?_;rotate_left
    ·intro w' hS';(go_simp;try with_reducible rfl)
    simp only[Act.put,Pa,Pb,Pc];refine tU 13 (some 18) (v:=?_) rfl ⟨rfl,?_⟩ hS ?_;rotate_left
    ·intro w' hS';have e0:=hS'.1.k0;have e1:=hS'.1.k1;have e2:=hS'.1.k2;have e3:=hS'.1.k3;have e4:=hS'.1.k4;have e5:=hS'.1.k5;have e6:=hS'.1.k6;have e7:=hS'.1.k7;have e8:=hS'.1.k8;have el:=hS'.1.lt;have t0:=hS'.2.1.1;have t1:=hS'.2.1.2.1;have t2:=hS'.2.1.2.2.1;have t3:=hS'.2.1.2.2.2;have tl:=hS'.2.2;(go_simp;try with_reducible rfl)
    simp only[Act.put,Pa,Pb,Pc];refine tU 14 (some 19) (v:=?_) rfl ⟨rfl,?_⟩ hS ?_;rotate_left
    ·intro w' hS';(go_simp;try with_reducible rfl)
    simp only[Act.put,Pa,Pb,Pc];refine tU 15 (some 20) (v:=?_) rfl ⟨rfl,?_⟩ hS ?_;rotate_left
    ·intro w' hS';(go_simp;try with_reducible rfl)
    simp only[Act.put,Pa,Pb,Pc];refine tU 16 (some 21) (v:=?_) rfl ⟨rfl,?_⟩ hS ?_;rotate_left
    ·intro w' hS';(go_simp;try with_reducible rfl)
    simp only[Act.put,Pa,Pb,Pc];refine tU 17 (some 22) (v:=?_) rfl ⟨rfl,?_⟩ hS ?_;rotate_left
    ·intro w' hS';(go_simp;try with_reducible rfl)
    simp only[Act.put,Pa,Pb,Pc];refine tU 18 (some 23) (v:=?_) rfl ⟨rfl,?_⟩ hS ?_;rotate_left
    ·intro w' hS';(go_simp;try with_reducible rfl)
    simp only[Act.put,Pa,Pb,Pc];refine tU 19 (some 24) (v:=?_) rfl ⟨rfl,?_⟩ hS ?_;rotate_left
    ·intro w' hS';(go_simp;try with_reducible rfl)
    simp only[Act.put,Pa,Pb,Pc];refine tU 20 (some 25) (v:=?_) rfl ⟨rfl,?_⟩ hS ?_;rotate_left
    ·intro w' hS';(go_simp;try with_reducible rfl)
    simp only[Act.put,Pa,Pb,Pc];refine tU 21 (some 26) (v:=?_) rfl ⟨rfl,?_⟩ hS ?_;rotate_left
    ·intro w' hS';have e0:=hS'.1.k0;have e1:=hS'.1.k1;have e2:=hS'.1.k2;have e3:=hS'.1.k3;have e4:=hS'.1.k4;have e5:=hS'.1.k5;have e6:=hS'.1.k6;have e7:=hS'.1.k7;have e8:=hS'.1.k8;have el:=hS'.1.lt;have t0:=hS'.2.1.1;have t1:=hS'.2.1.2.1;have t2:=hS'.2.1.2.2.1;have t3:=hS'.2.1.2.2.2;have tl:=hS'.2.2;(go_simp;try with_reducible rfl)
    simp only[Act.put,Pa,Pb,Pc];refine tU 22 (some 27) (v:=?_) rfl ⟨rfl,?_⟩ hS ?_;rotate_left
    ·intro w' hS';(go_simp;try with_reducible rfl)
    simp only[Act.put,Pa,Pb,Pc];refine tU 23 (some 28) (v:=?_) rfl ⟨rfl,?_⟩ hS ?_;rotate_left
    ·intro w' hS';(go_simp;try with_reducible rfl)
    simp only[Act.put,Pa,Pb,Pc];refine tU 24 (some 29) (v:=?_) rfl ⟨rfl,?_⟩ hS ?_;rotate_left
    ·intro w' hS';(go_simp;try with_reducible rfl)
    simp only[Act.put,Pa,Pb,Pc];refine tU 25 (some 30) (v:=?_) rfl ⟨rfl,?_⟩ hS ?_;rotate_left
    ·intro w' hS';have e0:=hS'.1.k0;have e1:=hS'.1.k1;have e2:=hS'.1.k2;have e3:=hS'.1.k3;have e4:=hS'.1.k4;have e5:=hS'.1.k5;have e6:=hS'.1.k6;have e7:=hS'.1.k7;have e8:=hS'.1.k8;have el:=hS'.1.lt;have t0:=hS'.2.1.1;have t1:=hS'.2.1.2.1;have t2:=hS'.2.1.2.2.1;have t3:=hS'.2.1.2.2.2;have tl:=hS'.2.2;(go_simp;try with_reducible rfl)
    simp only[Act.put,Pa,Pb,Pc];refine tU 26 (some 31) (v:=?_) rfl ⟨rfl,?_⟩ hS ?_;rotate_left
    ·intro w' hS';(go_simp;try with_reducible rfl)
    simp only[Act.put,Pa,Pb,Pc];refine tU 27 (some 32) (v:=?_) rfl ⟨rfl,?_⟩ hS ?_;rotate_left
    ·intro w' hS';(go_simp;try with_reducible rfl)
    simp only[Act.put,Pa,Pb,Pc];refine tU 28 (some 33) (v:=?_) rfl ⟨rfl,?_⟩ hS ?_;rotate_left
    ·intro w' hS';have e0:=hS'.1.k0;have e1:=hS'.1.k1;have e2:=hS'.1.k2;have e3:=hS'.1.k3;have e4:=hS'.1.k4;have e5:=hS'.1.k5;have e6:=hS'.1.k6;have e7:=hS'.1.k7;have e8:=hS'.1.k8;have el:=hS'.1.lt;have t0:=hS'.2.1.1;have t1:=hS'.2.1.2.1;have t2:=hS'.2.1.2.2.1;have t3:=hS'.2.1.2.2.2;have tl:=hS'.2.2;(go_simp;try with_reducible rfl)
    simp only[Act.put,Pa,Pb,Pc];refine tU 29 (some 34) (v:=?_) rfl ⟨rfl,?_⟩ hS ?_;rotate_left
    ·intro w' hS';(go_simp;try with_reducible rfl)
    simp only[Act.put,Pa,Pb,Pc];refine tU 30 (some 35) (v:=?_) rfl ⟨rfl,?_⟩ hS ?_;rotate_left
    ·intro w' hS';(go_simp;try with_reducible rfl)
    simp only[Act.put,Pa,Pb,Pc];refine tU 31 (some 36) (v:=?_) rfl ⟨rfl,?_⟩ hS ?_;rotate_left
    ·intro w' hS';(go_simp;try with_reducible rfl)
    simp only[Act.put,Pa,Pb,Pc];refine X_o 32 rfl fun K hK=>?_;go_simp;refine hK _ _ (⟨H.out.pk.drew,HEL.out _ (Below.refl _ _).drew⟩) ?_;clear hK;refine X_done (by kernel_rfl) ?_;clear hS;go_wp2;go_ret;exact⟨by rw[HQ2.out];rfl,(Below.refl _ _).drew⟩
   ·rw[decide_eq_false hq]at q1;have HQ2:Hid (tb=false):=iH (by rw[HQ.out,decide_eq_false hq]);clear hq HQ;go_enter Tryz.func121,Tryz.ntmps121;go_wp2;refine wp_region_X (fun w'=>Bk w' pb 150 [.slice m.si.A m.si.n m.si.c,.slice m.sr.A m.sr.n m.sr.c,.slice m.st.A m.st.n m.st.c,.slice m.sx.A m.sx.n m.sx.c,.slice (some ⟨bb,off,none⟩) n c,.int .i64 (i:Int),.bool false,.int .i64 st.1,.int .i64 st.2]∧((w'.cell? ⟨bb,off+i*4,none⟩=some (.int .i64 t.kind)∧w'.cell? ⟨bb,off+i*4+1,none⟩=some (.string t.text)∧w'.cell? ⟨bb,off+i*4+2,none⟩=some (.int .i64 t.num)∧w'.cell? ⟨bb,off+i*4+3,none⟩=some (.int .i64 t.at_))∧bb<w'.heap.size)) 33 (n:=33) rfl (by kernel_rfl) (⟨H.out.pk.drew,HEL.out _ (Below.refl _ _).drew⟩) (fun hS=>?_);refine tU 0 (some 5) (v:=?_) rfl ⟨rfl,?_⟩ hS ?_;rotate_left
    ·intro w' hS';(go_simp;try with_reducible rfl)
    simp only[Act.put,Pa,Pb,Pc];refine tU 1 (some 6) (v:=?_) rfl ⟨rfl,?_⟩ hS ?_;rotate_left
    ·intro w' hS';(go_simp;try with_reducible rfl)
    simp only[Act.put,Pa,Pb,Pc];refine tU 2 (some 7) (v:=?_) rfl ⟨rfl,?_⟩ hS ?_;rotate_left
    ·intro w' hS';(go_simp;try with_reducible rfl)
    simp only[Act.put,Pa,Pb,Pc];refine tU 3 (some 8) (v:=?_) rfl ⟨rfl,?_⟩ hS ?_;rotate_left
    ·intro w' hS';have e0:=hS'.1.k0;have e1:=hS'.1.k1;have e2:=hS'.1.k2;have e3:=hS'.1.k3;have e4:=hS'.1.k4;have e5:=hS'.1.k5;have e6:=hS'.1.k6;have e7:=hS'.1.k7;have e8:=hS'.1.k8;have el:=hS'.1.lt;have t0:=hS'.2.1.1;have t1:=hS'.2.1.2.1;have t2:=hS'.2.1.2.2.1;have t3:=hS'.2.1.2.2.2;have tl:=hS'.2.2;(go_simp;try with_reducible rfl)
    simp only[Act.put,Pa,Pb,Pc];refine tU 4 (some 9) (v:=?_) rfl ⟨rfl,?_⟩ hS ?_;rotate_left
    ·intro w' hS';(go_simp;try with_reducible rfl)
    simp only[Act.put,Pa,Pb,Pc];refine tU 5 (some 10) (v:=?_) rfl ⟨rfl,?_⟩ hS ?_;rotate_left
    ·intro w' hS';(go_simp;try with_reducible rfl)
    simp only[Act.put,Pa,Pb,Pc];refine tU 6 (some 11) (v:=?_) rfl ⟨rfl,?_⟩ hS ?_;rotate_left
    ·intro w' hS';(go_simp;try with_reducible rfl)
    simp only[Act.put,Pa,Pb,Pc];refine tU 7 (some 12) (v:=?_) rfl ⟨rfl,?_⟩ hS ?_;rotate_left
    ·intro w' hS';(go_simp;try with_reducible rfl)
    simp only[Act.put,Pa,Pb,Pc];refine tU 8 (some 13) (v:=?_) rfl ⟨rfl,?_⟩ hS ?_;rotate_left
    ·intro w' hS';(go_simp;try with_reducible rfl)
    simp only[Act.put,Pa,Pb,Pc];refine tU 9 (some 14) (v:=?_) rfl ⟨rfl,?_⟩ hS ?_;rotate_left
    ·intro w' hS';have e0:=hS'.1.k0;have e1:=hS'.1.k1;have e2:=hS'.1.k2;have e3:=hS'.1.k3;have e4:=hS'.1.k4;have e5:=hS'.1.k5;have e6:=hS'.1.k6;have e7:=hS'.1.k7;have e8:=hS'.1.k8;have el:=hS'.1.lt;have t0:=hS'.2.1.1;have t1:=hS'.2.1.2.1;have t2:=hS'.2.1.2.2.1;have t3:=hS'.2.1.2.2.2;have tl:=hS'.2.2;(go_simp;try with_reducible rfl)
    simp only[Act.put,Pa,Pb,Pc];refine tU 10 (some 15) (v:=?_) rfl ⟨rfl,?_⟩ hS ?_;rotate_left
    ·intro w' hS';(go_simp;try with_reducible rfl)
    simp only[Act.put,Pa,Pb,Pc];refine tU 11 (some 16) (v:=?_) rfl ⟨rfl,?_⟩ hS ?_;rotate_left
    ·intro w' hS';(go_simp;try with_reducible rfl)
    simp only[Act.put,Pa,Pb,Pc];refine tU 12 (some 17) (v:=?_) rfl ⟨rfl,?_⟩ hS ?_;rotate_left
    ·intro w' hS';(go_simp;try with_reducible rfl)
    simp only[Act.put,Pa,Pb,Pc];refine tU 13 (some 18) (v:=?_) rfl ⟨rfl,?_⟩ hS ?_;rotate_left
    ·intro w' hS';have e0:=hS'.1.k0;have e1:=hS'.1.k1;have e2:=hS'.1.k2;have e3:=hS'.1.k3;have e4:=hS'.1.k4;have e5:=hS'.1.k5;have e6:=hS'.1.k6;have e7:=hS'.1.k7;have e8:=hS'.1.k8;have el:=hS'.1.lt;have t0:=hS'.2.1.1;have t1:=hS'.2.1.2.1;have t2:=hS'.2.1.2.2.1;have t3:=hS'.2.1.2.2.2;have tl:=hS'.2.2;(go_simp;try with_reducible rfl)
    simp only[Act.put,Pa,Pb,Pc];refine tU 14 (some 19) (v:=?_) rfl ⟨rfl,?_⟩ hS ?_;rotate_left
    ·intro w' hS';(go_simp;try with_reducible rfl)
    simp only[Act.put,Pa,Pb,Pc];refine tU 15 (some 20) (v:=?_) rfl ⟨rfl,?_⟩ hS ?_;rotate_left
    ·intro w' hS';(go_simp;try with_reducible rfl)
    simp only[Act.put,Pa,Pb,Pc];refine tU 16 (some 21) (v:=?_) rfl ⟨rfl,?_⟩ hS ?_;rotate_left
    ·intro w' hS';(go_simp;try with_reducible rfl)
    simp only[Act.put,Pa,Pb,Pc];refine tU 17 (some 22) (v:=?_) rfl ⟨rfl,?_⟩ hS ?_;rotate_left
    ·intro w' hS';(go_simp;try with_reducible rfl)
    simp only[Act.put,Pa,Pb,Pc];refine tU 18 (some 23) (v:=?_) rfl ⟨rfl,?_⟩ hS ?_;rotate_left
    ·intro w' hS';(go_simp;try with_reducible rfl)
    simp only[Act.put,Pa,Pb,Pc];refine tU 19 (some 24) (v:=?_) rfl ⟨rfl,?_⟩ hS ?_;rotate_left
    ·intro w' hS';(go_simp;try with_reducible rfl)
    simp only[Act.put,Pa,Pb,Pc];refine tU 20 (some 25) (v:=?_) rfl ⟨rfl,?_⟩ hS ?_;rotate_left
    ·intro w' hS';(go_simp;try with_reducible rfl)
    simp only[Act.put,Pa,Pb,Pc];refine tU 21 (some 26) (v:=?_) rfl ⟨rfl,?_⟩ hS ?_;rotate_left
    ·intro w' hS';have e0:=hS'.1.k0;have e1:=hS'.1.k1;have e2:=hS'.1.k2;have e3:=hS'.1.k3;have e4:=hS'.1.k4;have e5:=hS'.1.k5;have e6:=hS'.1.k6;have e7:=hS'.1.k7;have e8:=hS'.1.k8;have el:=hS'.1.lt;have t0:=hS'.2.1.1;have t1:=hS'.2.1.2.1;have t2:=hS'.2.1.2.2.1;have t3:=hS'.2.1.2.2.2;have tl:=hS'.2.2;(go_simp;try with_reducible rfl)
    simp only[Act.put,Pa,Pb,Pc];refine tU 22 (some 27) (v:=?_) rfl ⟨rfl,?_⟩ hS ?_;rotate_left
    ·intro w' hS';(go_simp;try with_reducible rfl)
    simp only[Act.put,Pa,Pb,Pc];refine tU 23 (some 28) (v:=?_) rfl ⟨rfl,?_⟩ hS ?_;rotate_left
    ·intro w' hS';(go_simp;try with_reducible rfl)
    simp only[Act.put,Pa,Pb,Pc];refine tU 24 (some 29) (v:=?_) rfl ⟨rfl,?_⟩ hS ?_;rotate_left
    ·intro w' hS';(go_simp;try with_reducible rfl)
    simp only[Act.put,Pa,Pb,Pc];refine tU 25 (some 30) (v:=?_) rfl ⟨rfl,?_⟩ hS ?_;rotate_left
    ·intro w' hS';have e0:=hS'.1.k0;have e1:=hS'.1.k1;have e2:=hS'.1.k2;have e3:=hS'.1.k3;have e4:=hS'.1.k4;have e5:=hS'.1.k5;have e6:=hS'.1.k6;have e7:=hS'.1.k7;have e8:=hS'.1.k8;have el:=hS'.1.lt;have t0:=hS'.2.1.1;have t1:=hS'.2.1.2.1;have t2:=hS'.2.1.2.2.1;have t3:=hS'.2.1.2.2.2;have tl:=hS'.2.2;(go_simp;try with_reducible rfl)
    simp only[Act.put,Pa,Pb,Pc];refine tU 26 (some 31) (v:=?_) rfl ⟨rfl,?_⟩ hS ?_;rotate_left
    ·intro w' hS';(go_simp;try with_reducible rfl)
    simp only[Act.put,Pa,Pb,Pc];refine tU 27 (some 32) (v:=?_) rfl ⟨rfl,?_⟩ hS ?_;rotate_left
    ·intro w' hS';(go_simp;try with_reducible rfl)
    simp only[Act.put,Pa,Pb,Pc];refine tU 28 (some 33) (v:=?_) rfl ⟨rfl,?_⟩ hS ?_;rotate_left
    ·intro w' hS';have e0:=hS'.1.k0;have e1:=hS'.1.k1;have e2:=hS'.1.k2;have e3:=hS'.1.k3;have e4:=hS'.1.k4;have e5:=hS'.1.k5;have e6:=hS'.1.k6;have e7:=hS'.1.k7;have e8:=hS'.1.k8;have el:=hS'.1.lt;have t0:=hS'.2.1.1;have t1:=hS'.2.1.2.1;have t2:=hS'.2.1.2.2.1;have t3:=hS'.2.1.2.2.2;have tl:=hS'.2.2;(go_simp;try with_reducible rfl)
    simp only[Act.put,Pa,Pb,Pc];refine tU 29 (some 34) (v:=?_) rfl ⟨rfl,?_⟩ hS ?_;rotate_left
    ·intro w' hS';(go_simp;try with_reducible rfl)
    simp only[Act.put,Pa,Pb,Pc];refine tU 30 (some 35) (v:=?_) rfl ⟨rfl,?_⟩ hS ?_;rotate_left
    ·intro w' hS';(go_simp;try with_reducible rfl)
    simp only[Act.put,Pa,Pb,Pc];refine tU 31 (some 36) (v:=?_) rfl ⟨rfl,?_⟩ hS ?_;rotate_left
    ·intro w' hS';(go_simp;try with_reducible rfl)
    simp only[Act.put,Pa,Pb,Pc];refine X_o 32 rfl fun K hK=>?_;go_simp;refine hK _ _ (⟨H.out.pk.drew,HEL.out _ (Below.refl _ _).drew⟩) ?_;clear hK;refine X_done (by kernel_rfl) ?_;clear hS;go_wp2;go_ret;exact⟨by rw[HQ2.out];rfl,(Below.refl _ _).drew⟩
  ·have hin:(i:Int)=n:=by omega
   have HQ:Hid (textB (T.drop i) s=false):=iH (by rw[List.drop_of_length_le (by omega)];rfl);have hiI:¬ (i:Int)<n:=by omega
   generalize textB (T.drop i) s=tb at *;clear hlen hin;go_enter Tryz.func121,Tryz.ntmps121;go_wp2;refine wp_region_X (fun w'=>Bk w' pb 150 [.slice m.si.A m.si.n m.si.c,.slice m.sr.A m.sr.n m.sr.c,.slice m.st.A m.st.n m.st.c,.slice m.sx.A m.sx.n m.sx.c,.slice A n c,.int .i64 (i:Int),.bool false,.int .i64 st.1,.int .i64 st.2]) 33 (n:=33) rfl (by kernel_rfl) (H.out.pk.drew) (fun hS=>?_);refine tU 0 (some 5) (v:=?_) rfl ⟨rfl,?_⟩ hS ?_;rotate_left
   ·intro w' hS';(go_simp;try with_reducible rfl)
   simp only[Act.put,Pa,Pb,Pc];refine tU 1 (some 6) (v:=?_) rfl ⟨rfl,?_⟩ hS ?_;rotate_left
   ·intro w' hS';(go_simp;try with_reducible rfl)
   simp only[Act.put,Pa,Pb,Pc];refine tU 2 (some 7) (v:=?_) rfl ⟨rfl,?_⟩ hS ?_;rotate_left
   ·intro w' hS';(go_simp;try with_reducible rfl)
   simp only[Act.put,Pa,Pb,Pc];refine tU 3 (some 8) (v:=?_) rfl ⟨rfl,?_⟩ hS ?_;rotate_left
   ·intro w' hS';have e0:=hS'.k0;have e1:=hS'.k1;have e2:=hS'.k2;have e3:=hS'.k3;have e4:=hS'.k4;have e5:=hS'.k5;have e6:=hS'.k6;have e7:=hS'.k7;have e8:=hS'.k8;have el:=hS'.lt;(go_simp;try with_reducible rfl)
   simp only[Act.put,Pa,Pb,Pc];refine tU 4 (some 9) (v:=?_) rfl ⟨rfl,?_⟩ hS ?_;rotate_left
   ·intro w' hS';(go_simp;try with_reducible rfl)
   simp only[Act.put,Pa,Pb,Pc];refine tU 5 (some 10) (v:=?_) rfl ⟨rfl,?_⟩ hS ?_;rotate_left
   ·intro w' hS';(go_simp;try with_reducible rfl)
   simp only[Act.put,Pa,Pb,Pc];refine tU 6 (some 11) (v:=?_) rfl ⟨rfl,?_⟩ hS ?_;rotate_left
   ·intro w' hS';(go_simp;try with_reducible rfl)
   simp only[Act.put,Pa,Pb,Pc];refine tU 7 (some 12) (v:=?_) rfl ⟨rfl,?_⟩ hS ?_;rotate_left
   ·intro w' hS';(go_simp;try with_reducible rfl)
   simp only[Act.put,Pa,Pb,Pc];refine tU 8 (some 13) (v:=?_) rfl ⟨rfl,?_⟩ hS ?_;rotate_left
   ·intro w' hS';(go_simp;try with_reducible rfl)
   simp only[Act.put,Pa,Pb,Pc];refine tU 9 (some 14) (v:=?_) rfl ⟨rfl,?_⟩ hS ?_;rotate_left
   ·intro w' hS';have e0:=hS'.k0;have e1:=hS'.k1;have e2:=hS'.k2;have e3:=hS'.k3;have e4:=hS'.k4;have e5:=hS'.k5;have e6:=hS'.k6;have e7:=hS'.k7;have e8:=hS'.k8;have el:=hS'.lt;(go_simp;try with_reducible rfl)
   simp only[Act.put,Pa,Pb,Pc];refine tU 10 (some 15) (v:=?_) rfl ⟨rfl,?_⟩ hS ?_;rotate_left
   ·intro w' hS';(go_simp;try with_reducible rfl)
   simp only[Act.put,Pa,Pb,Pc];refine tU 11 (some 16) (v:=?_) rfl ⟨rfl,?_⟩ hS ?_;rotate_left
   ·intro w' hS';(go_simp;try with_reducible rfl)
   simp only[Act.put,Pa,Pb,Pc];refine tU 12 (some 17) (v:=?_) rfl ⟨rfl,?_⟩ hS ?_;rotate_left
   ·intro w' hS';(go_simp;try with_reducible rfl)
   simp only[Act.put,Pa,Pb,Pc];refine tU 13 (some 18) (v:=?_) rfl ⟨rfl,?_⟩ hS ?_;rotate_left
   ·intro w' hS';have e0:=hS'.k0;have e1:=hS'.k1;have e2:=hS'.k2;have e3:=hS'.k3;have e4:=hS'.k4;have e5:=hS'.k5;have e6:=hS'.k6;have e7:=hS'.k7;have e8:=hS'.k8;have el:=hS'.lt;(go_simp;try with_reducible rfl)
   simp only[Act.put,Pa,Pb,Pc];refine tU 14 (some 19) (v:=?_) rfl ⟨rfl,?_⟩ hS ?_;rotate_left
   ·intro w' hS';(go_simp;try with_reducible rfl)
   simp only[Act.put,Pa,Pb,Pc];refine tU 15 (some 20) (v:=?_) rfl ⟨rfl,?_⟩ hS ?_;rotate_left
   ·intro w' hS';(go_simp;try with_reducible rfl)
   simp only[Act.put,Pa,Pb,Pc];refine tU 16 (some 21) (v:=?_) rfl ⟨rfl,?_⟩ hS ?_;rotate_left
   ·intro w' hS';(go_simp;try with_reducible rfl)
   simp only[Act.put,Pa,Pb,Pc];refine tU 17 (some 22) (v:=?_) rfl ⟨rfl,?_⟩ hS ?_;rotate_left
   ·intro w' hS';(go_simp;try with_reducible rfl)
   simp only[Act.put,Pa,Pb,Pc];refine X_skipU 18 (some 23) (listed':=#[true,true,true,true,true,true,true,true,true,true,true,true,true,true,true,true,true,true,true,false,false,false,false,false,false,false,false,false,false,false,false,false,false]) rfl rfl rfl (by kernel_rfl) rfl (fun _ _ _ h=>h) rfl hS ?_;simp only[Act.put,Pa,Pb,Pc];refine X_skipU 19 (some 24) (listed':=#[true,true,true,true,true,true,true,true,true,true,true,true,true,true,true,true,true,true,true,true,false,false,false,false,false,false,false,false,false,false,false,false,false]) rfl rfl rfl (by kernel_rfl) rfl (fun _ _ _ h=>h) rfl hS ?_;simp only[Act.put,Pa,Pb,Pc];refine X_skipU 20 (some 25) (listed':=#[true,true,true,true,true,true,true,true,true,true,true,true,true,true,true,true,true,true,true,true,true,false,false,false,false,false,false,false,false,false,false,false,false]) rfl rfl rfl (by kernel_rfl) rfl (fun _ _ _ h=>h) rfl hS ?_;simp only[Act.put,Pa,Pb,Pc];refine X_skipU 21 (some 26) (listed':=#[true,true,true,true,true,true,true,true,true,true,true,true,true,true,true,true,true,true,true,true,true,true,false,false,false,false,false,false,false,false,false,false,false]) rfl rfl rfl (by kernel_rfl) rfl (fun _ _ _ h=>h) rfl hS ?_;simp only[Act.put,Pa,Pb,Pc];refine X_skipU 22 (some 27) (listed':=#[true,true,true,true,true,true,true,true,true,true,true,true,true,true,true,true,true,true,true,true,true,true,true,false,false,false,false,false,false,false,false,false,false]) rfl rfl rfl (by kernel_rfl) rfl (fun _ _ _ h=>h) rfl hS ?_;simp only[Act.put,Pa,Pb,Pc];refine X_skipU 23 (some 28) (listed':=#[true,true,true,true,true,true,true,true,true,true,true,true,true,true,true,true,true,true,true,true,true,true,true,true,false,false,false,false,false,false,false,false,false]) rfl rfl rfl (by kernel_rfl) rfl (fun _ _ _ h=>h) rfl hS ?_;simp only[Act.put,Pa,Pb,Pc];refine X_skipU 24 (some 29) (listed':=#[true,true,true,true,true,true,true,true,true,true,true,true,true,true,true,true,true,true,true,true,true,true,true,true,true,false,false,false,false,false,false,false,false]) rfl rfl rfl (by kernel_rfl) rfl (fun _ _ _ h=>h) rfl hS ?_;simp only[Act.put,Pa,Pb,Pc];refine X_skipU 25 (some 30) (listed':=#[true,true,true,true,true,true,true,true,true,true,true,true,true,true,true,true,true,true,true,true,true,true,true,true,true,true,false,false,false,false,false,false,false]) rfl rfl rfl (by kernel_rfl) rfl (fun _ _ _ h=>h) rfl hS ?_;simp only[Act.put,Pa,Pb,Pc];refine X_skipU 26 (some 31) (listed':=#[true,true,true,true,true,true,true,true,true,true,true,true,true,true,true,true,true,true,true,true,true,true,true,true,true,true,true,false,false,false,false,false,false]) rfl rfl rfl (by kernel_rfl) rfl (fun _ _ _ h=>h) rfl hS ?_;simp only[Act.put,Pa,Pb,Pc];refine X_skipU 27 (some 32) (listed':=#[true,true,true,true,true,true,true,true,true,true,true,true,true,true,true,true,true,true,true,true,true,true,true,true,true,true,true,true,false,false,false,false,false]) rfl rfl rfl (by kernel_rfl) rfl (fun _ _ _ h=>h) rfl hS ?_;simp only[Act.put,Pa,Pb,Pc];refine X_skipU 28 (some 33) (listed':=#[true,true,true,true,true,true,true,true,true,true,true,true,true,true,true,true,true,true,true,true,true,true,true,true,true,true,true,true,true,false,false,false,false]) rfl rfl rfl (by kernel_rfl) rfl (fun _ _ _ h=>h) rfl hS ?_;simp only[Act.put,Pa,Pb,Pc];refine X_skipU 29 (some 34) (listed':=#[true,true,true,true,true,true,true,true,true,true,true,true,true,true,true,true,true,true,true,true,true,true,true,true,true,true,true,true,true,true,false,false,false]) rfl rfl rfl (by kernel_rfl) rfl (fun _ _ _ h=>h) rfl hS ?_;simp only[Act.put,Pa,Pb,Pc];refine X_skipU 30 (some 35) (listed':=#[true,true,true,true,true,true,true,true,true,true,true,true,true,true,true,true,true,true,true,true,true,true,true,true,true,true,true,true,true,true,true,false,false]) rfl rfl rfl (by kernel_rfl) rfl (fun _ _ _ h=>h) rfl hS ?_;simp only[Act.put,Pa,Pb,Pc];refine tU 31 (some 36) (v:=?_) rfl ⟨rfl,?_⟩ hS ?_;rotate_left
   ·intro w' hS';(go_simp;try with_reducible rfl)
   simp only[Act.put,Pa,Pb,Pc];refine X_o 32 rfl fun K hK=>?_;go_simp;refine hK _ _ (H.out.pk.drew) ?_;clear hK;refine X_done (by kernel_rfl) ?_;clear hS;go_wp2;go_ret;exact⟨by rw[HQ.out];rfl,(Below.refl _ _).drew⟩
 ·clear hlen;generalize textB (T.drop i) s=tb at *;go_enter Tryz.func121,Tryz.ntmps121;go_wp2;refine wp_region_X (fun w'=>Bk w' pb 150 [.slice m.si.A m.si.n m.si.c,.slice m.sr.A m.sr.n m.sr.c,.slice m.st.A m.st.n m.st.c,.slice m.sx.A m.sx.n m.sx.c,.slice A n c,.int .i64 (i:Int),.bool true,.int .i64 st.1,.int .i64 st.2]) 33 (n:=33) rfl (by kernel_rfl) (H.out.pk.drew) (fun hS=>?_);refine tU 0 (some 5) (v:=?_) rfl ⟨rfl,?_⟩ hS ?_;rotate_left
  ·intro w' hS';(go_simp;try with_reducible rfl)
  simp only[Act.put,Pa,Pb,Pc];refine tU 1 (some 6) (v:=?_) rfl ⟨rfl,?_⟩ hS ?_;rotate_left
  ·intro w' hS';(go_simp;try with_reducible rfl)
  simp only[Act.put,Pa,Pb,Pc];refine tU 2 (some 7) (v:=?_) rfl ⟨rfl,?_⟩ hS ?_;rotate_left
  ·intro w' hS';(go_simp;try with_reducible rfl)
  simp only[Act.put,Pa,Pb,Pc];refine tU 3 (some 8) (v:=?_) rfl ⟨rfl,?_⟩ hS ?_;rotate_left
  ·intro w' hS';have e0:=hS'.k0;have e1:=hS'.k1;have e2:=hS'.k2;have e3:=hS'.k3;have e4:=hS'.k4;have e5:=hS'.k5;have e6:=hS'.k6;have e7:=hS'.k7;have e8:=hS'.k8;have el:=hS'.lt;(go_simp;try with_reducible rfl)
  simp only[Act.put,Pa,Pb,Pc];refine tU 4 (some 9) (v:=?_) rfl ⟨rfl,?_⟩ hS ?_;rotate_left
  ·intro w' hS';(go_simp;try with_reducible rfl)
  simp only[Act.put,Pa,Pb,Pc];refine tU 5 (some 10) (v:=?_) rfl ⟨rfl,?_⟩ hS ?_;rotate_left
  ·intro w' hS';(go_simp;try with_reducible rfl)
  simp only[Act.put,Pa,Pb,Pc];refine X_skipU 6 (some 11) (listed':=#[true,true,true,true,true,true,true,false,false,false,false,false,false,false,false,false,false,false,false,false,false,false,false,false,false,false,false,false,false,false,false,false,false]) rfl rfl rfl (by kernel_rfl) rfl (fun _ _ _ h=>h) rfl hS ?_;simp only[Act.put,Pa,Pb,Pc];refine X_skipU 7 (some 12) (listed':=#[true,true,true,true,true,true,true,true,false,false,false,false,false,false,false,false,false,false,false,false,false,false,false,false,false,false,false,false,false,false,false,false,false]) rfl rfl rfl (by kernel_rfl) rfl (fun _ _ _ h=>h) rfl hS ?_;simp only[Act.put,Pa,Pb,Pc];refine X_skipU 8 (some 13) (listed':=#[true,true,true,true,true,true,true,true,true,false,false,false,false,false,false,false,false,false,false,false,false,false,false,false,false,false,false,false,false,false,false,false,false]) rfl rfl rfl (by kernel_rfl) rfl (fun _ _ _ h=>h) rfl hS ?_;simp only[Act.put,Pa,Pb,Pc];refine X_skipU 9 (some 14) (listed':=#[true,true,true,true,true,true,true,true,true,true,false,false,false,false,false,false,false,false,false,false,false,false,false,false,false,false,false,false,false,false,false,false,false]) rfl rfl rfl (by kernel_rfl) rfl (fun _ _ _ h=>h) rfl hS ?_;simp only[Act.put,Pa,Pb,Pc];refine X_skipU 10 (some 15) (listed':=#[true,true,true,true,true,true,true,true,true,true,true,false,false,false,false,false,false,false,false,false,false,false,false,false,false,false,false,false,false,false,false,false,false]) rfl rfl rfl (by kernel_rfl) rfl (fun _ _ _ h=>h) rfl hS ?_;simp only[Act.put,Pa,Pb,Pc];refine X_skipU 11 (some 16) (listed':=#[true,true,true,true,true,true,true,true,true,true,true,true,false,false,false,false,false,false,false,false,false,false,false,false,false,false,false,false,false,false,false,false,false]) rfl rfl rfl (by kernel_rfl) rfl (fun _ _ _ h=>h) rfl hS ?_;simp only[Act.put,Pa,Pb,Pc];refine X_skipU 12 (some 17) (listed':=#[true,true,true,true,true,true,true,true,true,true,true,true,true,false,false,false,false,false,false,false,false,false,false,false,false,false,false,false,false,false,false,false,false]) rfl rfl rfl (by kernel_rfl) rfl (fun _ _ _ h=>h) rfl hS ?_;simp only[Act.put,Pa,Pb,Pc];refine X_skipU 13 (some 18) (listed':=#[true,true,true,true,true,true,true,true,true,true,true,true,true,true,false,false,false,false,false,false,false,false,false,false,false,false,false,false,false,false,false,false,false]) rfl rfl rfl (by kernel_rfl) rfl (fun _ _ _ h=>h) rfl hS ?_;simp only[Act.put,Pa,Pb,Pc];refine X_skipU 14 (some 19) (listed':=#[true,true,true,true,true,true,true,true,true,true,true,true,true,true,true,false,false,false,false,false,false,false,false,false,false,false,false,false,false,false,false,false,false]) rfl rfl rfl (by kernel_rfl) rfl (fun _ _ _ h=>h) rfl hS ?_;simp only[Act.put,Pa,Pb,Pc];refine X_skipU 15 (some 20) (listed':=#[true,true,true,true,true,true,true,true,true,true,true,true,true,true,true,true,false,false,false,false,false,false,false,false,false,false,false,false,false,false,false,false,false]) rfl rfl rfl (by kernel_rfl) rfl (fun _ _ _ h=>h) rfl hS ?_;simp only[Act.put,Pa,Pb,Pc];refine tU 16 (some 21) (v:=?_) rfl ⟨rfl,?_⟩ hS ?_;rotate_left
  ·intro w' hS';(go_simp;try with_reducible rfl)
  simp only[Act.put,Pa,Pb,Pc];refine tU 17 (some 22) (v:=?_) rfl ⟨rfl,?_⟩ hS ?_;rotate_left
  ·intro w' hS';(go_simp;try with_reducible rfl)
  simp only[Act.put,Pa,Pb,Pc];refine X_skipU 18 (some 23) (listed':=#[true,true,true,true,true,true,true,true,true,true,true,true,true,true,true,true,true,true,true,false,false,false,false,false,false,false,false,false,false,false,false,false,false]) rfl rfl rfl (by kernel_rfl) rfl (fun _ _ _ h=>h) rfl hS ?_;simp only[Act.put,Pa,Pb,Pc];refine X_skipU 19 (some 24) (listed':=#[true,true,true,true,true,true,true,true,true,true,true,true,true,true,true,true,true,true,true,true,false,false,false,false,false,false,false,false,false,false,false,false,false]) rfl rfl rfl (by kernel_rfl) rfl (fun _ _ _ h=>h) rfl hS ?_;simp only[Act.put,Pa,Pb,Pc];refine X_skipU 20 (some 25) (listed':=#[true,true,true,true,true,true,true,true,true,true,true,true,true,true,true,true,true,true,true,true,true,false,false,false,false,false,false,false,false,false,false,false,false]) rfl rfl rfl (by kernel_rfl) rfl (fun _ _ _ h=>h) rfl hS ?_;simp only[Act.put,Pa,Pb,Pc];refine X_skipU 21 (some 26) (listed':=#[true,true,true,true,true,true,true,true,true,true,true,true,true,true,true,true,true,true,true,true,true,true,false,false,false,false,false,false,false,false,false,false,false]) rfl rfl rfl (by kernel_rfl) rfl (fun _ _ _ h=>h) rfl hS ?_;simp only[Act.put,Pa,Pb,Pc];refine X_skipU 22 (some 27) (listed':=#[true,true,true,true,true,true,true,true,true,true,true,true,true,true,true,true,true,true,true,true,true,true,true,false,false,false,false,false,false,false,false,false,false]) rfl rfl rfl (by kernel_rfl) rfl (fun _ _ _ h=>h) rfl hS ?_;simp only[Act.put,Pa,Pb,Pc];refine X_skipU 23 (some 28) (listed':=#[true,true,true,true,true,true,true,true,true,true,true,true,true,true,true,true,true,true,true,true,true,true,true,true,false,false,false,false,false,false,false,false,false]) rfl rfl rfl (by kernel_rfl) rfl (fun _ _ _ h=>h) rfl hS ?_;simp only[Act.put,Pa,Pb,Pc];refine X_skipU 24 (some 29) (listed':=#[true,true,true,true,true,true,true,true,true,true,true,true,true,true,true,true,true,true,true,true,true,true,true,true,true,false,false,false,false,false,false,false,false]) rfl rfl rfl (by kernel_rfl) rfl (fun _ _ _ h=>h) rfl hS ?_;simp only[Act.put,Pa,Pb,Pc];refine X_skipU 25 (some 30) (listed':=#[true,true,true,true,true,true,true,true,true,true,true,true,true,true,true,true,true,true,true,true,true,true,true,true,true,true,false,false,false,false,false,false,false]) rfl rfl rfl (by kernel_rfl) rfl (fun _ _ _ h=>h) rfl hS ?_;simp only[Act.put,Pa,Pb,Pc];refine X_skipU 26 (some 31) (listed':=#[true,true,true,true,true,true,true,true,true,true,true,true,true,true,true,true,true,true,true,true,true,true,true,true,true,true,true,false,false,false,false,false,false]) rfl rfl rfl (by kernel_rfl) rfl (fun _ _ _ h=>h) rfl hS ?_;simp only[Act.put,Pa,Pb,Pc];refine X_skipU 27 (some 32) (listed':=#[true,true,true,true,true,true,true,true,true,true,true,true,true,true,true,true,true,true,true,true,true,true,true,true,true,true,true,true,false,false,false,false,false]) rfl rfl rfl (by kernel_rfl) rfl (fun _ _ _ h=>h) rfl hS ?_;simp only[Act.put,Pa,Pb,Pc];refine X_skipU 28 (some 33) (listed':=#[true,true,true,true,true,true,true,true,true,true,true,true,true,true,true,true,true,true,true,true,true,true,true,true,true,true,true,true,true,false,false,false,false]) rfl rfl rfl (by kernel_rfl) rfl (fun _ _ _ h=>h) rfl hS ?_;simp only[Act.put,Pa,Pb,Pc];refine X_skipU 29 (some 34) (listed':=#[true,true,true,true,true,true,true,true,true,true,true,true,true,true,true,true,true,true,true,true,true,true,true,true,true,true,true,true,true,true,false,false,false]) rfl rfl rfl (by kernel_rfl) rfl (fun _ _ _ h=>h) rfl hS ?_;simp only[Act.put,Pa,Pb,Pc];refine X_skipU 30 (some 35) (listed':=#[true,true,true,true,true,true,true,true,true,true,true,true,true,true,true,true,true,true,true,true,true,true,true,true,true,true,true,true,true,true,true,false,false]) rfl rfl rfl (by kernel_rfl) rfl (fun _ _ _ h=>h) rfl hS ?_;simp only[Act.put,Pa,Pb,Pc];refine tU 31 (some 36) (v:=?_) rfl ⟨rfl,?_⟩ hS ?_;rotate_left
  ·intro w' hS';(go_simp;try with_reducible rfl)
  simp only[Act.put,Pa,Pb,Pc];refine X_o 32 rfl fun K hK=>?_;go_simp;refine hK _ _ (H.out.pk.drew) ?_;clear hK;refine X_done (by kernel_rfl) ?_;clear hS;go_wp2;go_ret;exact⟨rfl,(Below.refl _ _).drew⟩
theorem fail_rd {W:World} {pb:Nat} {m:CatM} {T:List Tok} {A:Option Addr} {n c i:Nat} {bad:Bool} {st:PSt} (er a:Int) (h:QAt W pb m T A n c i bad st) :
 Calls Tryz.prog 146 #[.pointer (some ⟨pb,0,none⟩),.int .i64 er,.int .i64 a] W fun e w'=>e=.returned (.tuple #[])∧QAt w' pb m T A n c i bad (st.note er a)∧W.grownBy w' (some pb):=by
 obtain⟨e0,a0⟩:=st;have H:=iH h;have hpl:=h.pk.lt;have b0:=h.pk.k0;have b1:=h.pk.k1;have b2:=h.pk.k2;have b3:=h.pk.k3;have b4:=h.pk.k4;have b5:=h.pk.k5;have b6:=h.pk.k6;have b7:=h.pk.k7;have b8:=h.pk.k8;have bl:=h.pk.lt;have f7:=h.pk.frozen 7;have f8:=h.pk.frozen 8;clear h;by_cases h0:e0=0
 ·subst h0;have HN:Hid (PSt.note (0,a0) er a=(er,a)):=iH rfl;go_enter Tryz.func146,Tryz.ntmps146;go_wp2
  go_end0
  refine⟨rfl,?_,?_⟩
  ·rw[HN.out];exact(H.out.set (k:=7) (u:=.int .i64 er) (i':=i) (bad':=bad) (st':=(er,a0)) rfl H.out.le).set (k:=8) (u:=.int .i64 a) rfl H.out.le
  ·exact grown_trans (grown_setCell W pb 7 _) (grown_setCell _ pb 8 _)
 ·have h1:(e0 == 0)=false:=by simpa using h0
  have HN:Hid (PSt.note (e0,a0) er a=(e0,a0)):=iH (by unfold PSt.note;rw[if_neg h0]);clear h0;go_enter Tryz.func146,Tryz.ntmps146;go_wp2
  go_end0
  refine⟨rfl,?_,grown_of_below (Below.refl _ _) _⟩;rw[HN.out];exact H.out
theorem take_yes {W:World} {pb:Nat} {m:CatM} {T:List Tok} {A:Option Addr} {n c i:Nat} {st:PSt} {t:Tok} (k:Int) (s:ByteArray) (h:QAt W pb m T A n c i false st) (hi:i<n) (ht:T[i]? = some t) (hk:t.kind=k) (hs:s=⟨#[]⟩∨t.text=s) :
 Calls Tryz.prog 122 #[.pointer (some ⟨pb,0,none⟩),.int .i64 k,.string s] W fun e w'=>e=.returned (.agg #[.int .i64 t.kind,.string t.text,.int .i64 t.num,.int .i64 t.at_])∧QAt w' pb m T A n c (i+1) false st∧W.grownBy w' (some pb):=by
 have H:=iH h;have y0:Below W.heap.size W (W.alloc (.cells #[.int .i64 0,.string ⟨#[]⟩,.int .i64 0,.int .i64 0] 153)):=(Below.refl _ _).alloc (Nat.le_refl _) _;have H1:=iH (h.below y0);have HR0:=iH (Bk.new W 153 [.int .i64 0,.string ⟨#[]⟩,.int .i64 0,.int .i64 0]);have hpl:=h.pk.lt;have hle:=h.le;have hfew:=h.few;have hlen:=h.len;have hnI:(n:Int)<=8192:=by omega
 have hit:i<T.length:=by have:=h.len;omega
 obtain⟨bb,off,rfl,hel,hbb⟩:=h.at_ hit;have HEL:Hid (∀w',Below W.heap.size W w'->((w'.cell? ⟨bb,off+i*4,none⟩=some (.int .i64 T[i].kind)∧w'.cell? ⟨bb,off+i*4+1,none⟩=some (.string T[i].text)∧w'.cell? ⟨bb,off+i*4+2,none⟩=some (.int .i64 T[i].num)∧w'.cell? ⟨bb,off+i*4+3,none⟩=some (.int .i64 T[i].at_))∧bb<w'.heap.size)):=iH fun U hU =>
  ⟨⟨(hU.cell (p:=⟨bb,off+i*4,none⟩) hbb).trans hel.1,(hU.cell (p:=⟨bb,off+i*4+1,none⟩) hbb).trans hel.2.1,(hU.cell (p:=⟨bb,off+i*4+2,none⟩) hbb).trans hel.2.2.1,(hU.cell (p:=⟨bb,off+i*4+3,none⟩) hbb).trans hel.2.2.2⟩,Nat.lt_of_lt_of_le hbb hU.size⟩
 have hiI:(i:Int)<n:=by omega
 have hni:¬ n<=i:=by omega
 have htt:T[i]=t:=by rw[List.getElem?_eq_getElem hit]at ht;exact Option.some.inj ht
 rw[htt]at HEL;subst hk;clear hel hbb h htt ht hit hlen;by_cases hse:s=⟨#[]⟩
 ·subst hse;go_enter Tryz.func122,Tryz.ntmps122;go_wp2;refine wp_region_X (fun w'=>Bk w' pb 150 [.slice m.si.A m.si.n m.si.c,.slice m.sr.A m.sr.n m.sr.c,.slice m.st.A m.st.n m.st.c,.slice m.sx.A m.sx.n m.sx.c,.slice (some ⟨bb,off,none⟩) n c,.int .i64 (i:Int),.bool false,.int .i64 st.1,.int .i64 st.2]∧((w'.cell? ⟨bb,off+i*4,none⟩=some (.int .i64 t.kind)∧w'.cell? ⟨bb,off+i*4+1,none⟩=some (.string t.text)∧w'.cell? ⟨bb,off+i*4+2,none⟩=some (.int .i64 t.num)∧w'.cell? ⟨bb,off+i*4+3,none⟩=some (.int .i64 t.at_))∧bb<w'.heap.size)) 50 (n:=50) rfl (by kernel_rfl) (⟨H1.out.pk.drew,HEL.out _ ((Below.refl W.heap.size W).alloc (Nat.le_refl _) (.cells #[.int .i64 0,.string ⟨#[]⟩,.int .i64 0,.int .i64 0] 153)).drew⟩) (fun hS=>?_);refine tU 0 (some 7) (v:=?_) rfl ⟨rfl,?_⟩ hS ?_;rotate_left
  ·intro w' hS';(go_simp;try with_reducible rfl)
  simp only[Act.put,Pa,Pb,Pc];refine tU 1 (some 8) (v:=?_) rfl ⟨rfl,?_⟩ hS ?_;rotate_left
  ·intro w' hS';(go_simp;try with_reducible rfl)
  simp only[Act.put,Pa,Pb,Pc];refine tU 2 (some 9) (v:=?_) rfl ⟨rfl,?_⟩ hS ?_;rotate_left
  ·intro w' hS';(go_simp;try with_reducible rfl)
  simp only[Act.put,Pa,Pb,Pc];refine tU 3 (some 10) (v:=?_) rfl ⟨rfl,?_⟩ hS ?_;rotate_left
  ·intro w' hS';have e0:=hS'.1.k0;have e1:=hS'.1.k1;have e2:=hS'.1.k2;have e3:=hS'.1.k3;have e4:=hS'.1.k4;have e5:=hS'.1.k5;have e6:=hS'.1.k6;have e7:=hS'.1.k7;have e8:=hS'.1.k8;have el:=hS'.1.lt;have t0:=hS'.2.1.1;have t1:=hS'.2.1.2.1;have t2:=hS'.2.1.2.2.1;have t3:=hS'.2.1.2.2.2;have tl:=hS'.2.2;(go_simp;try with_reducible rfl)
  simp only[Act.put,Pa,Pb,Pc];refine tU 4 (some 11) (v:=?_) rfl ⟨rfl,?_⟩ hS ?_;rotate_left
  ·intro w' hS';(go_simp;try with_reducible rfl)
  simp only[Act.put,Pa,Pb,Pc];refine tU 5 (some 12) (v:=?_) rfl ⟨rfl,?_⟩ hS ?_;rotate_left
  ·intro w' hS';(go_simp;try with_reducible rfl)
  simp only[Act.put,Pa,Pb,Pc];refine tU 6 (some 13) (v:=?_) rfl ⟨rfl,?_⟩ hS ?_;rotate_left
  ·intro w' hS';(go_simp;try with_reducible rfl)
  simp only[Act.put,Pa,Pb,Pc];refine tU 7 (some 14) (v:=?_) rfl ⟨rfl,?_⟩ hS ?_;rotate_left
  ·intro w' hS';(go_simp;try with_reducible rfl)
  simp only[Act.put,Pa,Pb,Pc];refine tU 8 (some 15) (v:=?_) rfl ⟨rfl,?_⟩ hS ?_;rotate_left
  ·intro w' hS';have e0:=hS'.1.k0;have e1:=hS'.1.k1;have e2:=hS'.1.k2;have e3:=hS'.1.k3;have e4:=hS'.1.k4;have e5:=hS'.1.k5;have e6:=hS'.1.k6;have e7:=hS'.1.k7;have e8:=hS'.1.k8;have el:=hS'.1.lt;have t0:=hS'.2.1.1;have t1:=hS'.2.1.2.1;have t2:=hS'.2.1.2.2.1;have t3:=hS'.2.1.2.2.2;have tl:=hS'.2.2;(go_simp;try with_reducible rfl)
  simp only[Act.put,Pa,Pb,Pc];refine tU 9 (some 16) (v:=?_) rfl ⟨rfl,?_⟩ hS ?_;rotate_left
  ·intro w' hS';(go_simp;try with_reducible rfl)
  simp only[Act.put,Pa,Pb,Pc];refine tU 10 (some 17) (v:=?_) rfl ⟨rfl,?_⟩ hS ?_;rotate_left
  ·intro w' hS';(go_simp;try with_reducible rfl)
  simp only[Act.put,Pa,Pb,Pc];refine tU 11 (some 18) (v:=?_) rfl ⟨rfl,?_⟩ hS ?_;rotate_left
  ·intro w' hS';(go_simp;try with_reducible rfl)
  simp only[Act.put,Pa,Pb,Pc];refine tU 12 (some 19) (v:=?_) rfl ⟨rfl,?_⟩ hS ?_;rotate_left
  ·intro w' hS';have e0:=hS'.1.k0;have e1:=hS'.1.k1;have e2:=hS'.1.k2;have e3:=hS'.1.k3;have e4:=hS'.1.k4;have e5:=hS'.1.k5;have e6:=hS'.1.k6;have e7:=hS'.1.k7;have e8:=hS'.1.k8;have el:=hS'.1.lt;have t0:=hS'.2.1.1;have t1:=hS'.2.1.2.1;have t2:=hS'.2.1.2.2.1;have t3:=hS'.2.1.2.2.2;have tl:=hS'.2.2;(go_simp;try with_reducible rfl)
  simp only[Act.put,Pa,Pb,Pc];refine tU 13 (some 20) (v:=?_) rfl ⟨rfl,?_⟩ hS ?_;rotate_left
  ·intro w' hS';(go_simp;try with_reducible rfl)
  simp only[Act.put,Pa,Pb,Pc];refine tU 14 (some 21) (v:=?_) rfl ⟨rfl,?_⟩ hS ?_;rotate_left
  ·intro w' hS';(go_simp;try with_reducible rfl)
  simp only[Act.put,Pa,Pb,Pc];refine tU 15 (some 22) (v:=?_) rfl ⟨rfl,?_⟩ hS ?_;rotate_left
  ·intro w' hS';(go_simp;try with_reducible rfl)
  simp only[Act.put,Pa,Pb,Pc];refine tU 16 (some 23) (v:=?_) rfl ⟨rfl,?_⟩ hS ?_;rotate_left
  ·intro w' hS';(go_simp;try with_reducible rfl)
  simp only[Act.put,Pa,Pb,Pc];refine tU 17 (some 24) (v:=?_) rfl ⟨rfl,?_⟩ hS ?_;rotate_left
  ·intro w' hS';(go_simp;try with_reducible rfl)
  simp only[Act.put,Pa,Pb,Pc];refine tU 18 (some 25) (v:=?_) rfl ⟨rfl,?_⟩ hS ?_;rotate_left
  ·intro w' hS';(go_simp;try with_reducible rfl)
  simp only[Act.put,Pa,Pb,Pc];refine tU 19 (some 26) (v:=?_) rfl ⟨rfl,?_⟩ hS ?_;rotate_left
  ·intro w' hS';(go_simp;try with_reducible rfl)
  simp only[Act.put,Pa,Pb,Pc];refine tU 20 (some 27) (v:=?_) rfl ⟨rfl,?_⟩ hS ?_;rotate_left
  ·intro w' hS';have e0:=hS'.1.k0;have e1:=hS'.1.k1;have e2:=hS'.1.k2;have e3:=hS'.1.k3;have e4:=hS'.1.k4;have e5:=hS'.1.k5;have e6:=hS'.1.k6;have e7:=hS'.1.k7;have e8:=hS'.1.k8;have el:=hS'.1.lt;have t0:=hS'.2.1.1;have t1:=hS'.2.1.2.1;have t2:=hS'.2.1.2.2.1;have t3:=hS'.2.1.2.2.2;have tl:=hS'.2.2;(go_simp;try with_reducible rfl)
  simp only[Act.put,Pa,Pb,Pc];refine tU 21 (some 28) (v:=?_) rfl ⟨rfl,?_⟩ hS ?_;rotate_left
  ·intro w' hS';(go_simp;try with_reducible rfl)
  simp only[Act.put,Pa,Pb,Pc];refine tU 22 (some 29) (v:=?_) rfl ⟨rfl,?_⟩ hS ?_;rotate_left
  ·intro w' hS';(go_simp;try with_reducible rfl)
  simp only[Act.put,Pa,Pb,Pc];refine tU 23 (some 30) (v:=?_) rfl ⟨rfl,?_⟩ hS ?_;rotate_left
  ·intro w' hS';(go_simp;try with_reducible rfl)
  simp only[Act.put,Pa,Pb,Pc];refine tU 24 (some 31) (v:=?_) rfl ⟨rfl,?_⟩ hS ?_;rotate_left
  ·intro w' hS';have e0:=hS'.1.k0;have e1:=hS'.1.k1;have e2:=hS'.1.k2;have e3:=hS'.1.k3;have e4:=hS'.1.k4;have e5:=hS'.1.k5;have e6:=hS'.1.k6;have e7:=hS'.1.k7;have e8:=hS'.1.k8;have el:=hS'.1.lt;have t0:=hS'.2.1.1;have t1:=hS'.2.1.2.1;have t2:=hS'.2.1.2.2.1;have t3:=hS'.2.1.2.2.2;have tl:=hS'.2.2;(go_simp;try with_reducible rfl)
  simp only[Act.put,Pa,Pb,Pc];refine tU 25 (some 32) (v:=?_) rfl ⟨rfl,?_⟩ hS ?_;rotate_left
  ·intro w' hS';(go_simp;try with_reducible rfl)
  simp only[Act.put,Pa,Pb,Pc];refine tU 26 (some 33) (v:=?_) rfl ⟨rfl,?_⟩ hS ?_;rotate_left
  ·intro w' hS';(go_simp;try with_reducible rfl)
  simp only[Act.put,Pa,Pb,Pc];refine tU 27 (some 34) (v:=?_) rfl ⟨rfl,?_⟩ hS ?_;rotate_left
  ·intro w' hS';have e0:=hS'.1.k0;have e1:=hS'.1.k1;have e2:=hS'.1.k2;have e3:=hS'.1.k3;have e4:=hS'.1.k4;have e5:=hS'.1.k5;have e6:=hS'.1.k6;have e7:=hS'.1.k7;have e8:=hS'.1.k8;have el:=hS'.1.lt;have t0:=hS'.2.1.1;have t1:=hS'.2.1.2.1;have t2:=hS'.2.1.2.2.1;have t3:=hS'.2.1.2.2.2;have tl:=hS'.2.2;(go_simp;try with_reducible rfl)
  simp only[Act.put,Pa,Pb,Pc];refine tU 28 (some 35) (v:=?_) rfl ⟨rfl,?_⟩ hS ?_;rotate_left
  ·intro w' hS';(go_simp;try with_reducible rfl)
  simp only[Act.put,Pa,Pb,Pc];refine tU 29 (some 36) (v:=?_) rfl ⟨rfl,?_⟩ hS ?_;rotate_left
  ·intro w' hS';(go_simp;try with_reducible rfl)
  simp only[Act.put,Pa,Pb,Pc];refine tU 30 (some 37) (v:=?_) rfl ⟨rfl,?_⟩ hS ?_;rotate_left
  ·intro w' hS';(go_simp;try with_reducible rfl)
  simp only[Act.put,Pa,Pb,Pc];refine tU 31 (some 38) (v:=?_) rfl ⟨rfl,?_⟩ hS ?_;rotate_left
  ·intro w' hS';(go_simp;try with_reducible rfl)
  simp only[Act.put,Pa,Pb,Pc];refine tU 32 (some 39) (v:=?_) rfl ⟨rfl,?_⟩ hS ?_;rotate_left
  ·intro w' hS';(go_simp;try with_reducible rfl)
  simp only[Act.put,Pa,Pb,Pc];refine tU 33 (some 40) (v:=?_) rfl ⟨rfl,?_⟩ hS ?_;rotate_left
  ·intro w' hS';(go_simp;try with_reducible rfl)
  simp only[Act.put,Pa,Pb,Pc];refine tU 34 (some 41) (v:=?_) rfl ⟨rfl,?_⟩ hS ?_;rotate_left
  ·intro w' hS';(go_simp;try with_reducible rfl)
  simp only[Act.put,Pa,Pb,Pc];refine X_skipU 35 (some 42) (listed':=#[true,true,true,true,true,true,true,true,true,true,true,true,true,true,true,true,true,true,true,true,true,true,true,true,true,true,true,true,true,true,true,true,true,true,true,true,false,false,false,false,false,false,false,false,false,false,false,false,false,false]) rfl rfl rfl (by kernel_rfl) rfl (fun _ _ _ h=>h) rfl hS ?_;simp only[Act.put,Pa,Pb,Pc];refine X_skipU 36 (some 43) (listed':=#[true,true,true,true,true,true,true,true,true,true,true,true,true,true,true,true,true,true,true,true,true,true,true,true,true,true,true,true,true,true,true,true,true,true,true,true,true,false,false,false,false,false,false,false,false,false,false,false,false,false]) rfl rfl rfl (by kernel_rfl) rfl (fun _ _ _ h=>h) rfl hS ?_;simp only[Act.put,Pa,Pb,Pc];refine X_skipU 37 (some 44) (listed':=#[true,true,true,true,true,true,true,true,true,true,true,true,true,true,true,true,true,true,true,true,true,true,true,true,true,true,true,true,true,true,true,true,true,true,true,true,true,true,false,false,false,false,false,false,false,false,false,false,false,false]) rfl rfl rfl (by kernel_rfl) rfl (fun _ _ _ h=>h) rfl hS ?_;simp only[Act.put,Pa,Pb,Pc];refine X_skipU 38 (some 45) (listed':=#[true,true,true,true,true,true,true,true,true,true,true,true,true,true,true,true,true,true,true,true,true,true,true,true,true,true,true,true,true,true,true,true,true,true,true,true,true,true,true,false,false,false,false,false,false,false,false,false,false,false]) rfl rfl rfl (by kernel_rfl) rfl (fun _ _ _ h=>h) rfl hS ?_;simp only[Act.put,Pa,Pb,Pc];refine X_skipU 39 (some 46) (listed':=#[true,true,true,true,true,true,true,true,true,true,true,true,true,true,true,true,true,true,true,true,true,true,true,true,true,true,true,true,true,true,true,true,true,true,true,true,true,true,true,true,false,false,false,false,false,false,false,false,false,false]) rfl rfl rfl (by kernel_rfl) rfl (fun _ _ _ h=>h) rfl hS ?_;simp only[Act.put,Pa,Pb,Pc];refine X_skipU 40 (some 47) (listed':=#[true,true,true,true,true,true,true,true,true,true,true,true,true,true,true,true,true,true,true,true,true,true,true,true,true,true,true,true,true,true,true,true,true,true,true,true,true,true,true,true,true,false,false,false,false,false,false,false,false,false]) rfl rfl rfl (by kernel_rfl) rfl (fun _ _ _ h=>h) rfl hS ?_;simp only[Act.put,Pa,Pb,Pc];refine X_skipU 41 (some 48) (listed':=#[true,true,true,true,true,true,true,true,true,true,true,true,true,true,true,true,true,true,true,true,true,true,true,true,true,true,true,true,true,true,true,true,true,true,true,true,true,true,true,true,true,true,false,false,false,false,false,false,false,false]) rfl rfl rfl (by kernel_rfl) rfl (fun _ _ _ h=>h) rfl hS ?_;simp only[Act.put,Pa,Pb,Pc];refine X_skipU 42 (some 49) (listed':=#[true,true,true,true,true,true,true,true,true,true,true,true,true,true,true,true,true,true,true,true,true,true,true,true,true,true,true,true,true,true,true,true,true,true,true,true,true,true,true,true,true,true,true,false,false,false,false,false,false,false]) rfl rfl rfl (by kernel_rfl) rfl (fun _ _ _ h=>h) rfl hS ?_;simp only[Act.put,Pa,Pb,Pc];refine X_skipU 43 (some 50) (listed':=#[true,true,true,true,true,true,true,true,true,true,true,true,true,true,true,true,true,true,true,true,true,true,true,true,true,true,true,true,true,true,true,true,true,true,true,true,true,true,true,true,true,true,true,true,false,false,false,false,false,false]) rfl rfl rfl (by kernel_rfl) rfl (fun _ _ _ h=>h) rfl hS ?_;simp only[Act.put,Pa,Pb,Pc];refine X_skipU 44 (some 51) (listed':=#[true,true,true,true,true,true,true,true,true,true,true,true,true,true,true,true,true,true,true,true,true,true,true,true,true,true,true,true,true,true,true,true,true,true,true,true,true,true,true,true,true,true,true,true,true,false,false,false,false,false]) rfl rfl rfl (by kernel_rfl) rfl (fun _ _ _ h=>h) rfl hS ?_;simp only[Act.put,Pa,Pb,Pc];refine X_skipU 45 (some 52) (listed':=#[true,true,true,true,true,true,true,true,true,true,true,true,true,true,true,true,true,true,true,true,true,true,true,true,true,true,true,true,true,true,true,true,true,true,true,true,true,true,true,true,true,true,true,true,true,true,false,false,false,false]) rfl rfl rfl (by kernel_rfl) rfl (fun _ _ _ h=>h) rfl hS ?_;simp only[Act.put,Pa,Pb,Pc];refine X_skipU 46 (some 53) (listed':=#[true,true,true,true,true,true,true,true,true,true,true,true,true,true,true,true,true,true,true,true,true,true,true,true,true,true,true,true,true,true,true,true,true,true,true,true,true,true,true,true,true,true,true,true,true,true,true,false,false,false]) rfl rfl rfl (by kernel_rfl) rfl (fun _ _ _ h=>h) rfl hS ?_;simp only[Act.put,Pa,Pb,Pc];refine X_skipU 47 (some 54) (listed':=#[true,true,true,true,true,true,true,true,true,true,true,true,true,true,true,true,true,true,true,true,true,true,true,true,true,true,true,true,true,true,true,true,true,true,true,true,true,true,true,true,true,true,true,true,true,true,true,true,false,false]) rfl rfl rfl (by kernel_rfl) rfl (fun _ _ _ h=>h) rfl hS ?_;simp only[Act.put,Pa,Pb,Pc];refine tU 48 (some 55) (v:=?_) rfl ⟨rfl,?_⟩ hS ?_;rotate_left
  ·intro w' hS';(go_simp;try with_reducible rfl)
  simp only[Act.put,Pa,Pb,Pc];refine tU 49 (some 56) (v:=?_) rfl ⟨rfl,?_⟩ hS ?_;rotate_left
  ·intro w' hS';(go_simp;try with_reducible rfl)
  simp only[Act.put,Pa,Pb,Pc];refine X_done (by kernel_rfl) ?_;clear hS;have HV:=iH (H.out.set (k:=5) (u:=.int .i64 ((i:Int)+1)) (i':=i+1) (bad':=false) (st':=st) rfl (by omega));have hsz:(W.setCell ⟨pb,5,none⟩ (.int .i64 ((i:Int)+1))).heap.size=W.heap.size:=by simp
  have yv:Below (W.setCell ⟨pb,5,none⟩ (.int .i64 ((i:Int)+1))).heap.size (W.setCell ⟨pb,5,none⟩ (.int .i64 ((i:Int)+1))) ((W.setCell ⟨pb,5,none⟩ (.int .i64 ((i:Int)+1))).alloc (.cells #[.int .i64 0,.string ⟨#[]⟩,.int .i64 0,.int .i64 0] 153)).drew:=((Below.refl _ _).alloc (Nat.le_refl _) _).drew;have HP1:=iH (HV.out.below yv);have HR1:Hid (Bk ((W.setCell ⟨pb,5,none⟩ (.int .i64 ((i:Int)+1))).alloc (.cells #[.int .i64 0,.string ⟨#[]⟩,.int .i64 0,.int .i64 0] 153)).drew W.heap.size 153 [.int .i64 0,.string ⟨#[]⟩,.int .i64 0,.int .i64 0]):=by
   have:=(Bk.new (W.setCell ⟨pb,5,none⟩ (.int .i64 ((i:Int)+1))) 153 [.int .i64 0,.string ⟨#[]⟩,.int .i64 0,.int .i64 0]).drew;rw[hsz]at this;exact iH this
  have HG1:Hid (W.grownBy ((W.setCell ⟨pb,5,none⟩ (.int .i64 ((i:Int)+1))).alloc (.cells #[.int .i64 0,.string ⟨#[]⟩,.int .i64 0,.int .i64 0] 153)).drew (some pb)):=iH (grown_trans (grown_setCell W pb 5 _) (grown_of_below yv _));clear yv hsz;have g0:(W.alloc (.cells #[.int .i64 0,.string ⟨#[]⟩,.int .i64 0,.int .i64 0] 153)).drew.cell? ⟨pb,0,none⟩=some (.slice m.si.A m.si.n m.si.c):=H1.out.drew.pk.cell 0;have g1:(W.alloc (.cells #[.int .i64 0,.string ⟨#[]⟩,.int .i64 0,.int .i64 0] 153)).drew.cell? ⟨pb,1,none⟩=some (.slice m.sr.A m.sr.n m.sr.c):=H1.out.drew.pk.cell 1;have g2:(W.alloc (.cells #[.int .i64 0,.string ⟨#[]⟩,.int .i64 0,.int .i64 0] 153)).drew.cell? ⟨pb,2,none⟩=some (.slice m.st.A m.st.n m.st.c):=H1.out.drew.pk.cell 2;have g3:(W.alloc (.cells #[.int .i64 0,.string ⟨#[]⟩,.int .i64 0,.int .i64 0] 153)).drew.cell? ⟨pb,3,none⟩=some (.slice m.sx.A m.sx.n m.sx.c):=H1.out.drew.pk.cell 3;have g4:(W.alloc (.cells #[.int .i64 0,.string ⟨#[]⟩,.int .i64 0,.int .i64 0] 153)).drew.cell? ⟨pb,4,none⟩=some (.slice (some ⟨bb,off,none⟩) n c):=H1.out.drew.pk.cell 4;have g5:(W.alloc (.cells #[.int .i64 0,.string ⟨#[]⟩,.int .i64 0,.int .i64 0] 153)).drew.cell? ⟨pb,5,none⟩=some (.int .i64 (i:Int)):=H1.out.drew.pk.cell 5;have g6:(W.alloc (.cells #[.int .i64 0,.string ⟨#[]⟩,.int .i64 0,.int .i64 0] 153)).drew.cell? ⟨pb,6,none⟩=some (.bool false):=H1.out.drew.pk.cell 6;have g7:(W.alloc (.cells #[.int .i64 0,.string ⟨#[]⟩,.int .i64 0,.int .i64 0] 153)).drew.cell? ⟨pb,7,none⟩=some (.int .i64 st.1):=H1.out.drew.pk.cell 7;have g8:(W.alloc (.cells #[.int .i64 0,.string ⟨#[]⟩,.int .i64 0,.int .i64 0] 153)).drew.cell? ⟨pb,8,none⟩=some (.int .i64 st.2):=H1.out.drew.pk.cell 8;have gl:=H1.out.drew.pk.lt;have gf:=H1.out.drew.pk.frozen 5;have HEL1:Hid (((((W.setCell ⟨pb,5,none⟩ (.int .i64 ((i:Int)+1))).alloc (.cells #[.int .i64 0,.string ⟨#[]⟩,.int .i64 0,.int .i64 0] 153)).drew.drew.cell? ⟨bb,off+i*4,none⟩=some (.int .i64 t.kind)∧((W.setCell ⟨pb,5,none⟩ (.int .i64 ((i:Int)+1))).alloc (.cells #[.int .i64 0,.string ⟨#[]⟩,.int .i64 0,.int .i64 0] 153)).drew.drew.cell? ⟨bb,off+i*4+1,none⟩=some (.string t.text)∧((W.setCell ⟨pb,5,none⟩ (.int .i64 ((i:Int)+1))).alloc (.cells #[.int .i64 0,.string ⟨#[]⟩,.int .i64 0,.int .i64 0] 153)).drew.drew.cell? ⟨bb,off+i*4+2,none⟩=some (.int .i64 t.num)∧((W.setCell ⟨pb,5,none⟩ (.int .i64 ((i:Int)+1))).alloc (.cells #[.int .i64 0,.string ⟨#[]⟩,.int .i64 0,.int .i64 0] 153)).drew.drew.cell? ⟨bb,off+i*4+3,none⟩=some (.int .i64 t.at_))∧bb<((W.setCell ⟨pb,5,none⟩ (.int .i64 ((i:Int)+1))).alloc (.cells #[.int .i64 0,.string ⟨#[]⟩,.int .i64 0,.int .i64 0] 153)).drew.drew.heap.size)):=iH (by
   have h1:=HEL.out _ (Below.refl _ _)
   have hbp:=H.out.lo bb off rfl
   have hg:=grown_setCell W pb 5 (.int .i64 ((i:Int)+1))
   have yv:Below (W.setCell ⟨pb,5,none⟩ (.int .i64 ((i:Int)+1))).heap.size (W.setCell ⟨pb,5,none⟩ (.int .i64 ((i:Int)+1))) ((W.setCell ⟨pb,5,none⟩ (.int .i64 ((i:Int)+1))).alloc (.cells #[.int .i64 0,.string ⟨#[]⟩,.int .i64 0,.int .i64 0] 153)).drew.drew:=((Below.refl _ _).alloc (Nat.le_refl _) _).drew.drew
   have hk:∀j,((W.setCell ⟨pb,5,none⟩ (.int .i64 ((i:Int)+1))).alloc (.cells #[.int .i64 0,.string ⟨#[]⟩,.int .i64 0,.int .i64 0] 153)).drew.drew.cell? ⟨bb,j,none⟩=W.cell? ⟨bb,j,none⟩:=fun j=>by
    rw[yv.cell (p:=⟨bb,j,none⟩) (by simp;omega)]
    unfold World.cell?
    rw[hg.block bb h1.2 (by simp;omega)]
   exact⟨⟨(hk _).trans h1.1.1,(hk _).trans h1.1.2.1,(hk _).trans h1.1.2.2.1,(hk _).trans h1.1.2.2.2⟩,Nat.lt_of_lt_of_le h1.2 (Nat.le_trans hg.size yv.size)⟩)
  have HPK:Hid (Bk ((W.setCell ⟨pb,5,none⟩ (.int .i64 ((i:Int)+1))).alloc (.cells #[.int .i64 0,.string ⟨#[]⟩,.int .i64 0,.int .i64 0] 153)).drew.drew pb 150 [.slice m.si.A m.si.n m.si.c,.slice m.sr.A m.sr.n m.sr.c,.slice m.st.A m.st.n m.st.c,.slice m.sx.A m.sx.n m.sx.c,.slice (some ⟨bb,off,none⟩) n c,.int .i64 ((i:Int)+1),.bool false,.int .i64 st.1,.int .i64 st.2]):=iH (by
   have hh:=HP1.out.pk.drew
   unfold qCells at hh
   rw[show((i+1:Nat):Int)=(i:Int)+1 by omega]at hh
   exact hh)
  have hwi:IntKind.i64.wrap ((i:Nat):Int)=(i:Int):=by simp[IntKind.wrap_i64];omega
  go_wp2;refine wp_region_X (fun w'=>(Bk w' pb 150 [.slice m.si.A m.si.n m.si.c,.slice m.sr.A m.sr.n m.sr.c,.slice m.st.A m.st.n m.st.c,.slice m.sx.A m.sx.n m.sx.c,.slice (some ⟨bb,off,none⟩) n c,.int .i64 ((i:Int)+1),.bool false,.int .i64 st.1,.int .i64 st.2]∧Bk w' W.heap.size 153 [.int .i64 0,.string ⟨#[]⟩,.int .i64 0,.int .i64 0])∧((w'.cell? ⟨bb,off+i*4,none⟩=some (.int .i64 t.kind)∧w'.cell? ⟨bb,off+i*4+1,none⟩=some (.string t.text)∧w'.cell? ⟨bb,off+i*4+2,none⟩=some (.int .i64 t.num)∧w'.cell? ⟨bb,off+i*4+3,none⟩=some (.int .i64 t.at_))∧bb<w'.heap.size)) 11 (n:=12) rfl (by kernel_rfl) (⟨⟨HPK.out,HR1.out.drew⟩,HEL1.out⟩) (fun hS=>?_);refine tX 0 (some 68) (v:=?_) rfl ⟨rfl,?_⟩ hS ?_;rotate_left
  ·intro w' hS';(go_simp;try with_reducible rfl)
  simp only[Act.put,Pa,Pb,Pc];refine tX 1 (some 69) (v:=?_) rfl ⟨rfl,?_⟩ hS ?_;rotate_left
  ·intro w' hS';(go_simp;try with_reducible rfl)
  simp only[Act.put,Pa,Pb,Pc];refine tX 2 (some 70) (v:=?_) rfl ⟨rfl,?_⟩ hS ?_;rotate_left
  ·intro w' hS';(go_simp;try with_reducible rfl)
  simp only[Act.put,Pa,Pb,Pc];refine tX 3 (some 71) (v:=?_) rfl ⟨rfl,?_⟩ hS ?_;rotate_left
  ·intro w' hS';have e0:=hS'.1.1.k0;have e1:=hS'.1.1.k1;have e2:=hS'.1.1.k2;have e3:=hS'.1.1.k3;have e4:=hS'.1.1.k4;have e5:=hS'.1.1.k5;have e6:=hS'.1.1.k6;have e7:=hS'.1.1.k7;have e8:=hS'.1.1.k8;have el:=hS'.1.1.lt;have t0:=hS'.2.1.1;have t1:=hS'.2.1.2.1;have t2:=hS'.2.1.2.2.1;have t3:=hS'.2.1.2.2.2;have tl:=hS'.2.2;(go_simp;try with_reducible rfl)
  simp only[Act.put,Pa,Pb,Pc];refine tX 4 (some 72) (v:=?_) rfl ⟨rfl,?_⟩ hS ?_;rotate_left
  ·intro w' hS';(go_simp;try with_reducible rfl)
  simp only[Act.put,Pa,Pb,Pc];refine tX 5 (some 73) (v:=?_) rfl ⟨rfl,?_⟩ hS ?_;rotate_left
  ·intro w' hS';(go_simp;try with_reducible rfl)
  simp only[Act.put,Pa,Pb,Pc];refine tX 6 (some 74) (v:=?_) rfl ⟨rfl,?_⟩ hS ?_;rotate_left
  ·intro w' hS';(go_simp;try with_reducible rfl)
  simp only[Act.put,Pa,Pb,Pc];refine tX 7 (some 75) (v:=?_) rfl ⟨rfl,?_⟩ hS ?_;rotate_left
  ·intro w' hS';have e0:=hS'.1.1.k0;have e1:=hS'.1.1.k1;have e2:=hS'.1.1.k2;have e3:=hS'.1.1.k3;have e4:=hS'.1.1.k4;have e5:=hS'.1.1.k5;have e6:=hS'.1.1.k6;have e7:=hS'.1.1.k7;have e8:=hS'.1.1.k8;have el:=hS'.1.1.lt;have t0:=hS'.2.1.1;have t1:=hS'.2.1.2.1;have t2:=hS'.2.1.2.2.1;have t3:=hS'.2.1.2.2.2;have tl:=hS'.2.2;(go_simp;try with_reducible rfl)
  simp only[Act.put,Pa,Pb,Pc];refine tX 8 (some 76) (v:=?_) rfl ⟨rfl,?_⟩ hS ?_;rotate_left
  ·intro w' hS';(go_simp;try with_reducible rfl)
  simp only[Act.put,Pa,Pb,Pc];refine tX 9 (some 77) (v:=?_) rfl ⟨rfl,?_⟩ hS ?_;rotate_left
  ·intro w' hS';(go_simp;try with_reducible rfl)
  simp only[Act.put,Pa,Pb,Pc];refine tX 10 (some 78) (v:=?_) rfl ⟨rfl,?_⟩ hS ?_;rotate_left
  ·intro w' hS';have e0:=hS'.1.1.k0;have e1:=hS'.1.1.k1;have e2:=hS'.1.1.k2;have e3:=hS'.1.1.k3;have e4:=hS'.1.1.k4;have e5:=hS'.1.1.k5;have e6:=hS'.1.1.k6;have e7:=hS'.1.1.k7;have e8:=hS'.1.1.k8;have el:=hS'.1.1.lt;have t0:=hS'.2.1.1;have t1:=hS'.2.1.2.1;have t2:=hS'.2.1.2.2.1;have t3:=hS'.2.1.2.2.2;have tl:=hS'.2.2;(go_simp;try with_reducible rfl)
  simp only[Act.put,Pa,Pb,Pc];refine X_tail (by kernel_rfl) ?_;refine A_one 11 (by kernel_rfl) rfl rfl (fun K hK=>?_);have r0:((W.setCell ⟨pb,5,none⟩ (.int .i64 ((i:Int)+1))).alloc (.cells #[.int .i64 0,.string ⟨#[]⟩,.int .i64 0,.int .i64 0] 153)).drew.drew.cell? ⟨W.heap.size,0,none⟩=some (.int .i64 0):=HR1.out.drew.cell 0;have r1:((W.setCell ⟨pb,5,none⟩ (.int .i64 ((i:Int)+1))).alloc (.cells #[.int .i64 0,.string ⟨#[]⟩,.int .i64 0,.int .i64 0] 153)).drew.drew.cell? ⟨W.heap.size,1,none⟩=some (.string ⟨#[]⟩):=HR1.out.drew.cell 1;have r2:((W.setCell ⟨pb,5,none⟩ (.int .i64 ((i:Int)+1))).alloc (.cells #[.int .i64 0,.string ⟨#[]⟩,.int .i64 0,.int .i64 0] 153)).drew.drew.cell? ⟨W.heap.size,2,none⟩=some (.int .i64 0):=HR1.out.drew.cell 2;have r3:((W.setCell ⟨pb,5,none⟩ (.int .i64 ((i:Int)+1))).alloc (.cells #[.int .i64 0,.string ⟨#[]⟩,.int .i64 0,.int .i64 0] 153)).drew.drew.cell? ⟨W.heap.size,3,none⟩=some (.int .i64 0):=HR1.out.drew.cell 3;have rl:=HR1.out.drew.lt;have rf0:=HR1.out.drew.frozen 0;have rf1:=HR1.out.drew.frozen 1;have rf2:=HR1.out.drew.frozen 2;have rf3:=HR1.out.drew.frozen 3;go_simp;refine hK _ _ ?_;clear hK;refine A_done (by kernel_rfl) ?_;clear hS;go_wp2;have hsz:(W.setCell ⟨pb,5,none⟩ (.int .i64 ((i:Int)+1))).heap.size=W.heap.size:=by simp
  have hnew:Bk ((W.setCell ⟨pb,5,none⟩ (.int .i64 ((i:Int)+1))).alloc (.cells #[.int .i64 t.kind,.string t.text,.int .i64 t.num,.int .i64 t.at_] 153)) W.heap.size 153 [.int .i64 t.kind,.string t.text,.int .i64 t.num,.int .i64 t.at_]:=by
   have:=Bk.new (W.setCell ⟨pb,5,none⟩ (.int .i64 ((i:Int)+1))) 153 [.int .i64 t.kind,.string t.text,.int .i64 t.num,.int .i64 t.at_];rw[hsz]at this;exact this
  have yf:Below (W.setCell ⟨pb,5,none⟩ (.int .i64 ((i:Int)+1))).heap.size (W.setCell ⟨pb,5,none⟩ (.int .i64 ((i:Int)+1))) ((W.setCell ⟨pb,5,none⟩ (.int .i64 ((i:Int)+1))).alloc (.cells #[.int .i64 t.kind,.string t.text,.int .i64 t.num,.int .i64 t.at_] 153)).drew.drew:=((Below.refl _ _).alloc (Nat.le_refl _) _).drew.drew;have HXQ:=iH (HV.out.below yf);have HXG:Hid (W.grownBy _ (some pb)):=iH (grown_trans (grown_setCell W pb 5 _) (grown_of_below yf _));have HXB:=hnew.drew.drew;clear hsz hnew yf;generalize((W.setCell ⟨pb,5,none⟩ (.int .i64 ((i:Int)+1))).alloc (.cells #[.int .i64 t.kind,.string t.text,.int .i64 t.num,.int .i64 t.at_] 153)).drew.drew=X at *;have xx0:=HXB.k0;have xx1:=HXB.k1;have xx2:=HXB.k2;have xx3:=HXB.k3;refine bodyPost_ret (v:=.agg #[.int .i64 t.kind,.string t.text,.int .i64 t.num,.int .i64 t.at_]) (by simp[results,Tryz.results122,go_sem,xx0,xx1,xx2,xx3]) rfl ?_;exact⟨rfl,HXQ.out,HXG.out⟩
 ·have hts:t.text=s:=by rcases hs with e | e;exact absurd e hse;exact e
  have q1:(t.text.toList == s.toList)=true:=by rw[hts];simp
  have q3:(t.text.toList != s.toList)=false:=by rw[hts];simp
  have q2:(s.toList == ([]:List UInt8))=false:=by
   have:(⟨#[]⟩:ByteArray).toList=[]:=by decide +kernel
   rw[<- this,eqL,decide_eq_false hse]
  clear hs hse hts;go_enter Tryz.func122,Tryz.ntmps122;go_wp2;refine wp_region_X (fun w'=>Bk w' pb 150 [.slice m.si.A m.si.n m.si.c,.slice m.sr.A m.sr.n m.sr.c,.slice m.st.A m.st.n m.st.c,.slice m.sx.A m.sx.n m.sx.c,.slice (some ⟨bb,off,none⟩) n c,.int .i64 (i:Int),.bool false,.int .i64 st.1,.int .i64 st.2]∧((w'.cell? ⟨bb,off+i*4,none⟩=some (.int .i64 t.kind)∧w'.cell? ⟨bb,off+i*4+1,none⟩=some (.string t.text)∧w'.cell? ⟨bb,off+i*4+2,none⟩=some (.int .i64 t.num)∧w'.cell? ⟨bb,off+i*4+3,none⟩=some (.int .i64 t.at_))∧bb<w'.heap.size)) 50 (n:=50) rfl (by kernel_rfl) (⟨H1.out.pk.drew,HEL.out _ ((Below.refl W.heap.size W).alloc (Nat.le_refl _) (.cells #[.int .i64 0,.string ⟨#[]⟩,.int .i64 0,.int .i64 0] 153)).drew⟩) (fun hS=>?_);refine tU 0 (some 7) (v:=?_) rfl ⟨rfl,?_⟩ hS ?_;rotate_left
  ·intro w' hS';(go_simp;try with_reducible rfl)
  simp only[Act.put,Pa,Pb,Pc];refine tU 1 (some 8) (v:=?_) rfl ⟨rfl,?_⟩ hS ?_;rotate_left
  ·intro w' hS';(go_simp;try with_reducible rfl)
  simp only[Act.put,Pa,Pb,Pc];refine tU 2 (some 9) (v:=?_) rfl ⟨rfl,?_⟩ hS ?_;rotate_left
  ·intro w' hS';(go_simp;try with_reducible rfl)
  simp only[Act.put,Pa,Pb,Pc];refine tU 3 (some 10) (v:=?_) rfl ⟨rfl,?_⟩ hS ?_;rotate_left
  ·intro w' hS';have e0:=hS'.1.k0;have e1:=hS'.1.k1;have e2:=hS'.1.k2;have e3:=hS'.1.k3;have e4:=hS'.1.k4;have e5:=hS'.1.k5;have e6:=hS'.1.k6;have e7:=hS'.1.k7;have e8:=hS'.1.k8;have el:=hS'.1.lt;have t0:=hS'.2.1.1;have t1:=hS'.2.1.2.1;have t2:=hS'.2.1.2.2.1;have t3:=hS'.2.1.2.2.2;have tl:=hS'.2.2;(go_simp;try with_reducible rfl)
  simp only[Act.put,Pa,Pb,Pc];refine tU 4 (some 11) (v:=?_) rfl ⟨rfl,?_⟩ hS ?_;rotate_left
  ·intro w' hS';(go_simp;try with_reducible rfl)
  simp only[Act.put,Pa,Pb,Pc];refine tU 5 (some 12) (v:=?_) rfl ⟨rfl,?_⟩ hS ?_;rotate_left
  ·intro w' hS';(go_simp;try with_reducible rfl)
  simp only[Act.put,Pa,Pb,Pc];refine tU 6 (some 13) (v:=?_) rfl ⟨rfl,?_⟩ hS ?_;rotate_left
  ·intro w' hS';(go_simp;try with_reducible rfl)
  simp only[Act.put,Pa,Pb,Pc];refine tU 7 (some 14) (v:=?_) rfl ⟨rfl,?_⟩ hS ?_;rotate_left
  ·intro w' hS';(go_simp;try with_reducible rfl)
  simp only[Act.put,Pa,Pb,Pc];refine tU 8 (some 15) (v:=?_) rfl ⟨rfl,?_⟩ hS ?_;rotate_left
  ·intro w' hS';have e0:=hS'.1.k0;have e1:=hS'.1.k1;have e2:=hS'.1.k2;have e3:=hS'.1.k3;have e4:=hS'.1.k4;have e5:=hS'.1.k5;have e6:=hS'.1.k6;have e7:=hS'.1.k7;have e8:=hS'.1.k8;have el:=hS'.1.lt;have t0:=hS'.2.1.1;have t1:=hS'.2.1.2.1;have t2:=hS'.2.1.2.2.1;have t3:=hS'.2.1.2.2.2;have tl:=hS'.2.2;(go_simp;try with_reducible rfl)
  simp only[Act.put,Pa,Pb,Pc];refine tU 9 (some 16) (v:=?_) rfl ⟨rfl,?_⟩ hS ?_;rotate_left
  ·intro w' hS';(go_simp;try with_reducible rfl)
  simp only[Act.put,Pa,Pb,Pc];refine tU 10 (some 17) (v:=?_) rfl ⟨rfl,?_⟩ hS ?_;rotate_left
  ·intro w' hS';(go_simp;try with_reducible rfl)
  simp only[Act.put,Pa,Pb,Pc];refine tU 11 (some 18) (v:=?_) rfl ⟨rfl,?_⟩ hS ?_;rotate_left
  ·intro w' hS';(go_simp;try with_reducible rfl)
  simp only[Act.put,Pa,Pb,Pc];refine tU 12 (some 19) (v:=?_) rfl ⟨rfl,?_⟩ hS ?_;rotate_left
  ·intro w' hS';have e0:=hS'.1.k0;have e1:=hS'.1.k1;have e2:=hS'.1.k2;have e3:=hS'.1.k3;have e4:=hS'.1.k4;have e5:=hS'.1.k5;have e6:=hS'.1.k6;have e7:=hS'.1.k7;have e8:=hS'.1.k8;have el:=hS'.1.lt;have t0:=hS'.2.1.1;have t1:=hS'.2.1.2.1;have t2:=hS'.2.1.2.2.1;have t3:=hS'.2.1.2.2.2;have tl:=hS'.2.2;(go_simp;try with_reducible rfl)
  simp only[Act.put,Pa,Pb,Pc];refine tU 13 (some 20) (v:=?_) rfl ⟨rfl,?_⟩ hS ?_;rotate_left
  ·intro w' hS';(go_simp;try with_reducible rfl)
  simp only[Act.put,Pa,Pb,Pc];refine tU 14 (some 21) (v:=?_) rfl ⟨rfl,?_⟩ hS ?_;rotate_left
  ·intro w' hS';(go_simp;try with_reducible rfl)
  simp only[Act.put,Pa,Pb,Pc];refine tU 15 (some 22) (v:=?_) rfl ⟨rfl,?_⟩ hS ?_;rotate_left
  ·intro w' hS';(go_simp;try with_reducible rfl)
  simp only[Act.put,Pa,Pb,Pc];refine tU 16 (some 23) (v:=?_) rfl ⟨rfl,?_⟩ hS ?_;rotate_left
  ·intro w' hS';(go_simp;try with_reducible rfl)
  simp only[Act.put,Pa,Pb,Pc];refine tU 17 (some 24) (v:=?_) rfl ⟨rfl,?_⟩ hS ?_;rotate_left
  ·intro w' hS';(go_simp;try with_reducible rfl)
  simp only[Act.put,Pa,Pb,Pc];refine tU 18 (some 25) (v:=?_) rfl ⟨rfl,?_⟩ hS ?_;rotate_left
  ·intro w' hS';(go_simp;try with_reducible rfl)
  simp only[Act.put,Pa,Pb,Pc];refine tU 19 (some 26) (v:=?_) rfl ⟨rfl,?_⟩ hS ?_;rotate_left
  ·intro w' hS';(go_simp;try with_reducible rfl)
  simp only[Act.put,Pa,Pb,Pc];refine tU 20 (some 27) (v:=?_) rfl ⟨rfl,?_⟩ hS ?_;rotate_left
  ·intro w' hS';have e0:=hS'.1.k0;have e1:=hS'.1.k1;have e2:=hS'.1.k2;have e3:=hS'.1.k3;have e4:=hS'.1.k4;have e5:=hS'.1.k5;have e6:=hS'.1.k6;have e7:=hS'.1.k7;have e8:=hS'.1.k8;have el:=hS'.1.lt;have t0:=hS'.2.1.1;have t1:=hS'.2.1.2.1;have t2:=hS'.2.1.2.2.1;have t3:=hS'.2.1.2.2.2;have tl:=hS'.2.2;(go_simp;try with_reducible rfl)
  simp only[Act.put,Pa,Pb,Pc];refine tU 21 (some 28) (v:=?_) rfl ⟨rfl,?_⟩ hS ?_;rotate_left
  ·intro w' hS';(go_simp;try with_reducible rfl)
  simp only[Act.put,Pa,Pb,Pc];refine tU 22 (some 29) (v:=?_) rfl ⟨rfl,?_⟩ hS ?_;rotate_left
  ·intro w' hS';(go_simp;try with_reducible rfl)
  simp only[Act.put,Pa,Pb,Pc];refine tU 23 (some 30) (v:=?_) rfl ⟨rfl,?_⟩ hS ?_;rotate_left
  ·intro w' hS';(go_simp;try with_reducible rfl)
  simp only[Act.put,Pa,Pb,Pc];refine tU 24 (some 31) (v:=?_) rfl ⟨rfl,?_⟩ hS ?_;rotate_left
  ·intro w' hS';have e0:=hS'.1.k0;have e1:=hS'.1.k1;have e2:=hS'.1.k2;have e3:=hS'.1.k3;have e4:=hS'.1.k4;have e5:=hS'.1.k5;have e6:=hS'.1.k6;have e7:=hS'.1.k7;have e8:=hS'.1.k8;have el:=hS'.1.lt;have t0:=hS'.2.1.1;have t1:=hS'.2.1.2.1;have t2:=hS'.2.1.2.2.1;have t3:=hS'.2.1.2.2.2;have tl:=hS'.2.2;(go_simp;try with_reducible rfl)
  simp only[Act.put,Pa,Pb,Pc];refine tU 25 (some 32) (v:=?_) rfl ⟨rfl,?_⟩ hS ?_;rotate_left
  ·intro w' hS';(go_simp;try with_reducible rfl)
  simp only[Act.put,Pa,Pb,Pc];refine tU 26 (some 33) (v:=?_) rfl ⟨rfl,?_⟩ hS ?_;rotate_left
  ·intro w' hS';(go_simp;try with_reducible rfl)
  simp only[Act.put,Pa,Pb,Pc];refine tU 27 (some 34) (v:=?_) rfl ⟨rfl,?_⟩ hS ?_;rotate_left
  ·intro w' hS';have e0:=hS'.1.k0;have e1:=hS'.1.k1;have e2:=hS'.1.k2;have e3:=hS'.1.k3;have e4:=hS'.1.k4;have e5:=hS'.1.k5;have e6:=hS'.1.k6;have e7:=hS'.1.k7;have e8:=hS'.1.k8;have el:=hS'.1.lt;have t0:=hS'.2.1.1;have t1:=hS'.2.1.2.1;have t2:=hS'.2.1.2.2.1;have t3:=hS'.2.1.2.2.2;have tl:=hS'.2.2;(go_simp;try with_reducible rfl)
  simp only[Act.put,Pa,Pb,Pc];refine tU 28 (some 35) (v:=?_) rfl ⟨rfl,?_⟩ hS ?_;rotate_left
  ·intro w' hS';(go_simp;try with_reducible rfl)
  simp only[Act.put,Pa,Pb,Pc];refine tU 29 (some 36) (v:=?_) rfl ⟨rfl,?_⟩ hS ?_;rotate_left
  ·intro w' hS';(go_simp;try with_reducible rfl)
  simp only[Act.put,Pa,Pb,Pc];refine tU 30 (some 37) (v:=?_) rfl ⟨rfl,?_⟩ hS ?_;rotate_left
  ·intro w' hS';(go_simp;try with_reducible rfl)
  simp only[Act.put,Pa,Pb,Pc];refine tU 31 (some 38) (v:=?_) rfl ⟨rfl,?_⟩ hS ?_;rotate_left
  ·intro w' hS';(go_simp;try with_reducible rfl)
  simp only[Act.put,Pa,Pb,Pc];refine tU 32 (some 39) (v:=?_) rfl ⟨rfl,?_⟩ hS ?_;rotate_left
  ·intro w' hS';(go_simp;try with_reducible rfl)
  simp only[Act.put,Pa,Pb,Pc];refine tU 33 (some 40) (v:=?_) rfl ⟨rfl,?_⟩ hS ?_;rotate_left
  ·intro w' hS';(go_simp;try with_reducible rfl)
  simp only[Act.put,Pa,Pb,Pc];refine tU 34 (some 41) (v:=?_) rfl ⟨rfl,?_⟩ hS ?_;rotate_left
  ·intro w' hS';(go_simp;try with_reducible rfl)
  simp only[Act.put,Pa,Pb,Pc];refine tU 35 (some 42) (v:=?_) rfl ⟨rfl,?_⟩ hS ?_;rotate_left
  ·intro w' hS';(go_simp;try with_reducible rfl)
  simp only[Act.put,Pa,Pb,Pc];refine tU 36 (some 43) (v:=?_) rfl ⟨rfl,?_⟩ hS ?_;rotate_left
  ·intro w' hS';(go_simp;try with_reducible rfl)
  simp only[Act.put,Pa,Pb,Pc];refine tU 37 (some 44) (v:=?_) rfl ⟨rfl,?_⟩ hS ?_;rotate_left
  ·intro w' hS';(go_simp;try with_reducible rfl)
  simp only[Act.put,Pa,Pb,Pc];refine tU 38 (some 45) (v:=?_) rfl ⟨rfl,?_⟩ hS ?_;rotate_left
  ·intro w' hS';have e0:=hS'.1.k0;have e1:=hS'.1.k1;have e2:=hS'.1.k2;have e3:=hS'.1.k3;have e4:=hS'.1.k4;have e5:=hS'.1.k5;have e6:=hS'.1.k6;have e7:=hS'.1.k7;have e8:=hS'.1.k8;have el:=hS'.1.lt;have t0:=hS'.2.1.1;have t1:=hS'.2.1.2.1;have t2:=hS'.2.1.2.2.1;have t3:=hS'.2.1.2.2.2;have tl:=hS'.2.2;(go_simp;try with_reducible rfl)
  simp only[Act.put,Pa,Pb,Pc];refine tU 39 (some 46) (v:=?_) rfl ⟨rfl,?_⟩ hS ?_;rotate_left
  ·intro w' hS';(go_simp;try with_reducible rfl)
  simp only[Act.put,Pa,Pb,Pc];refine tU 40 (some 47) (v:=?_) rfl ⟨rfl,?_⟩ hS ?_;rotate_left
  ·intro w' hS';(go_simp;try with_reducible rfl)
  simp only[Act.put,Pa,Pb,Pc];refine tU 41 (some 48) (v:=?_) rfl ⟨rfl,?_⟩ hS ?_;rotate_left
  ·intro w' hS';(go_simp;try with_reducible rfl)
  simp only[Act.put,Pa,Pb,Pc];refine tU 42 (some 49) (v:=?_) rfl ⟨rfl,?_⟩ hS ?_;rotate_left
  ·intro w' hS';have e0:=hS'.1.k0;have e1:=hS'.1.k1;have e2:=hS'.1.k2;have e3:=hS'.1.k3;have e4:=hS'.1.k4;have e5:=hS'.1.k5;have e6:=hS'.1.k6;have e7:=hS'.1.k7;have e8:=hS'.1.k8;have el:=hS'.1.lt;have t0:=hS'.2.1.1;have t1:=hS'.2.1.2.1;have t2:=hS'.2.1.2.2.1;have t3:=hS'.2.1.2.2.2;have tl:=hS'.2.2;(go_simp;try with_reducible rfl)
  simp only[Act.put,Pa,Pb,Pc];refine tU 43 (some 50) (v:=?_) rfl ⟨rfl,?_⟩ hS ?_;rotate_left
  ·intro w' hS';(go_simp;try with_reducible rfl)
  simp only[Act.put,Pa,Pb,Pc];refine tU 44 (some 51) (v:=?_) rfl ⟨rfl,?_⟩ hS ?_;rotate_left
  ·intro w' hS';(go_simp;try with_reducible rfl)
  simp only[Act.put,Pa,Pb,Pc];refine tU 45 (some 52) (v:=?_) rfl ⟨rfl,?_⟩ hS ?_;rotate_left
  ·intro w' hS';have e0:=hS'.1.k0;have e1:=hS'.1.k1;have e2:=hS'.1.k2;have e3:=hS'.1.k3;have e4:=hS'.1.k4;have e5:=hS'.1.k5;have e6:=hS'.1.k6;have e7:=hS'.1.k7;have e8:=hS'.1.k8;have el:=hS'.1.lt;have t0:=hS'.2.1.1;have t1:=hS'.2.1.2.1;have t2:=hS'.2.1.2.2.1;have t3:=hS'.2.1.2.2.2;have tl:=hS'.2.2;(go_simp;try with_reducible rfl)
  simp only[Act.put,Pa,Pb,Pc];refine tU 46 (some 53) (v:=?_) rfl ⟨rfl,?_⟩ hS ?_;rotate_left
  ·intro w' hS';(go_simp;try with_reducible rfl)
  simp only[Act.put,Pa,Pb,Pc];refine tU 47 (some 54) (v:=?_) rfl ⟨rfl,?_⟩ hS ?_;rotate_left
  ·intro w' hS';(go_simp;try with_reducible rfl)
  simp only[Act.put,Pa,Pb,Pc];refine tU 48 (some 55) (v:=?_) rfl ⟨rfl,?_⟩ hS ?_;rotate_left
  ·intro w' hS';(go_simp;try with_reducible rfl)
  simp only[Act.put,Pa,Pb,Pc];refine tU 49 (some 56) (v:=?_) rfl ⟨rfl,?_⟩ hS ?_;rotate_left
  ·intro w' hS';(go_simp;try with_reducible rfl)
  simp only[Act.put,Pa,Pb,Pc];refine X_done (by kernel_rfl) ?_;clear hS;have HV:=iH (H.out.set (k:=5) (u:=.int .i64 ((i:Int)+1)) (i':=i+1) (bad':=false) (st':=st) rfl (by omega));have hsz:(W.setCell ⟨pb,5,none⟩ (.int .i64 ((i:Int)+1))).heap.size=W.heap.size:=by simp
  have yv:Below (W.setCell ⟨pb,5,none⟩ (.int .i64 ((i:Int)+1))).heap.size (W.setCell ⟨pb,5,none⟩ (.int .i64 ((i:Int)+1))) ((W.setCell ⟨pb,5,none⟩ (.int .i64 ((i:Int)+1))).alloc (.cells #[.int .i64 0,.string ⟨#[]⟩,.int .i64 0,.int .i64 0] 153)).drew:=((Below.refl _ _).alloc (Nat.le_refl _) _).drew;have HP1:=iH (HV.out.below yv);have HR1:Hid (Bk ((W.setCell ⟨pb,5,none⟩ (.int .i64 ((i:Int)+1))).alloc (.cells #[.int .i64 0,.string ⟨#[]⟩,.int .i64 0,.int .i64 0] 153)).drew W.heap.size 153 [.int .i64 0,.string ⟨#[]⟩,.int .i64 0,.int .i64 0]):=by
   have:=(Bk.new (W.setCell ⟨pb,5,none⟩ (.int .i64 ((i:Int)+1))) 153 [.int .i64 0,.string ⟨#[]⟩,.int .i64 0,.int .i64 0]).drew;rw[hsz]at this;exact iH this
  have HG1:Hid (W.grownBy ((W.setCell ⟨pb,5,none⟩ (.int .i64 ((i:Int)+1))).alloc (.cells #[.int .i64 0,.string ⟨#[]⟩,.int .i64 0,.int .i64 0] 153)).drew (some pb)):=iH (grown_trans (grown_setCell W pb 5 _) (grown_of_below yv _));clear yv hsz;have g0:(W.alloc (.cells #[.int .i64 0,.string ⟨#[]⟩,.int .i64 0,.int .i64 0] 153)).drew.cell? ⟨pb,0,none⟩=some (.slice m.si.A m.si.n m.si.c):=H1.out.drew.pk.cell 0;have g1:(W.alloc (.cells #[.int .i64 0,.string ⟨#[]⟩,.int .i64 0,.int .i64 0] 153)).drew.cell? ⟨pb,1,none⟩=some (.slice m.sr.A m.sr.n m.sr.c):=H1.out.drew.pk.cell 1;have g2:(W.alloc (.cells #[.int .i64 0,.string ⟨#[]⟩,.int .i64 0,.int .i64 0] 153)).drew.cell? ⟨pb,2,none⟩=some (.slice m.st.A m.st.n m.st.c):=H1.out.drew.pk.cell 2;have g3:(W.alloc (.cells #[.int .i64 0,.string ⟨#[]⟩,.int .i64 0,.int .i64 0] 153)).drew.cell? ⟨pb,3,none⟩=some (.slice m.sx.A m.sx.n m.sx.c):=H1.out.drew.pk.cell 3;have g4:(W.alloc (.cells #[.int .i64 0,.string ⟨#[]⟩,.int .i64 0,.int .i64 0] 153)).drew.cell? ⟨pb,4,none⟩=some (.slice (some ⟨bb,off,none⟩) n c):=H1.out.drew.pk.cell 4;have g5:(W.alloc (.cells #[.int .i64 0,.string ⟨#[]⟩,.int .i64 0,.int .i64 0] 153)).drew.cell? ⟨pb,5,none⟩=some (.int .i64 (i:Int)):=H1.out.drew.pk.cell 5;have g6:(W.alloc (.cells #[.int .i64 0,.string ⟨#[]⟩,.int .i64 0,.int .i64 0] 153)).drew.cell? ⟨pb,6,none⟩=some (.bool false):=H1.out.drew.pk.cell 6;have g7:(W.alloc (.cells #[.int .i64 0,.string ⟨#[]⟩,.int .i64 0,.int .i64 0] 153)).drew.cell? ⟨pb,7,none⟩=some (.int .i64 st.1):=H1.out.drew.pk.cell 7;have g8:(W.alloc (.cells #[.int .i64 0,.string ⟨#[]⟩,.int .i64 0,.int .i64 0] 153)).drew.cell? ⟨pb,8,none⟩=some (.int .i64 st.2):=H1.out.drew.pk.cell 8;have gl:=H1.out.drew.pk.lt;have gf:=H1.out.drew.pk.frozen 5;have HEL1:Hid (((((W.setCell ⟨pb,5,none⟩ (.int .i64 ((i:Int)+1))).alloc (.cells #[.int .i64 0,.string ⟨#[]⟩,.int .i64 0,.int .i64 0] 153)).drew.drew.cell? ⟨bb,off+i*4,none⟩=some (.int .i64 t.kind)∧((W.setCell ⟨pb,5,none⟩ (.int .i64 ((i:Int)+1))).alloc (.cells #[.int .i64 0,.string ⟨#[]⟩,.int .i64 0,.int .i64 0] 153)).drew.drew.cell? ⟨bb,off+i*4+1,none⟩=some (.string t.text)∧((W.setCell ⟨pb,5,none⟩ (.int .i64 ((i:Int)+1))).alloc (.cells #[.int .i64 0,.string ⟨#[]⟩,.int .i64 0,.int .i64 0] 153)).drew.drew.cell? ⟨bb,off+i*4+2,none⟩=some (.int .i64 t.num)∧((W.setCell ⟨pb,5,none⟩ (.int .i64 ((i:Int)+1))).alloc (.cells #[.int .i64 0,.string ⟨#[]⟩,.int .i64 0,.int .i64 0] 153)).drew.drew.cell? ⟨bb,off+i*4+3,none⟩=some (.int .i64 t.at_))∧bb<((W.setCell ⟨pb,5,none⟩ (.int .i64 ((i:Int)+1))).alloc (.cells #[.int .i64 0,.string ⟨#[]⟩,.int .i64 0,.int .i64 0] 153)).drew.drew.heap.size)):=iH (by
   have h1:=HEL.out _ (Below.refl _ _)
   have hbp:=H.out.lo bb off rfl
   have hg:=grown_setCell W pb 5 (.int .i64 ((i:Int)+1))
   have yv:Below (W.setCell ⟨pb,5,none⟩ (.int .i64 ((i:Int)+1))).heap.size (W.setCell ⟨pb,5,none⟩ (.int .i64 ((i:Int)+1))) ((W.setCell ⟨pb,5,none⟩ (.int .i64 ((i:Int)+1))).alloc (.cells #[.int .i64 0,.string ⟨#[]⟩,.int .i64 0,.int .i64 0] 153)).drew.drew:=((Below.refl _ _).alloc (Nat.le_refl _) _).drew.drew
   have hk:∀j,((W.setCell ⟨pb,5,none⟩ (.int .i64 ((i:Int)+1))).alloc (.cells #[.int .i64 0,.string ⟨#[]⟩,.int .i64 0,.int .i64 0] 153)).drew.drew.cell? ⟨bb,j,none⟩=W.cell? ⟨bb,j,none⟩:=fun j=>by
    rw[yv.cell (p:=⟨bb,j,none⟩) (by simp;omega)]
    unfold World.cell?
    rw[hg.block bb h1.2 (by simp;omega)]
   exact⟨⟨(hk _).trans h1.1.1,(hk _).trans h1.1.2.1,(hk _).trans h1.1.2.2.1,(hk _).trans h1.1.2.2.2⟩,Nat.lt_of_lt_of_le h1.2 (Nat.le_trans hg.size yv.size)⟩)
  have HPK:Hid (Bk ((W.setCell ⟨pb,5,none⟩ (.int .i64 ((i:Int)+1))).alloc (.cells #[.int .i64 0,.string ⟨#[]⟩,.int .i64 0,.int .i64 0] 153)).drew.drew pb 150 [.slice m.si.A m.si.n m.si.c,.slice m.sr.A m.sr.n m.sr.c,.slice m.st.A m.st.n m.st.c,.slice m.sx.A m.sx.n m.sx.c,.slice (some ⟨bb,off,none⟩) n c,.int .i64 ((i:Int)+1),.bool false,.int .i64 st.1,.int .i64 st.2]):=iH (by
   have hh:=HP1.out.pk.drew
   unfold qCells at hh
   rw[show((i+1:Nat):Int)=(i:Int)+1 by omega]at hh
   exact hh)
  have hwi:IntKind.i64.wrap ((i:Nat):Int)=(i:Int):=by simp[IntKind.wrap_i64];omega
  go_wp2;refine wp_region_X (fun w'=>(Bk w' pb 150 [.slice m.si.A m.si.n m.si.c,.slice m.sr.A m.sr.n m.sr.c,.slice m.st.A m.st.n m.st.c,.slice m.sx.A m.sx.n m.sx.c,.slice (some ⟨bb,off,none⟩) n c,.int .i64 ((i:Int)+1),.bool false,.int .i64 st.1,.int .i64 st.2]∧Bk w' W.heap.size 153 [.int .i64 0,.string ⟨#[]⟩,.int .i64 0,.int .i64 0])∧((w'.cell? ⟨bb,off+i*4,none⟩=some (.int .i64 t.kind)∧w'.cell? ⟨bb,off+i*4+1,none⟩=some (.string t.text)∧w'.cell? ⟨bb,off+i*4+2,none⟩=some (.int .i64 t.num)∧w'.cell? ⟨bb,off+i*4+3,none⟩=some (.int .i64 t.at_))∧bb<w'.heap.size)) 11 (n:=12) rfl (by kernel_rfl) (⟨⟨HPK.out,HR1.out.drew⟩,HEL1.out⟩) (fun hS=>?_);refine tX 0 (some 68) (v:=?_) rfl ⟨rfl,?_⟩ hS ?_;rotate_left
  ·intro w' hS';(go_simp;try with_reducible rfl)
  simp only[Act.put,Pa,Pb,Pc];refine tX 1 (some 69) (v:=?_) rfl ⟨rfl,?_⟩ hS ?_;rotate_left
  ·intro w' hS';(go_simp;try with_reducible rfl)
  simp only[Act.put,Pa,Pb,Pc];refine tX 2 (some 70) (v:=?_) rfl ⟨rfl,?_⟩ hS ?_;rotate_left
  ·intro w' hS';(go_simp;try with_reducible rfl)
  simp only[Act.put,Pa,Pb,Pc];refine tX 3 (some 71) (v:=?_) rfl ⟨rfl,?_⟩ hS ?_;rotate_left
  ·intro w' hS';have e0:=hS'.1.1.k0;have e1:=hS'.1.1.k1;have e2:=hS'.1.1.k2;have e3:=hS'.1.1.k3;have e4:=hS'.1.1.k4;have e5:=hS'.1.1.k5;have e6:=hS'.1.1.k6;have e7:=hS'.1.1.k7;have e8:=hS'.1.1.k8;have el:=hS'.1.1.lt;have t0:=hS'.2.1.1;have t1:=hS'.2.1.2.1;have t2:=hS'.2.1.2.2.1;have t3:=hS'.2.1.2.2.2;have tl:=hS'.2.2;(go_simp;try with_reducible rfl)
  simp only[Act.put,Pa,Pb,Pc];refine tX 4 (some 72) (v:=?_) rfl ⟨rfl,?_⟩ hS ?_;rotate_left
  ·intro w' hS';(go_simp;try with_reducible rfl)
  simp only[Act.put,Pa,Pb,Pc];refine tX 5 (some 73) (v:=?_) rfl ⟨rfl,?_⟩ hS ?_;rotate_left
  ·intro w' hS';(go_simp;try with_reducible rfl)
  simp only[Act.put,Pa,Pb,Pc];refine tX 6 (some 74) (v:=?_) rfl ⟨rfl,?_⟩ hS ?_;rotate_left
  ·intro w' hS';(go_simp;try with_reducible rfl)
  simp only[Act.put,Pa,Pb,Pc];refine tX 7 (some 75) (v:=?_) rfl ⟨rfl,?_⟩ hS ?_;rotate_left
  ·intro w' hS';have e0:=hS'.1.1.k0;have e1:=hS'.1.1.k1;have e2:=hS'.1.1.k2;have e3:=hS'.1.1.k3;have e4:=hS'.1.1.k4;have e5:=hS'.1.1.k5;have e6:=hS'.1.1.k6;have e7:=hS'.1.1.k7;have e8:=hS'.1.1.k8;have el:=hS'.1.1.lt;have t0:=hS'.2.1.1;have t1:=hS'.2.1.2.1;have t2:=hS'.2.1.2.2.1;have t3:=hS'.2.1.2.2.2;have tl:=hS'.2.2;(go_simp;try with_reducible rfl)
  simp only[Act.put,Pa,Pb,Pc];refine tX 8 (some 76) (v:=?_) rfl ⟨rfl,?_⟩ hS ?_;rotate_left
  ·intro w' hS';(go_simp;try with_reducible rfl)
  simp only[Act.put,Pa,Pb,Pc];refine tX 9 (some 77) (v:=?_) rfl ⟨rfl,?_⟩ hS ?_;rotate_left
  ·intro w' hS';(go_simp;try with_reducible rfl)
  simp only[Act.put,Pa,Pb,Pc];refine tX 10 (some 78) (v:=?_) rfl ⟨rfl,?_⟩ hS ?_;rotate_left
  ·intro w' hS';have e0:=hS'.1.1.k0;have e1:=hS'.1.1.k1;have e2:=hS'.1.1.k2;have e3:=hS'.1.1.k3;have e4:=hS'.1.1.k4;have e5:=hS'.1.1.k5;have e6:=hS'.1.1.k6;have e7:=hS'.1.1.k7;have e8:=hS'.1.1.k8;have el:=hS'.1.1.lt;have t0:=hS'.2.1.1;have t1:=hS'.2.1.2.1;have t2:=hS'.2.1.2.2.1;have t3:=hS'.2.1.2.2.2;have tl:=hS'.2.2;(go_simp;try with_reducible rfl)
  simp only[Act.put,Pa,Pb,Pc];refine X_tail (by kernel_rfl) ?_;refine A_one 11 (by kernel_rfl) rfl rfl (fun K hK=>?_);have r0:((W.setCell ⟨pb,5,none⟩ (.int .i64 ((i:Int)+1))).alloc (.cells #[.int .i64 0,.string ⟨#[]⟩,.int .i64 0,.int .i64 0] 153)).drew.drew.cell? ⟨W.heap.size,0,none⟩=some (.int .i64 0):=HR1.out.drew.cell 0;have r1:((W.setCell ⟨pb,5,none⟩ (.int .i64 ((i:Int)+1))).alloc (.cells #[.int .i64 0,.string ⟨#[]⟩,.int .i64 0,.int .i64 0] 153)).drew.drew.cell? ⟨W.heap.size,1,none⟩=some (.string ⟨#[]⟩):=HR1.out.drew.cell 1;have r2:((W.setCell ⟨pb,5,none⟩ (.int .i64 ((i:Int)+1))).alloc (.cells #[.int .i64 0,.string ⟨#[]⟩,.int .i64 0,.int .i64 0] 153)).drew.drew.cell? ⟨W.heap.size,2,none⟩=some (.int .i64 0):=HR1.out.drew.cell 2;have r3:((W.setCell ⟨pb,5,none⟩ (.int .i64 ((i:Int)+1))).alloc (.cells #[.int .i64 0,.string ⟨#[]⟩,.int .i64 0,.int .i64 0] 153)).drew.drew.cell? ⟨W.heap.size,3,none⟩=some (.int .i64 0):=HR1.out.drew.cell 3;have rl:=HR1.out.drew.lt;have rf0:=HR1.out.drew.frozen 0;have rf1:=HR1.out.drew.frozen 1;have rf2:=HR1.out.drew.frozen 2;have rf3:=HR1.out.drew.frozen 3;go_simp;refine hK _ _ ?_;clear hK;refine A_done (by kernel_rfl) ?_;clear hS;go_wp2;have hsz:(W.setCell ⟨pb,5,none⟩ (.int .i64 ((i:Int)+1))).heap.size=W.heap.size:=by simp
  have hnew:Bk ((W.setCell ⟨pb,5,none⟩ (.int .i64 ((i:Int)+1))).alloc (.cells #[.int .i64 t.kind,.string t.text,.int .i64 t.num,.int .i64 t.at_] 153)) W.heap.size 153 [.int .i64 t.kind,.string t.text,.int .i64 t.num,.int .i64 t.at_]:=by
   have:=Bk.new (W.setCell ⟨pb,5,none⟩ (.int .i64 ((i:Int)+1))) 153 [.int .i64 t.kind,.string t.text,.int .i64 t.num,.int .i64 t.at_];rw[hsz]at this;exact this
  have yf:Below (W.setCell ⟨pb,5,none⟩ (.int .i64 ((i:Int)+1))).heap.size (W.setCell ⟨pb,5,none⟩ (.int .i64 ((i:Int)+1))) ((W.setCell ⟨pb,5,none⟩ (.int .i64 ((i:Int)+1))).alloc (.cells #[.int .i64 t.kind,.string t.text,.int .i64 t.num,.int .i64 t.at_] 153)).drew.drew:=((Below.refl _ _).alloc (Nat.le_refl _) _).drew.drew;have HXQ:=iH (HV.out.below yf);have HXG:Hid (W.grownBy _ (some pb)):=iH (grown_trans (grown_setCell W pb 5 _) (grown_of_below yf _));have HXB:=hnew.drew.drew;clear hsz hnew yf;generalize((W.setCell ⟨pb,5,none⟩ (.int .i64 ((i:Int)+1))).alloc (.cells #[.int .i64 t.kind,.string t.text,.int .i64 t.num,.int .i64 t.at_] 153)).drew.drew=X at *;have xx0:=HXB.k0;have xx1:=HXB.k1;have xx2:=HXB.k2;have xx3:=HXB.k3;refine bodyPost_ret (v:=.agg #[.int .i64 t.kind,.string t.text,.int .i64 t.num,.int .i64 t.at_]) (by simp[results,Tryz.results122,go_sem,xx0,xx1,xx2,xx3]) rfl ?_;exact⟨rfl,HXQ.out,HXG.out⟩
theorem take_no {W:World} {pb:Nat} {m:CatM} {T:List Tok} {A:Option Addr} {n c i:Nat} {bad:Bool} {st:PSt} (k:Int) (s:ByteArray) (h:QAt W pb m T A n c i bad st) (hno:bad=true∨n<=i∨(∃t,T[i]? = some t∧t.kind≠k)∨(∃t,T[i]? = some t∧s≠⟨#[]⟩∧t.text≠s)) :
 Calls Tryz.prog 122 #[.pointer (some ⟨pb,0,none⟩),.int .i64 k,.string s] W fun e w'=>e=.returned (.agg #[.int .i64 0,.string ⟨#[]⟩,.int .i64 0,.int .i64 0])∧QAt w' pb m T A n c i true st∧W.grownBy w' (some pb):=by
 have H:=iH h;have y0:Below W.heap.size W (W.alloc (.cells #[.int .i64 0,.string ⟨#[]⟩,.int .i64 0,.int .i64 0] 153)):=(Below.refl _ _).alloc (Nat.le_refl _) _;have H1:=iH (h.below y0);have HR0:=iH (Bk.new W 153 [.int .i64 0,.string ⟨#[]⟩,.int .i64 0,.int .i64 0]);have hpl:=h.pk.lt;have hle:=h.le;have hfew:=h.few;have hlen:=h.len;have hnI:(n:Int)<=8192:=by omega
 cases bad
 ·by_cases hin:i<n
  ·have hit:i<T.length:=by omega
   obtain⟨t,ht⟩:∃t,T[i]? = some t:=⟨_,List.getElem?_eq_getElem hit⟩;have hno2:t.kind≠k∨(s≠⟨#[]⟩∧t.text≠s):=by
    rcases hno with h1|h1|⟨t',h1,h2⟩|⟨t',h1,h2⟩
    ·cases h1
    ·omega
    ·rw[ht]at h1;cases h1;exact .inl h2
    ·rw[ht]at h1;cases h1;exact .inr h2
   obtain⟨bb,off,rfl,hel,hbb⟩:=h.at_ hit;have HEL:Hid (∀w',Below W.heap.size W w'->((w'.cell? ⟨bb,off+i*4,none⟩=some (.int .i64 T[i].kind)∧w'.cell? ⟨bb,off+i*4+1,none⟩=some (.string T[i].text)∧w'.cell? ⟨bb,off+i*4+2,none⟩=some (.int .i64 T[i].num)∧w'.cell? ⟨bb,off+i*4+3,none⟩=some (.int .i64 T[i].at_))∧bb<w'.heap.size)):=iH fun U hU =>
    ⟨⟨(hU.cell (p:=⟨bb,off+i*4,none⟩) hbb).trans hel.1,(hU.cell (p:=⟨bb,off+i*4+1,none⟩) hbb).trans hel.2.1,(hU.cell (p:=⟨bb,off+i*4+2,none⟩) hbb).trans hel.2.2.1,(hU.cell (p:=⟨bb,off+i*4+3,none⟩) hbb).trans hel.2.2.2⟩,Nat.lt_of_lt_of_le hbb hU.size⟩
   have hiI:(i:Int)<n:=by omega
   have hni:¬ n<=i:=by omega
   have htt:T[i]=t:=by rw[List.getElem?_eq_getElem hit]at ht;exact Option.some.inj ht
   rw[htt]at HEL;clear hel hbb h htt ht hit hlen hno;by_cases hk:t.kind=k
   ·have hs2:s≠⟨#[]⟩∧t.text≠s:=by rcases hno2 with e | e;exact absurd hk e;exact e
    subst hk;have q1:(t.text.toList == s.toList)=false:=by rw[eqL,decide_eq_false hs2.2]
    have q2:(s.toList == ([]:List UInt8))=false:=by
     have:(⟨#[]⟩:ByteArray).toList=[]:=by decide +kernel
     rw[<- this,eqL,decide_eq_false hs2.1]
    clear hs2 hno2;go_enter Tryz.func122,Tryz.ntmps122;go_wp2;refine wp_region_X (fun w'=>Bk w' pb 150 [.slice m.si.A m.si.n m.si.c,.slice m.sr.A m.sr.n m.sr.c,.slice m.st.A m.st.n m.st.c,.slice m.sx.A m.sx.n m.sx.c,.slice (some ⟨bb,off,none⟩) n c,.int .i64 (i:Int),.bool false,.int .i64 st.1,.int .i64 st.2]∧((w'.cell? ⟨bb,off+i*4,none⟩=some (.int .i64 t.kind)∧w'.cell? ⟨bb,off+i*4+1,none⟩=some (.string t.text)∧w'.cell? ⟨bb,off+i*4+2,none⟩=some (.int .i64 t.num)∧w'.cell? ⟨bb,off+i*4+3,none⟩=some (.int .i64 t.at_))∧bb<w'.heap.size)) 50 (n:=50) rfl (by kernel_rfl) (⟨H1.out.pk.drew,HEL.out _ ((Below.refl W.heap.size W).alloc (Nat.le_refl _) (.cells #[.int .i64 0,.string ⟨#[]⟩,.int .i64 0,.int .i64 0] 153)).drew⟩) (fun hS=>?_);refine tU 0 (some 7) (v:=?_) rfl ⟨rfl,?_⟩ hS ?_;rotate_left
    ·intro w' hS';(go_simp;try with_reducible rfl)
    simp only[Act.put,Pa,Pb,Pc];refine tU 1 (some 8) (v:=?_) rfl ⟨rfl,?_⟩ hS ?_;rotate_left
    ·intro w' hS';(go_simp;try with_reducible rfl)
    simp only[Act.put,Pa,Pb,Pc];refine tU 2 (some 9) (v:=?_) rfl ⟨rfl,?_⟩ hS ?_;rotate_left
    ·intro w' hS';(go_simp;try with_reducible rfl)
    simp only[Act.put,Pa,Pb,Pc];refine tU 3 (some 10) (v:=?_) rfl ⟨rfl,?_⟩ hS ?_;rotate_left
    ·intro w' hS';have e0:=hS'.1.k0;have e1:=hS'.1.k1;have e2:=hS'.1.k2;have e3:=hS'.1.k3;have e4:=hS'.1.k4;have e5:=hS'.1.k5;have e6:=hS'.1.k6;have e7:=hS'.1.k7;have e8:=hS'.1.k8;have el:=hS'.1.lt;have t0:=hS'.2.1.1;have t1:=hS'.2.1.2.1;have t2:=hS'.2.1.2.2.1;have t3:=hS'.2.1.2.2.2;have tl:=hS'.2.2;(go_simp;try with_reducible rfl)
    simp only[Act.put,Pa,Pb,Pc];refine tU 4 (some 11) (v:=?_) rfl ⟨rfl,?_⟩ hS ?_;rotate_left
    ·intro w' hS';(go_simp;try with_reducible rfl)
    simp only[Act.put,Pa,Pb,Pc];refine tU 5 (some 12) (v:=?_) rfl ⟨rfl,?_⟩ hS ?_;rotate_left
    ·intro w' hS';(go_simp;try with_reducible rfl)
    simp only[Act.put,Pa,Pb,Pc];refine tU 6 (some 13) (v:=?_) rfl ⟨rfl,?_⟩ hS ?_;rotate_left
    ·intro w' hS';(go_simp;try with_reducible rfl)
    simp only[Act.put,Pa,Pb,Pc];refine tU 7 (some 14) (v:=?_) rfl ⟨rfl,?_⟩ hS ?_;rotate_left
    ·intro w' hS';(go_simp;try with_reducible rfl)
    simp only[Act.put,Pa,Pb,Pc];refine tU 8 (some 15) (v:=?_) rfl ⟨rfl,?_⟩ hS ?_;rotate_left
    ·intro w' hS';have e0:=hS'.1.k0;have e1:=hS'.1.k1;have e2:=hS'.1.k2;have e3:=hS'.1.k3;have e4:=hS'.1.k4;have e5:=hS'.1.k5;have e6:=hS'.1.k6;have e7:=hS'.1.k7;have e8:=hS'.1.k8;have el:=hS'.1.lt;have t0:=hS'.2.1.1;have t1:=hS'.2.1.2.1;have t2:=hS'.2.1.2.2.1;have t3:=hS'.2.1.2.2.2;have tl:=hS'.2.2;(go_simp;try with_reducible rfl)
    simp only[Act.put,Pa,Pb,Pc];refine tU 9 (some 16) (v:=?_) rfl ⟨rfl,?_⟩ hS ?_;rotate_left
    ·intro w' hS';(go_simp;try with_reducible rfl)
    simp only[Act.put,Pa,Pb,Pc];refine tU 10 (some 17) (v:=?_) rfl ⟨rfl,?_⟩ hS ?_;rotate_left
    ·intro w' hS';(go_simp;try with_reducible rfl)
    simp only[Act.put,Pa,Pb,Pc];refine tU 11 (some 18) (v:=?_) rfl ⟨rfl,?_⟩ hS ?_;rotate_left
    ·intro w' hS';(go_simp;try with_reducible rfl)
    simp only[Act.put,Pa,Pb,Pc];refine tU 12 (some 19) (v:=?_) rfl ⟨rfl,?_⟩ hS ?_;rotate_left
    ·intro w' hS';have e0:=hS'.1.k0;have e1:=hS'.1.k1;have e2:=hS'.1.k2;have e3:=hS'.1.k3;have e4:=hS'.1.k4;have e5:=hS'.1.k5;have e6:=hS'.1.k6;have e7:=hS'.1.k7;have e8:=hS'.1.k8;have el:=hS'.1.lt;have t0:=hS'.2.1.1;have t1:=hS'.2.1.2.1;have t2:=hS'.2.1.2.2.1;have t3:=hS'.2.1.2.2.2;have tl:=hS'.2.2;(go_simp;try with_reducible rfl)
    simp only[Act.put,Pa,Pb,Pc];refine tU 13 (some 20) (v:=?_) rfl ⟨rfl,?_⟩ hS ?_;rotate_left
    ·intro w' hS';(go_simp;try with_reducible rfl)
    simp only[Act.put,Pa,Pb,Pc];refine tU 14 (some 21) (v:=?_) rfl ⟨rfl,?_⟩ hS ?_;rotate_left
    ·intro w' hS';(go_simp;try with_reducible rfl)
    simp only[Act.put,Pa,Pb,Pc];refine tU 15 (some 22) (v:=?_) rfl ⟨rfl,?_⟩ hS ?_;rotate_left
    ·intro w' hS';(go_simp;try with_reducible rfl)
    simp only[Act.put,Pa,Pb,Pc];refine tU 16 (some 23) (v:=?_) rfl ⟨rfl,?_⟩ hS ?_;rotate_left
    ·intro w' hS';(go_simp;try with_reducible rfl)
    simp only[Act.put,Pa,Pb,Pc];refine tU 17 (some 24) (v:=?_) rfl ⟨rfl,?_⟩ hS ?_;rotate_left
    ·intro w' hS';(go_simp;try with_reducible rfl)
    simp only[Act.put,Pa,Pb,Pc];refine tU 18 (some 25) (v:=?_) rfl ⟨rfl,?_⟩ hS ?_;rotate_left
    ·intro w' hS';(go_simp;try with_reducible rfl)
    simp only[Act.put,Pa,Pb,Pc];refine tU 19 (some 26) (v:=?_) rfl ⟨rfl,?_⟩ hS ?_;rotate_left
    ·intro w' hS';(go_simp;try with_reducible rfl)
    simp only[Act.put,Pa,Pb,Pc];refine tU 20 (some 27) (v:=?_) rfl ⟨rfl,?_⟩ hS ?_;rotate_left
    ·intro w' hS';have e0:=hS'.1.k0;have e1:=hS'.1.k1;have e2:=hS'.1.k2;have e3:=hS'.1.k3;have e4:=hS'.1.k4;have e5:=hS'.1.k5;have e6:=hS'.1.k6;have e7:=hS'.1.k7;have e8:=hS'.1.k8;have el:=hS'.1.lt;have t0:=hS'.2.1.1;have t1:=hS'.2.1.2.1;have t2:=hS'.2.1.2.2.1;have t3:=hS'.2.1.2.2.2;have tl:=hS'.2.2;(go_simp;try with_reducible rfl)
    simp only[Act.put,Pa,Pb,Pc];refine tU 21 (some 28) (v:=?_) rfl ⟨rfl,?_⟩ hS ?_;rotate_left
    ·intro w' hS';(go_simp;try with_reducible rfl)
    simp only[Act.put,Pa,Pb,Pc];refine tU 22 (some 29) (v:=?_) rfl ⟨rfl,?_⟩ hS ?_;rotate_left
    ·intro w' hS';(go_simp;try with_reducible rfl)
    simp only[Act.put,Pa,Pb,Pc];refine tU 23 (some 30) (v:=?_) rfl ⟨rfl,?_⟩ hS ?_;rotate_left
    ·intro w' hS';(go_simp;try with_reducible rfl)
    simp only[Act.put,Pa,Pb,Pc];refine tU 24 (some 31) (v:=?_) rfl ⟨rfl,?_⟩ hS ?_;rotate_left
    ·intro w' hS';have e0:=hS'.1.k0;have e1:=hS'.1.k1;have e2:=hS'.1.k2;have e3:=hS'.1.k3;have e4:=hS'.1.k4;have e5:=hS'.1.k5;have e6:=hS'.1.k6;have e7:=hS'.1.k7;have e8:=hS'.1.k8;have el:=hS'.1.lt;have t0:=hS'.2.1.1;have t1:=hS'.2.1.2.1;have t2:=hS'.2.1.2.2.1;have t3:=hS'.2.1.2.2.2;have tl:=hS'.2.2;(go_simp;try with_reducible rfl)
    simp only[Act.put,Pa,Pb,Pc];refine tU 25 (some 32) (v:=?_) rfl ⟨rfl,?_⟩ hS ?_;rotate_left
    ·intro w' hS';(go_simp;try with_reducible rfl)
    simp only[Act.put,Pa,Pb,Pc];refine tU 26 (some 33) (v:=?_) rfl ⟨rfl,?_⟩ hS ?_;rotate_left
    ·intro w' hS';(go_simp;try with_reducible rfl)
    simp only[Act.put,Pa,Pb,Pc];refine tU 27 (some 34) (v:=?_) rfl ⟨rfl,?_⟩ hS ?_;rotate_left
    ·intro w' hS';have e0:=hS'.1.k0;have e1:=hS'.1.k1;have e2:=hS'.1.k2;have e3:=hS'.1.k3;have e4:=hS'.1.k4;have e5:=hS'.1.k5;have e6:=hS'.1.k6;have e7:=hS'.1.k7;have e8:=hS'.1.k8;have el:=hS'.1.lt;have t0:=hS'.2.1.1;have t1:=hS'.2.1.2.1;have t2:=hS'.2.1.2.2.1;have t3:=hS'.2.1.2.2.2;have tl:=hS'.2.2;(go_simp;try with_reducible rfl)
    simp only[Act.put,Pa,Pb,Pc];refine tU 28 (some 35) (v:=?_) rfl ⟨rfl,?_⟩ hS ?_;rotate_left
    ·intro w' hS';(go_simp;try with_reducible rfl)
    simp only[Act.put,Pa,Pb,Pc];refine tU 29 (some 36) (v:=?_) rfl ⟨rfl,?_⟩ hS ?_;rotate_left
    ·intro w' hS';(go_simp;try with_reducible rfl)
    simp only[Act.put,Pa,Pb,Pc];refine tU 30 (some 37) (v:=?_) rfl ⟨rfl,?_⟩ hS ?_;rotate_left
    ·intro w' hS';(go_simp;try with_reducible rfl)
    simp only[Act.put,Pa,Pb,Pc];refine tU 31 (some 38) (v:=?_) rfl ⟨rfl,?_⟩ hS ?_;rotate_left
    ·intro w' hS';(go_simp;try with_reducible rfl)
    simp only[Act.put,Pa,Pb,Pc];refine tU 32 (some 39) (v:=?_) rfl ⟨rfl,?_⟩ hS ?_;rotate_left
    ·intro w' hS';(go_simp;try with_reducible rfl)
    simp only[Act.put,Pa,Pb,Pc];refine tU 33 (some 40) (v:=?_) rfl ⟨rfl,?_⟩ hS ?_;rotate_left
    ·intro w' hS';(go_simp;try with_reducible rfl)
    simp only[Act.put,Pa,Pb,Pc];refine tU 34 (some 41) (v:=?_) rfl ⟨rfl,?_⟩ hS ?_;rotate_left
    ·intro w' hS';(go_simp;try with_reducible rfl)
    simp only[Act.put,Pa,Pb,Pc];refine tU 35 (some 42) (v:=?_) rfl ⟨rfl,?_⟩ hS ?_;rotate_left
    ·intro w' hS';(go_simp;try with_reducible rfl)
    simp only[Act.put,Pa,Pb,Pc];refine tU 36 (some 43) (v:=?_) rfl ⟨rfl,?_⟩ hS ?_;rotate_left
    ·intro w' hS';(go_simp;try with_reducible rfl)
    simp only[Act.put,Pa,Pb,Pc];refine tU 37 (some 44) (v:=?_) rfl ⟨rfl,?_⟩ hS ?_;rotate_left
    ·intro w' hS';(go_simp;try with_reducible rfl)
    simp only[Act.put,Pa,Pb,Pc];refine tU 38 (some 45) (v:=?_) rfl ⟨rfl,?_⟩ hS ?_;rotate_left
    ·intro w' hS';have e0:=hS'.1.k0;have e1:=hS'.1.k1;have e2:=hS'.1.k2;have e3:=hS'.1.k3;have e4:=hS'.1.k4;have e5:=hS'.1.k5;have e6:=hS'.1.k6;have e7:=hS'.1.k7;have e8:=hS'.1.k8;have el:=hS'.1.lt;have t0:=hS'.2.1.1;have t1:=hS'.2.1.2.1;have t2:=hS'.2.1.2.2.1;have t3:=hS'.2.1.2.2.2;have tl:=hS'.2.2;(go_simp;try with_reducible rfl)
    simp only[Act.put,Pa,Pb,Pc];refine tU 39 (some 46) (v:=?_) rfl ⟨rfl,?_⟩ hS ?_;rotate_left
    ·intro w' hS';(go_simp;try with_reducible rfl)
    simp only[Act.put,Pa,Pb,Pc];refine tU 40 (some 47) (v:=?_) rfl ⟨rfl,?_⟩ hS ?_;rotate_left
    ·intro w' hS';(go_simp;try with_reducible rfl)
    simp only[Act.put,Pa,Pb,Pc];refine tU 41 (some 48) (v:=?_) rfl ⟨rfl,?_⟩ hS ?_;rotate_left
    ·intro w' hS';(go_simp;try with_reducible rfl)
    simp only[Act.put,Pa,Pb,Pc];refine tU 42 (some 49) (v:=?_) rfl ⟨rfl,?_⟩ hS ?_;rotate_left
    ·intro w' hS';have e0:=hS'.1.k0;have e1:=hS'.1.k1;have e2:=hS'.1.k2;have e3:=hS'.1.k3;have e4:=hS'.1.k4;have e5:=hS'.1.k5;have e6:=hS'.1.k6;have e7:=hS'.1.k7;have e8:=hS'.1.k8;have el:=hS'.1.lt;have t0:=hS'.2.1.1;have t1:=hS'.2.1.2.1;have t2:=hS'.2.1.2.2.1;have t3:=hS'.2.1.2.2.2;have tl:=hS'.2.2;(go_simp;try with_reducible rfl)
    simp only[Act.put,Pa,Pb,Pc];refine tU 43 (some 50) (v:=?_) rfl ⟨rfl,?_⟩ hS ?_;rotate_left
    ·intro w' hS';(go_simp;try with_reducible rfl)
    simp only[Act.put,Pa,Pb,Pc];refine tU 44 (some 51) (v:=?_) rfl ⟨rfl,?_⟩ hS ?_;rotate_left
    ·intro w' hS';(go_simp;try with_reducible rfl)
    simp only[Act.put,Pa,Pb,Pc];refine tU 45 (some 52) (v:=?_) rfl ⟨rfl,?_⟩ hS ?_;rotate_left
    ·intro w' hS';have e0:=hS'.1.k0;have e1:=hS'.1.k1;have e2:=hS'.1.k2;have e3:=hS'.1.k3;have e4:=hS'.1.k4;have e5:=hS'.1.k5;have e6:=hS'.1.k6;have e7:=hS'.1.k7;have e8:=hS'.1.k8;have el:=hS'.1.lt;have t0:=hS'.2.1.1;have t1:=hS'.2.1.2.1;have t2:=hS'.2.1.2.2.1;have t3:=hS'.2.1.2.2.2;have tl:=hS'.2.2;(go_simp;try with_reducible rfl)
    simp only[Act.put,Pa,Pb,Pc];refine tU 46 (some 53) (v:=?_) rfl ⟨rfl,?_⟩ hS ?_;rotate_left
    ·intro w' hS';(go_simp;try with_reducible rfl)
    simp only[Act.put,Pa,Pb,Pc];refine tU 47 (some 54) (v:=?_) rfl ⟨rfl,?_⟩ hS ?_;rotate_left
    ·intro w' hS';(go_simp;try with_reducible rfl)
    simp only[Act.put,Pa,Pb,Pc];refine tU 48 (some 55) (v:=?_) rfl ⟨rfl,?_⟩ hS ?_;rotate_left
    ·intro w' hS';(go_simp;try with_reducible rfl)
    simp only[Act.put,Pa,Pb,Pc];refine tU 49 (some 56) (v:=?_) rfl ⟨rfl,?_⟩ hS ?_;rotate_left
    ·intro w' hS';(go_simp;try with_reducible rfl)
    simp only[Act.put,Pa,Pb,Pc];refine X_done (by kernel_rfl) ?_;clear hS;have HV:=iH (H.out.set (k:=6) (u:=.bool true) (i':=i) (bad':=true) (st':=st) rfl (by omega));have hsz:(W.setCell ⟨pb,6,none⟩ (.bool true)).heap.size=W.heap.size:=by simp
    have yv:Below (W.setCell ⟨pb,6,none⟩ (.bool true)).heap.size (W.setCell ⟨pb,6,none⟩ (.bool true)) ((W.setCell ⟨pb,6,none⟩ (.bool true)).alloc (.cells #[.int .i64 0,.string ⟨#[]⟩,.int .i64 0,.int .i64 0] 153)).drew:=((Below.refl _ _).alloc (Nat.le_refl _) _).drew;have HP1:=iH (HV.out.below yv);have HR1:Hid (Bk ((W.setCell ⟨pb,6,none⟩ (.bool true)).alloc (.cells #[.int .i64 0,.string ⟨#[]⟩,.int .i64 0,.int .i64 0] 153)).drew W.heap.size 153 [.int .i64 0,.string ⟨#[]⟩,.int .i64 0,.int .i64 0]):=by
     have:=(Bk.new (W.setCell ⟨pb,6,none⟩ (.bool true)) 153 [.int .i64 0,.string ⟨#[]⟩,.int .i64 0,.int .i64 0]).drew;rw[hsz]at this;exact iH this
    have HG1:Hid (W.grownBy ((W.setCell ⟨pb,6,none⟩ (.bool true)).alloc (.cells #[.int .i64 0,.string ⟨#[]⟩,.int .i64 0,.int .i64 0] 153)).drew (some pb)):=iH (grown_trans (grown_setCell W pb 6 _) (grown_of_below yv _));clear yv hsz;have g0:(W.alloc (.cells #[.int .i64 0,.string ⟨#[]⟩,.int .i64 0,.int .i64 0] 153)).drew.cell? ⟨pb,0,none⟩=some (.slice m.si.A m.si.n m.si.c):=H1.out.drew.pk.cell 0;have g1:(W.alloc (.cells #[.int .i64 0,.string ⟨#[]⟩,.int .i64 0,.int .i64 0] 153)).drew.cell? ⟨pb,1,none⟩=some (.slice m.sr.A m.sr.n m.sr.c):=H1.out.drew.pk.cell 1;have g2:(W.alloc (.cells #[.int .i64 0,.string ⟨#[]⟩,.int .i64 0,.int .i64 0] 153)).drew.cell? ⟨pb,2,none⟩=some (.slice m.st.A m.st.n m.st.c):=H1.out.drew.pk.cell 2;have g3:(W.alloc (.cells #[.int .i64 0,.string ⟨#[]⟩,.int .i64 0,.int .i64 0] 153)).drew.cell? ⟨pb,3,none⟩=some (.slice m.sx.A m.sx.n m.sx.c):=H1.out.drew.pk.cell 3;have g4:(W.alloc (.cells #[.int .i64 0,.string ⟨#[]⟩,.int .i64 0,.int .i64 0] 153)).drew.cell? ⟨pb,4,none⟩=some (.slice (some ⟨bb,off,none⟩) n c):=H1.out.drew.pk.cell 4;have g5:(W.alloc (.cells #[.int .i64 0,.string ⟨#[]⟩,.int .i64 0,.int .i64 0] 153)).drew.cell? ⟨pb,5,none⟩=some (.int .i64 (i:Int)):=H1.out.drew.pk.cell 5;have g6:(W.alloc (.cells #[.int .i64 0,.string ⟨#[]⟩,.int .i64 0,.int .i64 0] 153)).drew.cell? ⟨pb,6,none⟩=some (.bool false):=H1.out.drew.pk.cell 6;have g7:(W.alloc (.cells #[.int .i64 0,.string ⟨#[]⟩,.int .i64 0,.int .i64 0] 153)).drew.cell? ⟨pb,7,none⟩=some (.int .i64 st.1):=H1.out.drew.pk.cell 7;have g8:(W.alloc (.cells #[.int .i64 0,.string ⟨#[]⟩,.int .i64 0,.int .i64 0] 153)).drew.cell? ⟨pb,8,none⟩=some (.int .i64 st.2):=H1.out.drew.pk.cell 8;have gl:=H1.out.drew.pk.lt;have gf:=H1.out.drew.pk.frozen 6;have r0:((W.setCell ⟨pb,6,none⟩ (.bool true)).alloc (.cells #[.int .i64 0,.string ⟨#[]⟩,.int .i64 0,.int .i64 0] 153)).drew.cell? ⟨W.heap.size,0,none⟩=some (.int .i64 0):=HR1.out.cell 0;have r1:((W.setCell ⟨pb,6,none⟩ (.bool true)).alloc (.cells #[.int .i64 0,.string ⟨#[]⟩,.int .i64 0,.int .i64 0] 153)).drew.cell? ⟨W.heap.size,1,none⟩=some (.string ⟨#[]⟩):=HR1.out.cell 1;have r2:((W.setCell ⟨pb,6,none⟩ (.bool true)).alloc (.cells #[.int .i64 0,.string ⟨#[]⟩,.int .i64 0,.int .i64 0] 153)).drew.cell? ⟨W.heap.size,2,none⟩=some (.int .i64 0):=HR1.out.cell 2;have r3:((W.setCell ⟨pb,6,none⟩ (.bool true)).alloc (.cells #[.int .i64 0,.string ⟨#[]⟩,.int .i64 0,.int .i64 0] 153)).drew.cell? ⟨W.heap.size,3,none⟩=some (.int .i64 0):=HR1.out.cell 3;have rl:=HR1.out.lt;have rf0:=HR1.out.frozen 0;have rf1:=HR1.out.frozen 1;have rf2:=HR1.out.frozen 2;have rf3:=HR1.out.frozen 3;go_wp2;have HXQ:=iH HP1.out;have HXG:=iH HG1.out;have HXB:=HR1.out;clear HP1 HG1 HR1;generalize((W.setCell ⟨pb,6,none⟩ (.bool true)).alloc (.cells #[.int .i64 0,.string ⟨#[]⟩,.int .i64 0,.int .i64 0] 153)).drew=X at *;have xx0:=HXB.k0;have xx1:=HXB.k1;have xx2:=HXB.k2;have xx3:=HXB.k3;refine bodyPost_ret (v:=.agg #[.int .i64 0,.string ⟨#[]⟩,.int .i64 0,.int .i64 0]) (by simp[results,Tryz.results122,go_sem,xx0,xx1,xx2,xx3]) rfl ?_;exact⟨rfl,HXQ.out,HXG.out⟩
   ·have hk1:(t.kind == k)=false:=by simpa using hk
    have hk2:(t.kind != k)=true:=by simpa using hk
    clear hno2;go_enter Tryz.func122,Tryz.ntmps122;go_wp2;refine wp_region_X (fun w'=>Bk w' pb 150 [.slice m.si.A m.si.n m.si.c,.slice m.sr.A m.sr.n m.sr.c,.slice m.st.A m.st.n m.st.c,.slice m.sx.A m.sx.n m.sx.c,.slice (some ⟨bb,off,none⟩) n c,.int .i64 (i:Int),.bool false,.int .i64 st.1,.int .i64 st.2]∧((w'.cell? ⟨bb,off+i*4,none⟩=some (.int .i64 t.kind)∧w'.cell? ⟨bb,off+i*4+1,none⟩=some (.string t.text)∧w'.cell? ⟨bb,off+i*4+2,none⟩=some (.int .i64 t.num)∧w'.cell? ⟨bb,off+i*4+3,none⟩=some (.int .i64 t.at_))∧bb<w'.heap.size)) 50 (n:=50) rfl (by kernel_rfl) (⟨H1.out.pk.drew,HEL.out _ ((Below.refl W.heap.size W).alloc (Nat.le_refl _) (.cells #[.int .i64 0,.string ⟨#[]⟩,.int .i64 0,.int .i64 0] 153)).drew⟩) (fun hS=>?_);refine tU 0 (some 7) (v:=?_) rfl ⟨rfl,?_⟩ hS ?_;rotate_left
    ·intro w' hS';(go_simp;try with_reducible rfl)
    simp only[Act.put,Pa,Pb,Pc];refine tU 1 (some 8) (v:=?_) rfl ⟨rfl,?_⟩ hS ?_;rotate_left
    ·intro w' hS';(go_simp;try with_reducible rfl)
    simp only[Act.put,Pa,Pb,Pc];refine tU 2 (some 9) (v:=?_) rfl ⟨rfl,?_⟩ hS ?_;rotate_left
    ·intro w' hS';(go_simp;try with_reducible rfl)
    simp only[Act.put,Pa,Pb,Pc];refine tU 3 (some 10) (v:=?_) rfl ⟨rfl,?_⟩ hS ?_;rotate_left
    ·intro w' hS';have e0:=hS'.1.k0;have e1:=hS'.1.k1;have e2:=hS'.1.k2;have e3:=hS'.1.k3;have e4:=hS'.1.k4;have e5:=hS'.1.k5;have e6:=hS'.1.k6;have e7:=hS'.1.k7;have e8:=hS'.1.k8;have el:=hS'.1.lt;have t0:=hS'.2.1.1;have t1:=hS'.2.1.2.1;have t2:=hS'.2.1.2.2.1;have t3:=hS'.2.1.2.2.2;have tl:=hS'.2.2;(go_simp;try with_reducible rfl)
    simp only[Act.put,Pa,Pb,Pc];refine tU 4 (some 11) (v:=?_) rfl ⟨rfl,?_⟩ hS ?_;rotate_left
    ·intro w' hS';(go_simp;try with_reducible rfl)
    simp only[Act.put,Pa,Pb,Pc];refine tU 5 (some 12) (v:=?_) rfl ⟨rfl,?_⟩ hS ?_;rotate_left
    ·intro w' hS';(go_simp;try with_reducible rfl)
    simp only[Act.put,Pa,Pb,Pc];refine tU 6 (some 13) (v:=?_) rfl ⟨rfl,?_⟩ hS ?_;rotate_left
    ·intro w' hS';(go_simp;try with_reducible rfl)
    simp only[Act.put,Pa,Pb,Pc];refine tU 7 (some 14) (v:=?_) rfl ⟨rfl,?_⟩ hS ?_;rotate_left
    ·intro w' hS';(go_simp;try with_reducible rfl)
    simp only[Act.put,Pa,Pb,Pc];refine tU 8 (some 15) (v:=?_) rfl ⟨rfl,?_⟩ hS ?_;rotate_left
    ·intro w' hS';have e0:=hS'.1.k0;have e1:=hS'.1.k1;have e2:=hS'.1.k2;have e3:=hS'.1.k3;have e4:=hS'.1.k4;have e5:=hS'.1.k5;have e6:=hS'.1.k6;have e7:=hS'.1.k7;have e8:=hS'.1.k8;have el:=hS'.1.lt;have t0:=hS'.2.1.1;have t1:=hS'.2.1.2.1;have t2:=hS'.2.1.2.2.1;have t3:=hS'.2.1.2.2.2;have tl:=hS'.2.2;(go_simp;try with_reducible rfl)
    simp only[Act.put,Pa,Pb,Pc];refine tU 9 (some 16) (v:=?_) rfl ⟨rfl,?_⟩ hS ?_;rotate_left
    ·intro w' hS';(go_simp;try with_reducible rfl)
    simp only[Act.put,Pa,Pb,Pc];refine tU 10 (some 17) (v:=?_) rfl ⟨rfl,?_⟩ hS ?_;rotate_left
    ·intro w' hS';(go_simp;try with_reducible rfl)
    simp only[Act.put,Pa,Pb,Pc];refine tU 11 (some 18) (v:=?_) rfl ⟨rfl,?_⟩ hS ?_;rotate_left
    ·intro w' hS';(go_simp;try with_reducible rfl)
    simp only[Act.put,Pa,Pb,Pc];refine tU 12 (some 19) (v:=?_) rfl ⟨rfl,?_⟩ hS ?_;rotate_left
    ·intro w' hS';have e0:=hS'.1.k0;have e1:=hS'.1.k1;have e2:=hS'.1.k2;have e3:=hS'.1.k3;have e4:=hS'.1.k4;have e5:=hS'.1.k5;have e6:=hS'.1.k6;have e7:=hS'.1.k7;have e8:=hS'.1.k8;have el:=hS'.1.lt;have t0:=hS'.2.1.1;have t1:=hS'.2.1.2.1;have t2:=hS'.2.1.2.2.1;have t3:=hS'.2.1.2.2.2;have tl:=hS'.2.2;(go_simp;try with_reducible rfl)
    simp only[Act.put,Pa,Pb,Pc];refine tU 13 (some 20) (v:=?_) rfl ⟨rfl,?_⟩ hS ?_;rotate_left
    ·intro w' hS';(go_simp;try with_reducible rfl)
    simp only[Act.put,Pa,Pb,Pc];refine tU 14 (some 21) (v:=?_) rfl ⟨rfl,?_⟩ hS ?_;rotate_left
    ·intro w' hS';(go_simp;try with_reducible rfl)
    simp only[Act.put,Pa,Pb,Pc];refine tU 15 (some 22) (v:=?_) rfl ⟨rfl,?_⟩ hS ?_;rotate_left
    ·intro w' hS';(go_simp;try with_reducible rfl)
    simp only[Act.put,Pa,Pb,Pc];refine tU 16 (some 23) (v:=?_) rfl ⟨rfl,?_⟩ hS ?_;rotate_left
    ·intro w' hS';(go_simp;try with_reducible rfl)
    simp only[Act.put,Pa,Pb,Pc];refine tU 17 (some 24) (v:=?_) rfl ⟨rfl,?_⟩ hS ?_;rotate_left
    ·intro w' hS';(go_simp;try with_reducible rfl)
    simp only[Act.put,Pa,Pb,Pc];refine tU 18 (some 25) (v:=?_) rfl ⟨rfl,?_⟩ hS ?_;rotate_left
    ·intro w' hS';(go_simp;try with_reducible rfl)
    simp only[Act.put,Pa,Pb,Pc];refine tU 19 (some 26) (v:=?_) rfl ⟨rfl,?_⟩ hS ?_;rotate_left
    ·intro w' hS';(go_simp;try with_reducible rfl)
    simp only[Act.put,Pa,Pb,Pc];refine tU 20 (some 27) (v:=?_) rfl ⟨rfl,?_⟩ hS ?_;rotate_left
    ·intro w' hS';have e0:=hS'.1.k0;have e1:=hS'.1.k1;have e2:=hS'.1.k2;have e3:=hS'.1.k3;have e4:=hS'.1.k4;have e5:=hS'.1.k5;have e6:=hS'.1.k6;have e7:=hS'.1.k7;have e8:=hS'.1.k8;have el:=hS'.1.lt;have t0:=hS'.2.1.1;have t1:=hS'.2.1.2.1;have t2:=hS'.2.1.2.2.1;have t3:=hS'.2.1.2.2.2;have tl:=hS'.2.2;(go_simp;try with_reducible rfl)
    simp only[Act.put,Pa,Pb,Pc];refine tU 21 (some 28) (v:=?_) rfl ⟨rfl,?_⟩ hS ?_;rotate_left
    ·intro w' hS';(go_simp;try with_reducible rfl)
    simp only[Act.put,Pa,Pb,Pc];refine tU 22 (some 29) (v:=?_) rfl ⟨rfl,?_⟩ hS ?_;rotate_left
    ·intro w' hS';(go_simp;try with_reducible rfl)
    simp only[Act.put,Pa,Pb,Pc];refine tU 23 (some 30) (v:=?_) rfl ⟨rfl,?_⟩ hS ?_;rotate_left
    ·intro w' hS';(go_simp;try with_reducible rfl)
    simp only[Act.put,Pa,Pb,Pc];refine tU 24 (some 31) (v:=?_) rfl ⟨rfl,?_⟩ hS ?_;rotate_left
    ·intro w' hS';have e0:=hS'.1.k0;have e1:=hS'.1.k1;have e2:=hS'.1.k2;have e3:=hS'.1.k3;have e4:=hS'.1.k4;have e5:=hS'.1.k5;have e6:=hS'.1.k6;have e7:=hS'.1.k7;have e8:=hS'.1.k8;have el:=hS'.1.lt;have t0:=hS'.2.1.1;have t1:=hS'.2.1.2.1;have t2:=hS'.2.1.2.2.1;have t3:=hS'.2.1.2.2.2;have tl:=hS'.2.2;(go_simp;try with_reducible rfl)
    simp only[Act.put,Pa,Pb,Pc];refine tU 25 (some 32) (v:=?_) rfl ⟨rfl,?_⟩ hS ?_;rotate_left
    ·intro w' hS';(go_simp;try with_reducible rfl)
    simp only[Act.put,Pa,Pb,Pc];refine tU 26 (some 33) (v:=?_) rfl ⟨rfl,?_⟩ hS ?_;rotate_left
    ·intro w' hS';(go_simp;try with_reducible rfl)
    simp only[Act.put,Pa,Pb,Pc];refine tU 27 (some 34) (v:=?_) rfl ⟨rfl,?_⟩ hS ?_;rotate_left
    ·intro w' hS';have e0:=hS'.1.k0;have e1:=hS'.1.k1;have e2:=hS'.1.k2;have e3:=hS'.1.k3;have e4:=hS'.1.k4;have e5:=hS'.1.k5;have e6:=hS'.1.k6;have e7:=hS'.1.k7;have e8:=hS'.1.k8;have el:=hS'.1.lt;have t0:=hS'.2.1.1;have t1:=hS'.2.1.2.1;have t2:=hS'.2.1.2.2.1;have t3:=hS'.2.1.2.2.2;have tl:=hS'.2.2;(go_simp;try with_reducible rfl)
    simp only[Act.put,Pa,Pb,Pc];refine tU 28 (some 35) (v:=?_) rfl ⟨rfl,?_⟩ hS ?_;rotate_left
    ·intro w' hS';(go_simp;try with_reducible rfl)
    simp only[Act.put,Pa,Pb,Pc];refine tU 29 (some 36) (v:=?_) rfl ⟨rfl,?_⟩ hS ?_;rotate_left
    ·intro w' hS';(go_simp;try with_reducible rfl)
    simp only[Act.put,Pa,Pb,Pc];refine tU 30 (some 37) (v:=?_) rfl ⟨rfl,?_⟩ hS ?_;rotate_left
    ·intro w' hS';(go_simp;try with_reducible rfl)
    simp only[Act.put,Pa,Pb,Pc];refine tU 31 (some 38) (v:=?_) rfl ⟨rfl,?_⟩ hS ?_;rotate_left
    ·intro w' hS';(go_simp;try with_reducible rfl)
    simp only[Act.put,Pa,Pb,Pc];refine X_skipU 32 (some 39) (listed':=#[true,true,true,true,true,true,true,true,true,true,true,true,true,true,true,true,true,true,true,true,true,true,true,true,true,true,true,true,true,true,true,true,true,false,false,false,false,false,false,false,false,false,false,false,false,false,false,false,false,false]) rfl rfl rfl (by kernel_rfl) rfl (fun _ _ _ h=>h) rfl hS ?_;simp only[Act.put,Pa,Pb,Pc];refine X_skipU 33 (some 40) (listed':=#[true,true,true,true,true,true,true,true,true,true,true,true,true,true,true,true,true,true,true,true,true,true,true,true,true,true,true,true,true,true,true,true,true,true,false,false,false,false,false,false,false,false,false,false,false,false,false,false,false,false]) rfl rfl rfl (by kernel_rfl) rfl (fun _ _ _ h=>h) rfl hS ?_;simp only[Act.put,Pa,Pb,Pc];refine X_skipU 34 (some 41) (listed':=#[true,true,true,true,true,true,true,true,true,true,true,true,true,true,true,true,true,true,true,true,true,true,true,true,true,true,true,true,true,true,true,true,true,true,true,false,false,false,false,false,false,false,false,false,false,false,false,false,false,false]) rfl rfl rfl (by kernel_rfl) rfl (fun _ _ _ h=>h) rfl hS ?_;simp only[Act.put,Pa,Pb,Pc];refine X_skipU 35 (some 42) (listed':=#[true,true,true,true,true,true,true,true,true,true,true,true,true,true,true,true,true,true,true,true,true,true,true,true,true,true,true,true,true,true,true,true,true,true,true,true,false,false,false,false,false,false,false,false,false,false,false,false,false,false]) rfl rfl rfl (by kernel_rfl) rfl (fun _ _ _ h=>h) rfl hS ?_;simp only[Act.put,Pa,Pb,Pc];refine X_skipU 36 (some 43) (listed':=#[true,true,true,true,true,true,true,true,true,true,true,true,true,true,true,true,true,true,true,true,true,true,true,true,true,true,true,true,true,true,true,true,true,true,true,true,true,false,false,false,false,false,false,false,false,false,false,false,false,false]) rfl rfl rfl (by kernel_rfl) rfl (fun _ _ _ h=>h) rfl hS ?_;simp only[Act.put,Pa,Pb,Pc];refine X_skipU 37 (some 44) (listed':=#[true,true,true,true,true,true,true,true,true,true,true,true,true,true,true,true,true,true,true,true,true,true,true,true,true,true,true,true,true,true,true,true,true,true,true,true,true,true,false,false,false,false,false,false,false,false,false,false,false,false]) rfl rfl rfl (by kernel_rfl) rfl (fun _ _ _ h=>h) rfl hS ?_;simp only[Act.put,Pa,Pb,Pc];refine X_skipU 38 (some 45) (listed':=#[true,true,true,true,true,true,true,true,true,true,true,true,true,true,true,true,true,true,true,true,true,true,true,true,true,true,true,true,true,true,true,true,true,true,true,true,true,true,true,false,false,false,false,false,false,false,false,false,false,false]) rfl rfl rfl (by kernel_rfl) rfl (fun _ _ _ h=>h) rfl hS ?_;simp only[Act.put,Pa,Pb,Pc];refine X_skipU 39 (some 46) (listed':=#[true,true,true,true,true,true,true,true,true,true,true,true,true,true,true,true,true,true,true,true,true,true,true,true,true,true,true,true,true,true,true,true,true,true,true,true,true,true,true,true,false,false,false,false,false,false,false,false,false,false]) rfl rfl rfl (by kernel_rfl) rfl (fun _ _ _ h=>h) rfl hS ?_;simp only[Act.put,Pa,Pb,Pc];refine X_skipU 40 (some 47) (listed':=#[true,true,true,true,true,true,true,true,true,true,true,true,true,true,true,true,true,true,true,true,true,true,true,true,true,true,true,true,true,true,true,true,true,true,true,true,true,true,true,true,true,false,false,false,false,false,false,false,false,false]) rfl rfl rfl (by kernel_rfl) rfl (fun _ _ _ h=>h) rfl hS ?_;simp only[Act.put,Pa,Pb,Pc];refine X_skipU 41 (some 48) (listed':=#[true,true,true,true,true,true,true,true,true,true,true,true,true,true,true,true,true,true,true,true,true,true,true,true,true,true,true,true,true,true,true,true,true,true,true,true,true,true,true,true,true,true,false,false,false,false,false,false,false,false]) rfl rfl rfl (by kernel_rfl) rfl (fun _ _ _ h=>h) rfl hS ?_;simp only[Act.put,Pa,Pb,Pc];refine X_skipU 42 (some 49) (listed':=#[true,true,true,true,true,true,true,true,true,true,true,true,true,true,true,true,true,true,true,true,true,true,true,true,true,true,true,true,true,true,true,true,true,true,true,true,true,true,true,true,true,true,true,false,false,false,false,false,false,false]) rfl rfl rfl (by kernel_rfl) rfl (fun _ _ _ h=>h) rfl hS ?_;simp only[Act.put,Pa,Pb,Pc];refine X_skipU 43 (some 50) (listed':=#[true,true,true,true,true,true,true,true,true,true,true,true,true,true,true,true,true,true,true,true,true,true,true,true,true,true,true,true,true,true,true,true,true,true,true,true,true,true,true,true,true,true,true,true,false,false,false,false,false,false]) rfl rfl rfl (by kernel_rfl) rfl (fun _ _ _ h=>h) rfl hS ?_;simp only[Act.put,Pa,Pb,Pc];refine X_skipU 44 (some 51) (listed':=#[true,true,true,true,true,true,true,true,true,true,true,true,true,true,true,true,true,true,true,true,true,true,true,true,true,true,true,true,true,true,true,true,true,true,true,true,true,true,true,true,true,true,true,true,true,false,false,false,false,false]) rfl rfl rfl (by kernel_rfl) rfl (fun _ _ _ h=>h) rfl hS ?_;simp only[Act.put,Pa,Pb,Pc];refine X_skipU 45 (some 52) (listed':=#[true,true,true,true,true,true,true,true,true,true,true,true,true,true,true,true,true,true,true,true,true,true,true,true,true,true,true,true,true,true,true,true,true,true,true,true,true,true,true,true,true,true,true,true,true,true,false,false,false,false]) rfl rfl rfl (by kernel_rfl) rfl (fun _ _ _ h=>h) rfl hS ?_;simp only[Act.put,Pa,Pb,Pc];refine X_skipU 46 (some 53) (listed':=#[true,true,true,true,true,true,true,true,true,true,true,true,true,true,true,true,true,true,true,true,true,true,true,true,true,true,true,true,true,true,true,true,true,true,true,true,true,true,true,true,true,true,true,true,true,true,true,false,false,false]) rfl rfl rfl (by kernel_rfl) rfl (fun _ _ _ h=>h) rfl hS ?_;simp only[Act.put,Pa,Pb,Pc];refine X_skipU 47 (some 54) (listed':=#[true,true,true,true,true,true,true,true,true,true,true,true,true,true,true,true,true,true,true,true,true,true,true,true,true,true,true,true,true,true,true,true,true,true,true,true,true,true,true,true,true,true,true,true,true,true,true,true,false,false]) rfl rfl rfl (by kernel_rfl) rfl (fun _ _ _ h=>h) rfl hS ?_;simp only[Act.put,Pa,Pb,Pc];refine X_skipU 48 (some 55) (listed':=#[true,true,true,true,true,true,true,true,true,true,true,true,true,true,true,true,true,true,true,true,true,true,true,true,true,true,true,true,true,true,true,true,true,true,true,true,true,true,true,true,true,true,true,true,true,true,true,true,true,false]) rfl rfl rfl (by kernel_rfl) rfl (fun _ _ _ h=>h) rfl hS ?_;simp only[Act.put,Pa,Pb,Pc];refine tU 49 (some 56) (v:=?_) rfl ⟨rfl,?_⟩ hS ?_;rotate_left
    ·intro w' hS';(go_simp;try with_reducible rfl)
    simp only[Act.put,Pa,Pb,Pc];refine X_done (by kernel_rfl) ?_;clear hS;have HV:=iH (H.out.set (k:=6) (u:=.bool true) (i':=i) (bad':=true) (st':=st) rfl (by omega));have hsz:(W.setCell ⟨pb,6,none⟩ (.bool true)).heap.size=W.heap.size:=by simp
    have yv:Below (W.setCell ⟨pb,6,none⟩ (.bool true)).heap.size (W.setCell ⟨pb,6,none⟩ (.bool true)) ((W.setCell ⟨pb,6,none⟩ (.bool true)).alloc (.cells #[.int .i64 0,.string ⟨#[]⟩,.int .i64 0,.int .i64 0] 153)).drew:=((Below.refl _ _).alloc (Nat.le_refl _) _).drew;have HP1:=iH (HV.out.below yv);have HR1:Hid (Bk ((W.setCell ⟨pb,6,none⟩ (.bool true)).alloc (.cells #[.int .i64 0,.string ⟨#[]⟩,.int .i64 0,.int .i64 0] 153)).drew W.heap.size 153 [.int .i64 0,.string ⟨#[]⟩,.int .i64 0,.int .i64 0]):=by
     have:=(Bk.new (W.setCell ⟨pb,6,none⟩ (.bool true)) 153 [.int .i64 0,.string ⟨#[]⟩,.int .i64 0,.int .i64 0]).drew;rw[hsz]at this;exact iH this
    have HG1:Hid (W.grownBy ((W.setCell ⟨pb,6,none⟩ (.bool true)).alloc (.cells #[.int .i64 0,.string ⟨#[]⟩,.int .i64 0,.int .i64 0] 153)).drew (some pb)):=iH (grown_trans (grown_setCell W pb 6 _) (grown_of_below yv _));clear yv hsz;have g0:(W.alloc (.cells #[.int .i64 0,.string ⟨#[]⟩,.int .i64 0,.int .i64 0] 153)).drew.cell? ⟨pb,0,none⟩=some (.slice m.si.A m.si.n m.si.c):=H1.out.drew.pk.cell 0;have g1:(W.alloc (.cells #[.int .i64 0,.string ⟨#[]⟩,.int .i64 0,.int .i64 0] 153)).drew.cell? ⟨pb,1,none⟩=some (.slice m.sr.A m.sr.n m.sr.c):=H1.out.drew.pk.cell 1;have g2:(W.alloc (.cells #[.int .i64 0,.string ⟨#[]⟩,.int .i64 0,.int .i64 0] 153)).drew.cell? ⟨pb,2,none⟩=some (.slice m.st.A m.st.n m.st.c):=H1.out.drew.pk.cell 2;have g3:(W.alloc (.cells #[.int .i64 0,.string ⟨#[]⟩,.int .i64 0,.int .i64 0] 153)).drew.cell? ⟨pb,3,none⟩=some (.slice m.sx.A m.sx.n m.sx.c):=H1.out.drew.pk.cell 3;have g4:(W.alloc (.cells #[.int .i64 0,.string ⟨#[]⟩,.int .i64 0,.int .i64 0] 153)).drew.cell? ⟨pb,4,none⟩=some (.slice (some ⟨bb,off,none⟩) n c):=H1.out.drew.pk.cell 4;have g5:(W.alloc (.cells #[.int .i64 0,.string ⟨#[]⟩,.int .i64 0,.int .i64 0] 153)).drew.cell? ⟨pb,5,none⟩=some (.int .i64 (i:Int)):=H1.out.drew.pk.cell 5;have g6:(W.alloc (.cells #[.int .i64 0,.string ⟨#[]⟩,.int .i64 0,.int .i64 0] 153)).drew.cell? ⟨pb,6,none⟩=some (.bool false):=H1.out.drew.pk.cell 6;have g7:(W.alloc (.cells #[.int .i64 0,.string ⟨#[]⟩,.int .i64 0,.int .i64 0] 153)).drew.cell? ⟨pb,7,none⟩=some (.int .i64 st.1):=H1.out.drew.pk.cell 7;have g8:(W.alloc (.cells #[.int .i64 0,.string ⟨#[]⟩,.int .i64 0,.int .i64 0] 153)).drew.cell? ⟨pb,8,none⟩=some (.int .i64 st.2):=H1.out.drew.pk.cell 8;have gl:=H1.out.drew.pk.lt;have gf:=H1.out.drew.pk.frozen 6;have r0:((W.setCell ⟨pb,6,none⟩ (.bool true)).alloc (.cells #[.int .i64 0,.string ⟨#[]⟩,.int .i64 0,.int .i64 0] 153)).drew.cell? ⟨W.heap.size,0,none⟩=some (.int .i64 0):=HR1.out.cell 0;have r1:((W.setCell ⟨pb,6,none⟩ (.bool true)).alloc (.cells #[.int .i64 0,.string ⟨#[]⟩,.int .i64 0,.int .i64 0] 153)).drew.cell? ⟨W.heap.size,1,none⟩=some (.string ⟨#[]⟩):=HR1.out.cell 1;have r2:((W.setCell ⟨pb,6,none⟩ (.bool true)).alloc (.cells #[.int .i64 0,.string ⟨#[]⟩,.int .i64 0,.int .i64 0] 153)).drew.cell? ⟨W.heap.size,2,none⟩=some (.int .i64 0):=HR1.out.cell 2;have r3:((W.setCell ⟨pb,6,none⟩ (.bool true)).alloc (.cells #[.int .i64 0,.string ⟨#[]⟩,.int .i64 0,.int .i64 0] 153)).drew.cell? ⟨W.heap.size,3,none⟩=some (.int .i64 0):=HR1.out.cell 3;have rl:=HR1.out.lt;have rf0:=HR1.out.frozen 0;have rf1:=HR1.out.frozen 1;have rf2:=HR1.out.frozen 2;have rf3:=HR1.out.frozen 3;go_wp2;have HXQ:=iH HP1.out;have HXG:=iH HG1.out;have HXB:=HR1.out;clear HP1 HG1 HR1;generalize((W.setCell ⟨pb,6,none⟩ (.bool true)).alloc (.cells #[.int .i64 0,.string ⟨#[]⟩,.int .i64 0,.int .i64 0] 153)).drew=X at *;have xx0:=HXB.k0;have xx1:=HXB.k1;have xx2:=HXB.k2;have xx3:=HXB.k3;refine bodyPost_ret (v:=.agg #[.int .i64 0,.string ⟨#[]⟩,.int .i64 0,.int .i64 0]) (by simp[results,Tryz.results122,go_sem,xx0,xx1,xx2,xx3]) rfl ?_;exact⟨rfl,HXQ.out,HXG.out⟩
  ·have hni:n<=i:=by omega
   have hni2:¬ (i:Int)<n:=by omega
   clear h hlen hno hin;go_enter Tryz.func122,Tryz.ntmps122;go_wp2;refine wp_region_X (fun w'=>Bk w' pb 150 [.slice m.si.A m.si.n m.si.c,.slice m.sr.A m.sr.n m.sr.c,.slice m.st.A m.st.n m.st.c,.slice m.sx.A m.sx.n m.sx.c,.slice A n c,.int .i64 (i:Int),.bool false,.int .i64 st.1,.int .i64 st.2]) 50 (n:=50) rfl (by kernel_rfl) (H1.out.pk.drew) (fun hS=>?_);refine tU 0 (some 7) (v:=?_) rfl ⟨rfl,?_⟩ hS ?_;rotate_left
   ·intro w' hS';(go_simp;try with_reducible rfl)
   simp only[Act.put,Pa,Pb,Pc];refine tU 1 (some 8) (v:=?_) rfl ⟨rfl,?_⟩ hS ?_;rotate_left
   ·intro w' hS';(go_simp;try with_reducible rfl)
   simp only[Act.put,Pa,Pb,Pc];refine tU 2 (some 9) (v:=?_) rfl ⟨rfl,?_⟩ hS ?_;rotate_left
   ·intro w' hS';(go_simp;try with_reducible rfl)
   simp only[Act.put,Pa,Pb,Pc];refine tU 3 (some 10) (v:=?_) rfl ⟨rfl,?_⟩ hS ?_;rotate_left
   ·intro w' hS';have e0:=hS'.k0;have e1:=hS'.k1;have e2:=hS'.k2;have e3:=hS'.k3;have e4:=hS'.k4;have e5:=hS'.k5;have e6:=hS'.k6;have e7:=hS'.k7;have e8:=hS'.k8;have el:=hS'.lt;(go_simp;try with_reducible rfl)
   simp only[Act.put,Pa,Pb,Pc];refine tU 4 (some 11) (v:=?_) rfl ⟨rfl,?_⟩ hS ?_;rotate_left
   ·intro w' hS';(go_simp;try with_reducible rfl)
   simp only[Act.put,Pa,Pb,Pc];refine tU 5 (some 12) (v:=?_) rfl ⟨rfl,?_⟩ hS ?_;rotate_left
   ·intro w' hS';(go_simp;try with_reducible rfl)
   simp only[Act.put,Pa,Pb,Pc];refine tU 6 (some 13) (v:=?_) rfl ⟨rfl,?_⟩ hS ?_;rotate_left
   ·intro w' hS';(go_simp;try with_reducible rfl)
   simp only[Act.put,Pa,Pb,Pc];refine tU 7 (some 14) (v:=?_) rfl ⟨rfl,?_⟩ hS ?_;rotate_left
   ·intro w' hS';(go_simp;try with_reducible rfl)
   simp only[Act.put,Pa,Pb,Pc];refine tU 8 (some 15) (v:=?_) rfl ⟨rfl,?_⟩ hS ?_;rotate_left
   ·intro w' hS';have e0:=hS'.k0;have e1:=hS'.k1;have e2:=hS'.k2;have e3:=hS'.k3;have e4:=hS'.k4;have e5:=hS'.k5;have e6:=hS'.k6;have e7:=hS'.k7;have e8:=hS'.k8;have el:=hS'.lt;(go_simp;try with_reducible rfl)
   simp only[Act.put,Pa,Pb,Pc];refine tU 9 (some 16) (v:=?_) rfl ⟨rfl,?_⟩ hS ?_;rotate_left
   ·intro w' hS';(go_simp;try with_reducible rfl)
   simp only[Act.put,Pa,Pb,Pc];refine tU 10 (some 17) (v:=?_) rfl ⟨rfl,?_⟩ hS ?_;rotate_left
   ·intro w' hS';(go_simp;try with_reducible rfl)
   simp only[Act.put,Pa,Pb,Pc];refine tU 11 (some 18) (v:=?_) rfl ⟨rfl,?_⟩ hS ?_;rotate_left
   ·intro w' hS';(go_simp;try with_reducible rfl)
   simp only[Act.put,Pa,Pb,Pc];refine tU 12 (some 19) (v:=?_) rfl ⟨rfl,?_⟩ hS ?_;rotate_left
   ·intro w' hS';have e0:=hS'.k0;have e1:=hS'.k1;have e2:=hS'.k2;have e3:=hS'.k3;have e4:=hS'.k4;have e5:=hS'.k5;have e6:=hS'.k6;have e7:=hS'.k7;have e8:=hS'.k8;have el:=hS'.lt;(go_simp;try with_reducible rfl)
   simp only[Act.put,Pa,Pb,Pc];refine tU 13 (some 20) (v:=?_) rfl ⟨rfl,?_⟩ hS ?_;rotate_left
   ·intro w' hS';(go_simp;try with_reducible rfl)
   simp only[Act.put,Pa,Pb,Pc];refine tU 14 (some 21) (v:=?_) rfl ⟨rfl,?_⟩ hS ?_;rotate_left
   ·intro w' hS';(go_simp;try with_reducible rfl)
   simp only[Act.put,Pa,Pb,Pc];refine tU 15 (some 22) (v:=?_) rfl ⟨rfl,?_⟩ hS ?_;rotate_left
   ·intro w' hS';(go_simp;try with_reducible rfl)
   simp only[Act.put,Pa,Pb,Pc];refine tU 16 (some 23) (v:=?_) rfl ⟨rfl,?_⟩ hS ?_;rotate_left
   ·intro w' hS';(go_simp;try with_reducible rfl)
   simp only[Act.put,Pa,Pb,Pc];refine X_skipU 17 (some 24) (listed':=#[true,true,true,true,true,true,true,true,true,true,true,true,true,true,true,true,true,true,false,false,false,false,false,false,false,false,false,false,false,false,false,false,false,false,false,false,false,false,false,false,false,false,false,false,false,false,false,false,false,false]) rfl rfl rfl (by kernel_rfl) rfl (fun _ _ _ h=>h) rfl hS ?_;simp only[Act.put,Pa,Pb,Pc];refine X_skipU 18 (some 25) (listed':=#[true,true,true,true,true,true,true,true,true,true,true,true,true,true,true,true,true,true,true,false,false,false,false,false,false,false,false,false,false,false,false,false,false,false,false,false,false,false,false,false,false,false,false,false,false,false,false,false,false,false]) rfl rfl rfl (by kernel_rfl) rfl (fun _ _ _ h=>h) rfl hS ?_;simp only[Act.put,Pa,Pb,Pc];refine X_skipU 19 (some 26) (listed':=#[true,true,true,true,true,true,true,true,true,true,true,true,true,true,true,true,true,true,true,true,false,false,false,false,false,false,false,false,false,false,false,false,false,false,false,false,false,false,false,false,false,false,false,false,false,false,false,false,false,false]) rfl rfl rfl (by kernel_rfl) rfl (fun _ _ _ h=>h) rfl hS ?_;simp only[Act.put,Pa,Pb,Pc];refine X_skipU 20 (some 27) (listed':=#[true,true,true,true,true,true,true,true,true,true,true,true,true,true,true,true,true,true,true,true,true,false,false,false,false,false,false,false,false,false,false,false,false,false,false,false,false,false,false,false,false,false,false,false,false,false,false,false,false,false]) rfl rfl rfl (by kernel_rfl) rfl (fun _ _ _ h=>h) rfl hS ?_;simp only[Act.put,Pa,Pb,Pc];refine X_skipU 21 (some 28) (listed':=#[true,true,true,true,true,true,true,true,true,true,true,true,true,true,true,true,true,true,true,true,true,true,false,false,false,false,false,false,false,false,false,false,false,false,false,false,false,false,false,false,false,false,false,false,false,false,false,false,false,false]) rfl rfl rfl (by kernel_rfl) rfl (fun _ _ _ h=>h) rfl hS ?_;simp only[Act.put,Pa,Pb,Pc];refine X_skipU 22 (some 29) (listed':=#[true,true,true,true,true,true,true,true,true,true,true,true,true,true,true,true,true,true,true,true,true,true,true,false,false,false,false,false,false,false,false,false,false,false,false,false,false,false,false,false,false,false,false,false,false,false,false,false,false,false]) rfl rfl rfl (by kernel_rfl) rfl (fun _ _ _ h=>h) rfl hS ?_;simp only[Act.put,Pa,Pb,Pc];refine X_skipU 23 (some 30) (listed':=#[true,true,true,true,true,true,true,true,true,true,true,true,true,true,true,true,true,true,true,true,true,true,true,true,false,false,false,false,false,false,false,false,false,false,false,false,false,false,false,false,false,false,false,false,false,false,false,false,false,false]) rfl rfl rfl (by kernel_rfl) rfl (fun _ _ _ h=>h) rfl hS ?_;simp only[Act.put,Pa,Pb,Pc];refine X_skipU 24 (some 31) (listed':=#[true,true,true,true,true,true,true,true,true,true,true,true,true,true,true,true,true,true,true,true,true,true,true,true,true,false,false,false,false,false,false,false,false,false,false,false,false,false,false,false,false,false,false,false,false,false,false,false,false,false]) rfl rfl rfl (by kernel_rfl) rfl (fun _ _ _ h=>h) rfl hS ?_;simp only[Act.put,Pa,Pb,Pc];refine X_skipU 25 (some 32) (listed':=#[true,true,true,true,true,true,true,true,true,true,true,true,true,true,true,true,true,true,true,true,true,true,true,true,true,true,false,false,false,false,false,false,false,false,false,false,false,false,false,false,false,false,false,false,false,false,false,false,false,false]) rfl rfl rfl (by kernel_rfl) rfl (fun _ _ _ h=>h) rfl hS ?_;simp only[Act.put,Pa,Pb,Pc];refine X_skipU 26 (some 33) (listed':=#[true,true,true,true,true,true,true,true,true,true,true,true,true,true,true,true,true,true,true,true,true,true,true,true,true,true,true,false,false,false,false,false,false,false,false,false,false,false,false,false,false,false,false,false,false,false,false,false,false,false]) rfl rfl rfl (by kernel_rfl) rfl (fun _ _ _ h=>h) rfl hS ?_;simp only[Act.put,Pa,Pb,Pc];refine X_skipU 27 (some 34) (listed':=#[true,true,true,true,true,true,true,true,true,true,true,true,true,true,true,true,true,true,true,true,true,true,true,true,true,true,true,true,false,false,false,false,false,false,false,false,false,false,false,false,false,false,false,false,false,false,false,false,false,false]) rfl rfl rfl (by kernel_rfl) rfl (fun _ _ _ h=>h) rfl hS ?_;simp only[Act.put,Pa,Pb,Pc];refine X_skipU 28 (some 35) (listed':=#[true,true,true,true,true,true,true,true,true,true,true,true,true,true,true,true,true,true,true,true,true,true,true,true,true,true,true,true,true,false,false,false,false,false,false,false,false,false,false,false,false,false,false,false,false,false,false,false,false,false]) rfl rfl rfl (by kernel_rfl) rfl (fun _ _ _ h=>h) rfl hS ?_;simp only[Act.put,Pa,Pb,Pc];refine X_skipU 29 (some 36) (listed':=#[true,true,true,true,true,true,true,true,true,true,true,true,true,true,true,true,true,true,true,true,true,true,true,true,true,true,true,true,true,true,false,false,false,false,false,false,false,false,false,false,false,false,false,false,false,false,false,false,false,false]) rfl rfl rfl (by kernel_rfl) rfl (fun _ _ _ h=>h) rfl hS ?_;simp only[Act.put,Pa,Pb,Pc];refine tU 30 (some 37) (v:=?_) rfl ⟨rfl,?_⟩ hS ?_;rotate_left
   ·intro w' hS';(go_simp;try with_reducible rfl)
   simp only[Act.put,Pa,Pb,Pc];refine tU 31 (some 38) (v:=?_) rfl ⟨rfl,?_⟩ hS ?_;rotate_left
   ·intro w' hS';(go_simp;try with_reducible rfl)
   simp only[Act.put,Pa,Pb,Pc];refine X_skipU 32 (some 39) (listed':=#[true,true,true,true,true,true,true,true,true,true,true,true,true,true,true,true,true,true,true,true,true,true,true,true,true,true,true,true,true,true,true,true,true,false,false,false,false,false,false,false,false,false,false,false,false,false,false,false,false,false]) rfl rfl rfl (by kernel_rfl) rfl (fun _ _ _ h=>h) rfl hS ?_;simp only[Act.put,Pa,Pb,Pc];refine X_skipU 33 (some 40) (listed':=#[true,true,true,true,true,true,true,true,true,true,true,true,true,true,true,true,true,true,true,true,true,true,true,true,true,true,true,true,true,true,true,true,true,true,false,false,false,false,false,false,false,false,false,false,false,false,false,false,false,false]) rfl rfl rfl (by kernel_rfl) rfl (fun _ _ _ h=>h) rfl hS ?_;simp only[Act.put,Pa,Pb,Pc];refine X_skipU 34 (some 41) (listed':=#[true,true,true,true,true,true,true,true,true,true,true,true,true,true,true,true,true,true,true,true,true,true,true,true,true,true,true,true,true,true,true,true,true,true,true,false,false,false,false,false,false,false,false,false,false,false,false,false,false,false]) rfl rfl rfl (by kernel_rfl) rfl (fun _ _ _ h=>h) rfl hS ?_;simp only[Act.put,Pa,Pb,Pc];refine X_skipU 35 (some 42) (listed':=#[true,true,true,true,true,true,true,true,true,true,true,true,true,true,true,true,true,true,true,true,true,true,true,true,true,true,true,true,true,true,true,true,true,true,true,true,false,false,false,false,false,false,false,false,false,false,false,false,false,false]) rfl rfl rfl (by kernel_rfl) rfl (fun _ _ _ h=>h) rfl hS ?_;simp only[Act.put,Pa,Pb,Pc];refine X_skipU 36 (some 43) (listed':=#[true,true,true,true,true,true,true,true,true,true,true,true,true,true,true,true,true,true,true,true,true,true,true,true,true,true,true,true,true,true,true,true,true,true,true,true,true,false,false,false,false,false,false,false,false,false,false,false,false,false]) rfl rfl rfl (by kernel_rfl) rfl (fun _ _ _ h=>h) rfl hS ?_;simp only[Act.put,Pa,Pb,Pc];refine X_skipU 37 (some 44) (listed':=#[true,true,true,true,true,true,true,true,true,true,true,true,true,true,true,true,true,true,true,true,true,true,true,true,true,true,true,true,true,true,true,true,true,true,true,true,true,true,false,false,false,false,false,false,false,false,false,false,false,false]) rfl rfl rfl (by kernel_rfl) rfl (fun _ _ _ h=>h) rfl hS ?_;simp only[Act.put,Pa,Pb,Pc];refine X_skipU 38 (some 45) (listed':=#[true,true,true,true,true,true,true,true,true,true,true,true,true,true,true,true,true,true,true,true,true,true,true,true,true,true,true,true,true,true,true,true,true,true,true,true,true,true,true,false,false,false,false,false,false,false,false,false,false,false]) rfl rfl rfl (by kernel_rfl) rfl (fun _ _ _ h=>h) rfl hS ?_;simp only[Act.put,Pa,Pb,Pc];refine X_skipU 39 (some 46) (listed':=#[true,true,true,true,true,true,true,true,true,true,true,true,true,true,true,true,true,true,true,true,true,true,true,true,true,true,true,true,true,true,true,true,true,true,true,true,true,true,true,true,false,false,false,false,false,false,false,false,false,false]) rfl rfl rfl (by kernel_rfl) rfl (fun _ _ _ h=>h) rfl hS ?_;simp only[Act.put,Pa,Pb,Pc];refine X_skipU 40 (some 47) (listed':=#[true,true,true,true,true,true,true,true,true,true,true,true,true,true,true,true,true,true,true,true,true,true,true,true,true,true,true,true,true,true,true,true,true,true,true,true,true,true,true,true,true,false,false,false,false,false,false,false,false,false]) rfl rfl rfl (by kernel_rfl) rfl (fun _ _ _ h=>h) rfl hS ?_;simp only[Act.put,Pa,Pb,Pc];refine X_skipU 41 (some 48) (listed':=#[true,true,true,true,true,true,true,true,true,true,true,true,true,true,true,true,true,true,true,true,true,true,true,true,true,true,true,true,true,true,true,true,true,true,true,true,true,true,true,true,true,true,false,false,false,false,false,false,false,false]) rfl rfl rfl (by kernel_rfl) rfl (fun _ _ _ h=>h) rfl hS ?_;simp only[Act.put,Pa,Pb,Pc];refine X_skipU 42 (some 49) (listed':=#[true,true,true,true,true,true,true,true,true,true,true,true,true,true,true,true,true,true,true,true,true,true,true,true,true,true,true,true,true,true,true,true,true,true,true,true,true,true,true,true,true,true,true,false,false,false,false,false,false,false]) rfl rfl rfl (by kernel_rfl) rfl (fun _ _ _ h=>h) rfl hS ?_;simp only[Act.put,Pa,Pb,Pc];refine X_skipU 43 (some 50) (listed':=#[true,true,true,true,true,true,true,true,true,true,true,true,true,true,true,true,true,true,true,true,true,true,true,true,true,true,true,true,true,true,true,true,true,true,true,true,true,true,true,true,true,true,true,true,false,false,false,false,false,false]) rfl rfl rfl (by kernel_rfl) rfl (fun _ _ _ h=>h) rfl hS ?_;simp only[Act.put,Pa,Pb,Pc];refine X_skipU 44 (some 51) (listed':=#[true,true,true,true,true,true,true,true,true,true,true,true,true,true,true,true,true,true,true,true,true,true,true,true,true,true,true,true,true,true,true,true,true,true,true,true,true,true,true,true,true,true,true,true,true,false,false,false,false,false]) rfl rfl rfl (by kernel_rfl) rfl (fun _ _ _ h=>h) rfl hS ?_;simp only[Act.put,Pa,Pb,Pc];refine X_skipU 45 (some 52) (listed':=#[true,true,true,true,true,true,true,true,true,true,true,true,true,true,true,true,true,true,true,true,true,true,true,true,true,true,true,true,true,true,true,true,true,true,true,true,true,true,true,true,true,true,true,true,true,true,false,false,false,false]) rfl rfl rfl (by kernel_rfl) rfl (fun _ _ _ h=>h) rfl hS ?_;simp only[Act.put,Pa,Pb,Pc];refine X_skipU 46 (some 53) (listed':=#[true,true,true,true,true,true,true,true,true,true,true,true,true,true,true,true,true,true,true,true,true,true,true,true,true,true,true,true,true,true,true,true,true,true,true,true,true,true,true,true,true,true,true,true,true,true,true,false,false,false]) rfl rfl rfl (by kernel_rfl) rfl (fun _ _ _ h=>h) rfl hS ?_;simp only[Act.put,Pa,Pb,Pc];refine X_skipU 47 (some 54) (listed':=#[true,true,true,true,true,true,true,true,true,true,true,true,true,true,true,true,true,true,true,true,true,true,true,true,true,true,true,true,true,true,true,true,true,true,true,true,true,true,true,true,true,true,true,true,true,true,true,true,false,false]) rfl rfl rfl (by kernel_rfl) rfl (fun _ _ _ h=>h) rfl hS ?_;simp only[Act.put,Pa,Pb,Pc];refine X_skipU 48 (some 55) (listed':=#[true,true,true,true,true,true,true,true,true,true,true,true,true,true,true,true,true,true,true,true,true,true,true,true,true,true,true,true,true,true,true,true,true,true,true,true,true,true,true,true,true,true,true,true,true,true,true,true,true,false]) rfl rfl rfl (by kernel_rfl) rfl (fun _ _ _ h=>h) rfl hS ?_;simp only[Act.put,Pa,Pb,Pc];refine tU 49 (some 56) (v:=?_) rfl ⟨rfl,?_⟩ hS ?_;rotate_left
   ·intro w' hS';(go_simp;try with_reducible rfl)
   simp only[Act.put,Pa,Pb,Pc];refine X_done (by kernel_rfl) ?_;clear hS;have HV:=iH (H.out.set (k:=6) (u:=.bool true) (i':=i) (bad':=true) (st':=st) rfl (by omega));have hsz:(W.setCell ⟨pb,6,none⟩ (.bool true)).heap.size=W.heap.size:=by simp
   have yv:Below (W.setCell ⟨pb,6,none⟩ (.bool true)).heap.size (W.setCell ⟨pb,6,none⟩ (.bool true)) ((W.setCell ⟨pb,6,none⟩ (.bool true)).alloc (.cells #[.int .i64 0,.string ⟨#[]⟩,.int .i64 0,.int .i64 0] 153)).drew:=((Below.refl _ _).alloc (Nat.le_refl _) _).drew;have HP1:=iH (HV.out.below yv);have HR1:Hid (Bk ((W.setCell ⟨pb,6,none⟩ (.bool true)).alloc (.cells #[.int .i64 0,.string ⟨#[]⟩,.int .i64 0,.int .i64 0] 153)).drew W.heap.size 153 [.int .i64 0,.string ⟨#[]⟩,.int .i64 0,.int .i64 0]):=by
    have:=(Bk.new (W.setCell ⟨pb,6,none⟩ (.bool true)) 153 [.int .i64 0,.string ⟨#[]⟩,.int .i64 0,.int .i64 0]).drew;rw[hsz]at this;exact iH this
   have HG1:Hid (W.grownBy ((W.setCell ⟨pb,6,none⟩ (.bool true)).alloc (.cells #[.int .i64 0,.string ⟨#[]⟩,.int .i64 0,.int .i64 0] 153)).drew (some pb)):=iH (grown_trans (grown_setCell W pb 6 _) (grown_of_below yv _));clear yv hsz;have g0:(W.alloc (.cells #[.int .i64 0,.string ⟨#[]⟩,.int .i64 0,.int .i64 0] 153)).drew.cell? ⟨pb,0,none⟩=some (.slice m.si.A m.si.n m.si.c):=H1.out.drew.pk.cell 0;have g1:(W.alloc (.cells #[.int .i64 0,.string ⟨#[]⟩,.int .i64 0,.int .i64 0] 153)).drew.cell? ⟨pb,1,none⟩=some (.slice m.sr.A m.sr.n m.sr.c):=H1.out.drew.pk.cell 1;have g2:(W.alloc (.cells #[.int .i64 0,.string ⟨#[]⟩,.int .i64 0,.int .i64 0] 153)).drew.cell? ⟨pb,2,none⟩=some (.slice m.st.A m.st.n m.st.c):=H1.out.drew.pk.cell 2;have g3:(W.alloc (.cells #[.int .i64 0,.string ⟨#[]⟩,.int .i64 0,.int .i64 0] 153)).drew.cell? ⟨pb,3,none⟩=some (.slice m.sx.A m.sx.n m.sx.c):=H1.out.drew.pk.cell 3;have g4:(W.alloc (.cells #[.int .i64 0,.string ⟨#[]⟩,.int .i64 0,.int .i64 0] 153)).drew.cell? ⟨pb,4,none⟩=some (.slice A n c):=H1.out.drew.pk.cell 4;have g5:(W.alloc (.cells #[.int .i64 0,.string ⟨#[]⟩,.int .i64 0,.int .i64 0] 153)).drew.cell? ⟨pb,5,none⟩=some (.int .i64 (i:Int)):=H1.out.drew.pk.cell 5;have g6:(W.alloc (.cells #[.int .i64 0,.string ⟨#[]⟩,.int .i64 0,.int .i64 0] 153)).drew.cell? ⟨pb,6,none⟩=some (.bool false):=H1.out.drew.pk.cell 6;have g7:(W.alloc (.cells #[.int .i64 0,.string ⟨#[]⟩,.int .i64 0,.int .i64 0] 153)).drew.cell? ⟨pb,7,none⟩=some (.int .i64 st.1):=H1.out.drew.pk.cell 7;have g8:(W.alloc (.cells #[.int .i64 0,.string ⟨#[]⟩,.int .i64 0,.int .i64 0] 153)).drew.cell? ⟨pb,8,none⟩=some (.int .i64 st.2):=H1.out.drew.pk.cell 8;have gl:=H1.out.drew.pk.lt;have gf:=H1.out.drew.pk.frozen 6;have r0:((W.setCell ⟨pb,6,none⟩ (.bool true)).alloc (.cells #[.int .i64 0,.string ⟨#[]⟩,.int .i64 0,.int .i64 0] 153)).drew.cell? ⟨W.heap.size,0,none⟩=some (.int .i64 0):=HR1.out.cell 0;have r1:((W.setCell ⟨pb,6,none⟩ (.bool true)).alloc (.cells #[.int .i64 0,.string ⟨#[]⟩,.int .i64 0,.int .i64 0] 153)).drew.cell? ⟨W.heap.size,1,none⟩=some (.string ⟨#[]⟩):=HR1.out.cell 1;have r2:((W.setCell ⟨pb,6,none⟩ (.bool true)).alloc (.cells #[.int .i64 0,.string ⟨#[]⟩,.int .i64 0,.int .i64 0] 153)).drew.cell? ⟨W.heap.size,2,none⟩=some (.int .i64 0):=HR1.out.cell 2;have r3:((W.setCell ⟨pb,6,none⟩ (.bool true)).alloc (.cells #[.int .i64 0,.string ⟨#[]⟩,.int .i64 0,.int .i64 0] 153)).drew.cell? ⟨W.heap.size,3,none⟩=some (.int .i64 0):=HR1.out.cell 3;have rl:=HR1.out.lt;have rf0:=HR1.out.frozen 0;have rf1:=HR1.out.frozen 1;have rf2:=HR1.out.frozen 2;have rf3:=HR1.out.frozen 3;go_wp2;have HXQ:=iH HP1.out;have HXG:=iH HG1.out;have HXB:=HR1.out;clear HP1 HG1 HR1;generalize((W.setCell ⟨pb,6,none⟩ (.bool true)).alloc (.cells #[.int .i64 0,.string ⟨#[]⟩,.int .i64 0,.int .i64 0] 153)).drew=X at *;have xx0:=HXB.k0;have xx1:=HXB.k1;have xx2:=HXB.k2;have xx3:=HXB.k3;refine bodyPost_ret (v:=.agg #[.int .i64 0,.string ⟨#[]⟩,.int .i64 0,.int .i64 0]) (by simp[results,Tryz.results122,go_sem,xx0,xx1,xx2,xx3]) rfl ?_;exact⟨rfl,HXQ.out,HXG.out⟩
 ·clear h hlen hno;go_enter Tryz.func122,Tryz.ntmps122;go_wp2;refine wp_region_X (fun w'=>Bk w' pb 150 [.slice m.si.A m.si.n m.si.c,.slice m.sr.A m.sr.n m.sr.c,.slice m.st.A m.st.n m.st.c,.slice m.sx.A m.sx.n m.sx.c,.slice A n c,.int .i64 (i:Int),.bool true,.int .i64 st.1,.int .i64 st.2]) 50 (n:=50) rfl (by kernel_rfl) (H1.out.pk.drew) (fun hS=>?_);refine tU 0 (some 7) (v:=?_) rfl ⟨rfl,?_⟩ hS ?_;rotate_left
  ·intro w' hS';(go_simp;try with_reducible rfl)
  simp only[Act.put,Pa,Pb,Pc];refine tU 1 (some 8) (v:=?_) rfl ⟨rfl,?_⟩ hS ?_;rotate_left
  ·intro w' hS';(go_simp;try with_reducible rfl)
  simp only[Act.put,Pa,Pb,Pc];refine tU 2 (some 9) (v:=?_) rfl ⟨rfl,?_⟩ hS ?_;rotate_left
  ·intro w' hS';(go_simp;try with_reducible rfl)
  simp only[Act.put,Pa,Pb,Pc];refine tU 3 (some 10) (v:=?_) rfl ⟨rfl,?_⟩ hS ?_;rotate_left
  ·intro w' hS';have e0:=hS'.k0;have e1:=hS'.k1;have e2:=hS'.k2;have e3:=hS'.k3;have e4:=hS'.k4;have e5:=hS'.k5;have e6:=hS'.k6;have e7:=hS'.k7;have e8:=hS'.k8;have el:=hS'.lt;(go_simp;try with_reducible rfl)
  simp only[Act.put,Pa,Pb,Pc];refine tU 4 (some 11) (v:=?_) rfl ⟨rfl,?_⟩ hS ?_;rotate_left
  ·intro w' hS';(go_simp;try with_reducible rfl)
  simp only[Act.put,Pa,Pb,Pc];refine X_skipU 5 (some 12) (listed':=#[true,true,true,true,true,true,false,false,false,false,false,false,false,false,false,false,false,false,false,false,false,false,false,false,false,false,false,false,false,false,false,false,false,false,false,false,false,false,false,false,false,false,false,false,false,false,false,false,false,false]) rfl rfl rfl (by kernel_rfl) rfl (fun _ _ _ h=>h) rfl hS ?_;simp only[Act.put,Pa,Pb,Pc];refine X_skipU 6 (some 13) (listed':=#[true,true,true,true,true,true,true,false,false,false,false,false,false,false,false,false,false,false,false,false,false,false,false,false,false,false,false,false,false,false,false,false,false,false,false,false,false,false,false,false,false,false,false,false,false,false,false,false,false,false]) rfl rfl rfl (by kernel_rfl) rfl (fun _ _ _ h=>h) rfl hS ?_;simp only[Act.put,Pa,Pb,Pc];refine X_skipU 7 (some 14) (listed':=#[true,true,true,true,true,true,true,true,false,false,false,false,false,false,false,false,false,false,false,false,false,false,false,false,false,false,false,false,false,false,false,false,false,false,false,false,false,false,false,false,false,false,false,false,false,false,false,false,false,false]) rfl rfl rfl (by kernel_rfl) rfl (fun _ _ _ h=>h) rfl hS ?_;simp only[Act.put,Pa,Pb,Pc];refine X_skipU 8 (some 15) (listed':=#[true,true,true,true,true,true,true,true,true,false,false,false,false,false,false,false,false,false,false,false,false,false,false,false,false,false,false,false,false,false,false,false,false,false,false,false,false,false,false,false,false,false,false,false,false,false,false,false,false,false]) rfl rfl rfl (by kernel_rfl) rfl (fun _ _ _ h=>h) rfl hS ?_;simp only[Act.put,Pa,Pb,Pc];refine X_skipU 9 (some 16) (listed':=#[true,true,true,true,true,true,true,true,true,true,false,false,false,false,false,false,false,false,false,false,false,false,false,false,false,false,false,false,false,false,false,false,false,false,false,false,false,false,false,false,false,false,false,false,false,false,false,false,false,false]) rfl rfl rfl (by kernel_rfl) rfl (fun _ _ _ h=>h) rfl hS ?_;simp only[Act.put,Pa,Pb,Pc];refine X_skipU 10 (some 17) (listed':=#[true,true,true,true,true,true,true,true,true,true,true,false,false,false,false,false,false,false,false,false,false,false,false,false,false,false,false,false,false,false,false,false,false,false,false,false,false,false,false,false,false,false,false,false,false,false,false,false,false,false]) rfl rfl rfl (by kernel_rfl) rfl (fun _ _ _ h=>h) rfl hS ?_;simp only[Act.put,Pa,Pb,Pc];refine X_skipU 11 (some 18) (listed':=#[true,true,true,true,true,true,true,true,true,true,true,true,false,false,false,false,false,false,false,false,false,false,false,false,false,false,false,false,false,false,false,false,false,false,false,false,false,false,false,false,false,false,false,false,false,false,false,false,false,false]) rfl rfl rfl (by kernel_rfl) rfl (fun _ _ _ h=>h) rfl hS ?_;simp only[Act.put,Pa,Pb,Pc];refine X_skipU 12 (some 19) (listed':=#[true,true,true,true,true,true,true,true,true,true,true,true,true,false,false,false,false,false,false,false,false,false,false,false,false,false,false,false,false,false,false,false,false,false,false,false,false,false,false,false,false,false,false,false,false,false,false,false,false,false]) rfl rfl rfl (by kernel_rfl) rfl (fun _ _ _ h=>h) rfl hS ?_;simp only[Act.put,Pa,Pb,Pc];refine X_skipU 13 (some 20) (listed':=#[true,true,true,true,true,true,true,true,true,true,true,true,true,true,false,false,false,false,false,false,false,false,false,false,false,false,false,false,false,false,false,false,false,false,false,false,false,false,false,false,false,false,false,false,false,false,false,false,false,false]) rfl rfl rfl (by kernel_rfl) rfl (fun _ _ _ h=>h) rfl hS ?_;simp only[Act.put,Pa,Pb,Pc];refine X_skipU 14 (some 21) (listed':=#[true,true,true,true,true,true,true,true,true,true,true,true,true,true,true,false,false,false,false,false,false,false,false,false,false,false,false,false,false,false,false,false,false,false,false,false,false,false,false,false,false,false,false,false,false,false,false,false,false,false]) rfl rfl rfl (by kernel_rfl) rfl (fun _ _ _ h=>h) rfl hS ?_;simp only[Act.put,Pa,Pb,Pc];refine tU 15 (some 22) (v:=?_) rfl ⟨rfl,?_⟩ hS ?_;rotate_left
  ·intro w' hS';(go_simp;try with_reducible rfl)
  simp only[Act.put,Pa,Pb,Pc];refine tU 16 (some 23) (v:=?_) rfl ⟨rfl,?_⟩ hS ?_;rotate_left
  ·intro w' hS';(go_simp;try with_reducible rfl)
  simp only[Act.put,Pa,Pb,Pc];refine X_skipU 17 (some 24) (listed':=#[true,true,true,true,true,true,true,true,true,true,true,true,true,true,true,true,true,true,false,false,false,false,false,false,false,false,false,false,false,false,false,false,false,false,false,false,false,false,false,false,false,false,false,false,false,false,false,false,false,false]) rfl rfl rfl (by kernel_rfl) rfl (fun _ _ _ h=>h) rfl hS ?_;simp only[Act.put,Pa,Pb,Pc];refine X_skipU 18 (some 25) (listed':=#[true,true,true,true,true,true,true,true,true,true,true,true,true,true,true,true,true,true,true,false,false,false,false,false,false,false,false,false,false,false,false,false,false,false,false,false,false,false,false,false,false,false,false,false,false,false,false,false,false,false]) rfl rfl rfl (by kernel_rfl) rfl (fun _ _ _ h=>h) rfl hS ?_;simp only[Act.put,Pa,Pb,Pc];refine X_skipU 19 (some 26) (listed':=#[true,true,true,true,true,true,true,true,true,true,true,true,true,true,true,true,true,true,true,true,false,false,false,false,false,false,false,false,false,false,false,false,false,false,false,false,false,false,false,false,false,false,false,false,false,false,false,false,false,false]) rfl rfl rfl (by kernel_rfl) rfl (fun _ _ _ h=>h) rfl hS ?_;simp only[Act.put,Pa,Pb,Pc];refine X_skipU 20 (some 27) (listed':=#[true,true,true,true,true,true,true,true,true,true,true,true,true,true,true,true,true,true,true,true,true,false,false,false,false,false,false,false,false,false,false,false,false,false,false,false,false,false,false,false,false,false,false,false,false,false,false,false,false,false]) rfl rfl rfl (by kernel_rfl) rfl (fun _ _ _ h=>h) rfl hS ?_;simp only[Act.put,Pa,Pb,Pc];refine X_skipU 21 (some 28) (listed':=#[true,true,true,true,true,true,true,true,true,true,true,true,true,true,true,true,true,true,true,true,true,true,false,false,false,false,false,false,false,false,false,false,false,false,false,false,false,false,false,false,false,false,false,false,false,false,false,false,false,false]) rfl rfl rfl (by kernel_rfl) rfl (fun _ _ _ h=>h) rfl hS ?_;simp only[Act.put,Pa,Pb,Pc];refine X_skipU 22 (some 29) (listed':=#[true,true,true,true,true,true,true,true,true,true,true,true,true,true,true,true,true,true,true,true,true,true,true,false,false,false,false,false,false,false,false,false,false,false,false,false,false,false,false,false,false,false,false,false,false,false,false,false,false,false]) rfl rfl rfl (by kernel_rfl) rfl (fun _ _ _ h=>h) rfl hS ?_;simp only[Act.put,Pa,Pb,Pc];refine X_skipU 23 (some 30) (listed':=#[true,true,true,true,true,true,true,true,true,true,true,true,true,true,true,true,true,true,true,true,true,true,true,true,false,false,false,false,false,false,false,false,false,false,false,false,false,false,false,false,false,false,false,false,false,false,false,false,false,false]) rfl rfl rfl (by kernel_rfl) rfl (fun _ _ _ h=>h) rfl hS ?_;simp only[Act.put,Pa,Pb,Pc];refine X_skipU 24 (some 31) (listed':=#[true,true,true,true,true,true,true,true,true,true,true,true,true,true,true,true,true,true,true,true,true,true,true,true,true,false,false,false,false,false,false,false,false,false,false,false,false,false,false,false,false,false,false,false,false,false,false,false,false,false]) rfl rfl rfl (by kernel_rfl) rfl (fun _ _ _ h=>h) rfl hS ?_;simp only[Act.put,Pa,Pb,Pc];refine X_skipU 25 (some 32) (listed':=#[true,true,true,true,true,true,true,true,true,true,true,true,true,true,true,true,true,true,true,true,true,true,true,true,true,true,false,false,false,false,false,false,false,false,false,false,false,false,false,false,false,false,false,false,false,false,false,false,false,false]) rfl rfl rfl (by kernel_rfl) rfl (fun _ _ _ h=>h) rfl hS ?_;simp only[Act.put,Pa,Pb,Pc];refine X_skipU 26 (some 33) (listed':=#[true,true,true,true,true,true,true,true,true,true,true,true,true,true,true,true,true,true,true,true,true,true,true,true,true,true,true,false,false,false,false,false,false,false,false,false,false,false,false,false,false,false,false,false,false,false,false,false,false,false]) rfl rfl rfl (by kernel_rfl) rfl (fun _ _ _ h=>h) rfl hS ?_;simp only[Act.put,Pa,Pb,Pc];refine X_skipU 27 (some 34) (listed':=#[true,true,true,true,true,true,true,true,true,true,true,true,true,true,true,true,true,true,true,true,true,true,true,true,true,true,true,true,false,false,false,false,false,false,false,false,false,false,false,false,false,false,false,false,false,false,false,false,false,false]) rfl rfl rfl (by kernel_rfl) rfl (fun _ _ _ h=>h) rfl hS ?_;simp only[Act.put,Pa,Pb,Pc];refine X_skipU 28 (some 35) (listed':=#[true,true,true,true,true,true,true,true,true,true,true,true,true,true,true,true,true,true,true,true,true,true,true,true,true,true,true,true,true,false,false,false,false,false,false,false,false,false,false,false,false,false,false,false,false,false,false,false,false,false]) rfl rfl rfl (by kernel_rfl) rfl (fun _ _ _ h=>h) rfl hS ?_;simp only[Act.put,Pa,Pb,Pc];refine X_skipU 29 (some 36) (listed':=#[true,true,true,true,true,true,true,true,true,true,true,true,true,true,true,true,true,true,true,true,true,true,true,true,true,true,true,true,true,true,false,false,false,false,false,false,false,false,false,false,false,false,false,false,false,false,false,false,false,false]) rfl rfl rfl (by kernel_rfl) rfl (fun _ _ _ h=>h) rfl hS ?_;simp only[Act.put,Pa,Pb,Pc];refine tU 30 (some 37) (v:=?_) rfl ⟨rfl,?_⟩ hS ?_;rotate_left
  ·intro w' hS';(go_simp;try with_reducible rfl)
  simp only[Act.put,Pa,Pb,Pc];refine tU 31 (some 38) (v:=?_) rfl ⟨rfl,?_⟩ hS ?_;rotate_left
  ·intro w' hS';(go_simp;try with_reducible rfl)
  simp only[Act.put,Pa,Pb,Pc];refine X_skipU 32 (some 39) (listed':=#[true,true,true,true,true,true,true,true,true,true,true,true,true,true,true,true,true,true,true,true,true,true,true,true,true,true,true,true,true,true,true,true,true,false,false,false,false,false,false,false,false,false,false,false,false,false,false,false,false,false]) rfl rfl rfl (by kernel_rfl) rfl (fun _ _ _ h=>h) rfl hS ?_;simp only[Act.put,Pa,Pb,Pc];refine X_skipU 33 (some 40) (listed':=#[true,true,true,true,true,true,true,true,true,true,true,true,true,true,true,true,true,true,true,true,true,true,true,true,true,true,true,true,true,true,true,true,true,true,false,false,false,false,false,false,false,false,false,false,false,false,false,false,false,false]) rfl rfl rfl (by kernel_rfl) rfl (fun _ _ _ h=>h) rfl hS ?_;simp only[Act.put,Pa,Pb,Pc];refine X_skipU 34 (some 41) (listed':=#[true,true,true,true,true,true,true,true,true,true,true,true,true,true,true,true,true,true,true,true,true,true,true,true,true,true,true,true,true,true,true,true,true,true,true,false,false,false,false,false,false,false,false,false,false,false,false,false,false,false]) rfl rfl rfl (by kernel_rfl) rfl (fun _ _ _ h=>h) rfl hS ?_;simp only[Act.put,Pa,Pb,Pc];refine X_skipU 35 (some 42) (listed':=#[true,true,true,true,true,true,true,true,true,true,true,true,true,true,true,true,true,true,true,true,true,true,true,true,true,true,true,true,true,true,true,true,true,true,true,true,false,false,false,false,false,false,false,false,false,false,false,false,false,false]) rfl rfl rfl (by kernel_rfl) rfl (fun _ _ _ h=>h) rfl hS ?_;simp only[Act.put,Pa,Pb,Pc];refine X_skipU 36 (some 43) (listed':=#[true,true,true,true,true,true,true,true,true,true,true,true,true,true,true,true,true,true,true,true,true,true,true,true,true,true,true,true,true,true,true,true,true,true,true,true,true,false,false,false,false,false,false,false,false,false,false,false,false,false]) rfl rfl rfl (by kernel_rfl) rfl (fun _ _ _ h=>h) rfl hS ?_;simp only[Act.put,Pa,Pb,Pc];refine X_skipU 37 (some 44) (listed':=#[true,true,true,true,true,true,true,true,true,true,true,true,true,true,true,true,true,true,true,true,true,true,true,true,true,true,true,true,true,true,true,true,true,true,true,true,true,true,false,false,false,false,false,false,false,false,false,false,false,false]) rfl rfl rfl (by kernel_rfl) rfl (fun _ _ _ h=>h) rfl hS ?_;simp only[Act.put,Pa,Pb,Pc];refine X_skipU 38 (some 45) (listed':=#[true,true,true,true,true,true,true,true,true,true,true,true,true,true,true,true,true,true,true,true,true,true,true,true,true,true,true,true,true,true,true,true,true,true,true,true,true,true,true,false,false,false,false,false,false,false,false,false,false,false]) rfl rfl rfl (by kernel_rfl) rfl (fun _ _ _ h=>h) rfl hS ?_;simp only[Act.put,Pa,Pb,Pc];refine X_skipU 39 (some 46) (listed':=#[true,true,true,true,true,true,true,true,true,true,true,true,true,true,true,true,true,true,true,true,true,true,true,true,true,true,true,true,true,true,true,true,true,true,true,true,true,true,true,true,false,false,false,false,false,false,false,false,false,false]) rfl rfl rfl (by kernel_rfl) rfl (fun _ _ _ h=>h) rfl hS ?_;simp only[Act.put,Pa,Pb,Pc];refine X_skipU 40 (some 47) (listed':=#[true,true,true,true,true,true,true,true,true,true,true,true,true,true,true,true,true,true,true,true,true,true,true,true,true,true,true,true,true,true,true,true,true,true,true,true,true,true,true,true,true,false,false,false,false,false,false,false,false,false]) rfl rfl rfl (by kernel_rfl) rfl (fun _ _ _ h=>h) rfl hS ?_;simp only[Act.put,Pa,Pb,Pc];refine X_skipU 41 (some 48) (listed':=#[true,true,true,true,true,true,true,true,true,true,true,true,true,true,true,true,true,true,true,true,true,true,true,true,true,true,true,true,true,true,true,true,true,true,true,true,true,true,true,true,true,true,false,false,false,false,false,false,false,false]) rfl rfl rfl (by kernel_rfl) rfl (fun _ _ _ h=>h) rfl hS ?_;simp only[Act.put,Pa,Pb,Pc];refine X_skipU 42 (some 49) (listed':=#[true,true,true,true,true,true,true,true,true,true,true,true,true,true,true,true,true,true,true,true,true,true,true,true,true,true,true,true,true,true,true,true,true,true,true,true,true,true,true,true,true,true,true,false,false,false,false,false,false,false]) rfl rfl rfl (by kernel_rfl) rfl (fun _ _ _ h=>h) rfl hS ?_;simp only[Act.put,Pa,Pb,Pc];refine X_skipU 43 (some 50) (listed':=#[true,true,true,true,true,true,true,true,true,true,true,true,true,true,true,true,true,true,true,true,true,true,true,true,true,true,true,true,true,true,true,true,true,true,true,true,true,true,true,true,true,true,true,true,false,false,false,false,false,false]) rfl rfl rfl (by kernel_rfl) rfl (fun _ _ _ h=>h) rfl hS ?_;simp only[Act.put,Pa,Pb,Pc];refine X_skipU 44 (some 51) (listed':=#[true,true,true,true,true,true,true,true,true,true,true,true,true,true,true,true,true,true,true,true,true,true,true,true,true,true,true,true,true,true,true,true,true,true,true,true,true,true,true,true,true,true,true,true,true,false,false,false,false,false]) rfl rfl rfl (by kernel_rfl) rfl (fun _ _ _ h=>h) rfl hS ?_;simp only[Act.put,Pa,Pb,Pc];refine X_skipU 45 (some 52) (listed':=#[true,true,true,true,true,true,true,true,true,true,true,true,true,true,true,true,true,true,true,true,true,true,true,true,true,true,true,true,true,true,true,true,true,true,true,true,true,true,true,true,true,true,true,true,true,true,false,false,false,false]) rfl rfl rfl (by kernel_rfl) rfl (fun _ _ _ h=>h) rfl hS ?_;simp only[Act.put,Pa,Pb,Pc];refine X_skipU 46 (some 53) (listed':=#[true,true,true,true,true,true,true,true,true,true,true,true,true,true,true,true,true,true,true,true,true,true,true,true,true,true,true,true,true,true,true,true,true,true,true,true,true,true,true,true,true,true,true,true,true,true,true,false,false,false]) rfl rfl rfl (by kernel_rfl) rfl (fun _ _ _ h=>h) rfl hS ?_;simp only[Act.put,Pa,Pb,Pc];refine X_skipU 47 (some 54) (listed':=#[true,true,true,true,true,true,true,true,true,true,true,true,true,true,true,true,true,true,true,true,true,true,true,true,true,true,true,true,true,true,true,true,true,true,true,true,true,true,true,true,true,true,true,true,true,true,true,true,false,false]) rfl rfl rfl (by kernel_rfl) rfl (fun _ _ _ h=>h) rfl hS ?_;simp only[Act.put,Pa,Pb,Pc];refine X_skipU 48 (some 55) (listed':=#[true,true,true,true,true,true,true,true,true,true,true,true,true,true,true,true,true,true,true,true,true,true,true,true,true,true,true,true,true,true,true,true,true,true,true,true,true,true,true,true,true,true,true,true,true,true,true,true,true,false]) rfl rfl rfl (by kernel_rfl) rfl (fun _ _ _ h=>h) rfl hS ?_;simp only[Act.put,Pa,Pb,Pc];refine tU 49 (some 56) (v:=?_) rfl ⟨rfl,?_⟩ hS ?_;rotate_left
  ·intro w' hS';(go_simp;try with_reducible rfl)
  simp only[Act.put,Pa,Pb,Pc];refine X_done (by kernel_rfl) ?_;clear hS;have HV:=iH (H.out.set (k:=6) (u:=.bool true) (i':=i) (bad':=true) (st':=st) rfl (by omega));have hsz:(W.setCell ⟨pb,6,none⟩ (.bool true)).heap.size=W.heap.size:=by simp
  have yv:Below (W.setCell ⟨pb,6,none⟩ (.bool true)).heap.size (W.setCell ⟨pb,6,none⟩ (.bool true)) ((W.setCell ⟨pb,6,none⟩ (.bool true)).alloc (.cells #[.int .i64 0,.string ⟨#[]⟩,.int .i64 0,.int .i64 0] 153)).drew:=((Below.refl _ _).alloc (Nat.le_refl _) _).drew;have HP1:=iH (HV.out.below yv);have HR1:Hid (Bk ((W.setCell ⟨pb,6,none⟩ (.bool true)).alloc (.cells #[.int .i64 0,.string ⟨#[]⟩,.int .i64 0,.int .i64 0] 153)).drew W.heap.size 153 [.int .i64 0,.string ⟨#[]⟩,.int .i64 0,.int .i64 0]):=by
   have:=(Bk.new (W.setCell ⟨pb,6,none⟩ (.bool true)) 153 [.int .i64 0,.string ⟨#[]⟩,.int .i64 0,.int .i64 0]).drew;rw[hsz]at this;exact iH this
  have HG1:Hid (W.grownBy ((W.setCell ⟨pb,6,none⟩ (.bool true)).alloc (.cells #[.int .i64 0,.string ⟨#[]⟩,.int .i64 0,.int .i64 0] 153)).drew (some pb)):=iH (grown_trans (grown_setCell W pb 6 _) (grown_of_below yv _));clear yv hsz;have g0:(W.alloc (.cells #[.int .i64 0,.string ⟨#[]⟩,.int .i64 0,.int .i64 0] 153)).drew.cell? ⟨pb,0,none⟩=some (.slice m.si.A m.si.n m.si.c):=H1.out.drew.pk.cell 0;have g1:(W.alloc (.cells #[.int .i64 0,.string ⟨#[]⟩,.int .i64 0,.int .i64 0] 153)).drew.cell? ⟨pb,1,none⟩=some (.slice m.sr.A m.sr.n m.sr.c):=H1.out.drew.pk.cell 1;have g2:(W.alloc (.cells #[.int .i64 0,.string ⟨#[]⟩,.int .i64 0,.int .i64 0] 153)).drew.cell? ⟨pb,2,none⟩=some (.slice m.st.A m.st.n m.st.c):=H1.out.drew.pk.cell 2;have g3:(W.alloc (.cells #[.int .i64 0,.string ⟨#[]⟩,.int .i64 0,.int .i64 0] 153)).drew.cell? ⟨pb,3,none⟩=some (.slice m.sx.A m.sx.n m.sx.c):=H1.out.drew.pk.cell 3;have g4:(W.alloc (.cells #[.int .i64 0,.string ⟨#[]⟩,.int .i64 0,.int .i64 0] 153)).drew.cell? ⟨pb,4,none⟩=some (.slice A n c):=H1.out.drew.pk.cell 4;have g5:(W.alloc (.cells #[.int .i64 0,.string ⟨#[]⟩,.int .i64 0,.int .i64 0] 153)).drew.cell? ⟨pb,5,none⟩=some (.int .i64 (i:Int)):=H1.out.drew.pk.cell 5;have g6:(W.alloc (.cells #[.int .i64 0,.string ⟨#[]⟩,.int .i64 0,.int .i64 0] 153)).drew.cell? ⟨pb,6,none⟩=some (.bool true):=H1.out.drew.pk.cell 6;have g7:(W.alloc (.cells #[.int .i64 0,.string ⟨#[]⟩,.int .i64 0,.int .i64 0] 153)).drew.cell? ⟨pb,7,none⟩=some (.int .i64 st.1):=H1.out.drew.pk.cell 7;have g8:(W.alloc (.cells #[.int .i64 0,.string ⟨#[]⟩,.int .i64 0,.int .i64 0] 153)).drew.cell? ⟨pb,8,none⟩=some (.int .i64 st.2):=H1.out.drew.pk.cell 8;have gl:=H1.out.drew.pk.lt;have gf:=H1.out.drew.pk.frozen 6;have r0:((W.setCell ⟨pb,6,none⟩ (.bool true)).alloc (.cells #[.int .i64 0,.string ⟨#[]⟩,.int .i64 0,.int .i64 0] 153)).drew.cell? ⟨W.heap.size,0,none⟩=some (.int .i64 0):=HR1.out.cell 0;have r1:((W.setCell ⟨pb,6,none⟩ (.bool true)).alloc (.cells #[.int .i64 0,.string ⟨#[]⟩,.int .i64 0,.int .i64 0] 153)).drew.cell? ⟨W.heap.size,1,none⟩=some (.string ⟨#[]⟩):=HR1.out.cell 1;have r2:((W.setCell ⟨pb,6,none⟩ (.bool true)).alloc (.cells #[.int .i64 0,.string ⟨#[]⟩,.int .i64 0,.int .i64 0] 153)).drew.cell? ⟨W.heap.size,2,none⟩=some (.int .i64 0):=HR1.out.cell 2;have r3:((W.setCell ⟨pb,6,none⟩ (.bool true)).alloc (.cells #[.int .i64 0,.string ⟨#[]⟩,.int .i64 0,.int .i64 0] 153)).drew.cell? ⟨W.heap.size,3,none⟩=some (.int .i64 0):=HR1.out.cell 3;have rl:=HR1.out.lt;have rf0:=HR1.out.frozen 0;have rf1:=HR1.out.frozen 1;have rf2:=HR1.out.frozen 2;have rf3:=HR1.out.frozen 3;go_wp2;have HXQ:=iH HP1.out;have HXG:=iH HG1.out;have HXB:=HR1.out;clear HP1 HG1 HR1;generalize((W.setCell ⟨pb,6,none⟩ (.bool true)).alloc (.cells #[.int .i64 0,.string ⟨#[]⟩,.int .i64 0,.int .i64 0] 153)).drew=X at *;have xx0:=HXB.k0;have xx1:=HXB.k1;have xx2:=HXB.k2;have xx3:=HXB.k3;refine bodyPost_ret (v:=.agg #[.int .i64 0,.string ⟨#[]⟩,.int .i64 0,.int .i64 0]) (by simp[results,Tryz.results122,go_sem,xx0,xx1,xx2,xx3]) rfl ?_;exact⟨rfl,HXQ.out,HXG.out⟩
end
end Go.Proofs.YtocodlpgaamblaaGreatDoor
