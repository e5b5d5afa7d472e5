/- The iterator of package lexer: which tokens it yields, for whatever the contracts of skip and next are. The contract of lexer.Tokens, for whatever the contracts of skip and next are. The contract of catalog.fits on short names that are words, or begin with a byte of no kind, or are empty. Items: their cells; the contracts of the tests of package catalog on an item, and of every on items. Maps with strings as keys; the contracts of differ on items and of version.names. -/
import Derived.Test.YtiecjoijnkghbaaGreatDoorY1
import Derived.RangeFuncNested
import Derived.RangeFuncBound
import Derived.RangeFuncCalls
import Derived.RangeFuncLeaves
import Derived.Shelf.Abstract
import Derived.Shelf.RegionOpen
import Derived.OwnWalkIn
import Derived.TacticsInMore
import Derived.LoopNIn
import Derived.LoopIn
import Derived.Maps.OwnIn
import Derived.Maps.Own
import Derived.Maps.OwnOps
import Derived.Maps.OwnSet
set_option linter.unusedVariables false
set_option linter.unusedSimpArgs false
set_option maxRecDepth 100000
set_option maxHeartbeats 2000000
open Go.RowKit
namespace Go.Proofs.YtiecjoijnkghbaaGreatDoor
section
open Go.Shelf
set_option linter.unusedVariables false
set_option linter.unusedSimpArgs false
section
attribute [local go_sem] Oper.semAt_some
structure Tok where
 kind:Int
 text:ByteArray
 num:Int
 at_:Int
 err:Int
def Tok.val (t:Tok):Value:=.agg #[.int .i64 t.kind,.string t.text,.int .i64 t.num,.int .i64 t.at_]
abbrev tokEncs (t:Tok):Array Value:=#[.agg #[.int .i64 t.kind,.string t.text,.int .i64 t.num,.int .i64 t.at_],.int .i64 t.err]
inductive Lx (S : Nat -> Nat) (N : Nat -> Tok) (size : Nat) : Nat -> List Tok -> Prop
 | done (p:Nat) (h:size<=p):Lx S N size p []
 | err (p:Nat) (h:p<size) (he:(N p).err≠0):Lx S N size p [N p]
 | step (p:Nat) (rest:List Tok) (h:p<size) (he:(N p).err=0) (hp:p<S (p+(N p).text.size)) (hr:Lx S N size (S (p+(N p).text.size)) rest):Lx S N size p (N p :: rest)
def SkipOk (s:ByteArray) (S:Nat->Nat):Prop:=∀(p:Nat) (w:World),p<=s.size->Tab w->Calls Tryz.prog 236 #[.string s,.int .i64 p] w fun e w'=>e=.returned (.int .i64 (S p))∧w=w'
def NextOk (s:ByteArray) (N:Nat->Tok):Prop:=∀(p:Nat) (w:World),p<s.size->Tab w->Calls Tryz.prog 237 #[.string s,.int .i64 p] w fun e w'=>e=.returned (.tuple #[(N p).val,.int .i64 (N p).err])∧Below w.heap.size w w'
def Gd (Bt:Nat) (W:World):Prop:=∃v,W.cell? ⟨Bt,0,none⟩=some v∧∀g,v.ownBlock=some g->g<W.heap.size
def Prot (Bt:Nat) (W:World) (g:Nat):Prop:=(∃cs t fr,W.heap[g]? = some (.cells cs t fr))∧g≠Bt∧∀v,W.cell? ⟨Bt,0,none⟩=some v->v.ownBlock≠some g
def KpT (n₀ n₁ Bt:Nat) (W W':World):Prop :=
 Below n₀ W W'∧(Gd Bt W->Gd Bt W'∧∀g,n₁<=g->Prot Bt W g->W'.heap[g]? = W.heap[g]? ∧ Prot Bt W' g)
theorem KpT.trans {n₀ n₁ Bt:Nat} {A B C:World} (h:KpT n₀ n₁ Bt A B) (k:KpT n₀ n₁ Bt B C):KpT n₀ n₁ Bt A C :=
 ⟨h.1.trans k.1,fun hG=>by
  obtain⟨g1,p1⟩:=h.2 hG
  obtain⟨g2,p2⟩:=k.2 g1
  exact⟨g2,fun g hg hp=>by
   obtain⟨e1,q1⟩:=p1 g hg hp
   obtain⟨e2,q2⟩:=p2 g hg q1
   exact⟨e2.trans e1,q2⟩⟩⟩
theorem Gd.lt {Bt:Nat} {W:World} (h:Gd Bt W):Bt<W.heap.size:=by
 obtain⟨v,hv,_⟩:=h;rcases Nat.lt_or_ge Bt W.heap.size with h|h
 ·exact h
 ·simp[World.cell?,Array.getElem?_eq_none h]at hv
theorem Gd.grow {Bt:Nat} {W W':World} (h:Gd Bt W) (hb:Below W.heap.size W W'):Gd Bt W':=by
 have hlt:=h.lt;obtain⟨v,hv,hg⟩:=h;exact⟨v,(hb.cell (p:=⟨Bt,0,none⟩) hlt).trans hv,fun g e=>Nat.lt_of_lt_of_le (hg g e) hb.size⟩
theorem KpT.grow {n₀ n₁ Bt:Nat} {W W':World} (hb:Below W.heap.size W W') (hn:n₀<=W.heap.size):KpT n₀ n₁ Bt W W' :=
 ⟨hb.mono hn,fun hG=>⟨hG.grow hb,fun g _ hp=>by
  obtain⟨⟨cs,t,fr,hc⟩,hne,hv⟩:=hp
  have hlt:g<W.heap.size:=(Array.getElem?_eq_some_iff.1 hc).1
  have he:=hb.block g hlt
  exact⟨he,⟨cs,t,fr,he.trans hc⟩,hne,fun v hv'=>hv v ((hb.cell (p:=⟨Bt,0,none⟩) hG.lt).symm.trans hv')⟩⟩⟩
theorem KpT.put {n₀ n₁ Bt N:Nat} (hn:n₀<=N) (hB:Bt<N) (W:World) (l:Nat) (o o':Obj) (hl:N<=l) (ho:W.heap[l]? = some o) (hc:o.isCells=false):KpT n₀ n₁ Bt W (W.putObj l o'):=by
 have hcell:(W.putObj l o').cell? ⟨Bt,0,none⟩=W.cell? ⟨Bt,0,none⟩:=World.cell?_of_block (World.putObj_heap_other (by show Bt≠l;omega));refine⟨⟨rfl,rfl,rfl,by simp,fun k hk=>World.putObj_heap_other (by omega)⟩,fun hG=>⟨?_,fun g _ hp=>?_⟩⟩
 ·obtain⟨v,hv,hg⟩:=hG;exact⟨v,hcell.trans hv,fun g e=>by simpa using hg g e⟩
 ·obtain⟨⟨cs,t,fr,hcs⟩,hne,hv⟩:=hp;have hgl:g≠l:=by
   rintro rfl;rw[ho]at hcs;cases hcs;cases hc
  have he:(W.putObj l o').heap[g]? = W.heap[g]?:=World.putObj_heap_other hgl;exact⟨he,⟨cs,t,fr,he.trans hcs⟩,hne,fun v hv'=>hv v (hcell.symm.trans hv')⟩
theorem Prot.new {Bt:Nat} {W:World} (h:Gd Bt W) (cs:Array Value) (t:TypeId):Prot Bt (W.alloc (.cells cs t)) W.heap.size:=by
 refine⟨⟨cs,t,(0,0),World.alloc_heap_new W _⟩,by have:=h.lt;omega,fun v hv e=>?_⟩;obtain⟨v0,hv0,hg⟩:=h;have hlt:Bt<W.heap.size:=Gd.lt ⟨v0,hv0,hg⟩;have:(W.alloc (.cells cs t)).cell? ⟨Bt,0,none⟩=W.cell? ⟨Bt,0,none⟩:=World.cell?_alloc_lt W _ _ hlt;rw[this,hv0]at hv;cases hv;have:=hg _ e;omega
theorem iter_in (s:ByteArray) (hs:s.size<=8192) (S:Nat->Nat) (N:Nat->Tok) (hS:SkipOk s S) (hN:NextOk s N) (hSle:∀p,S p<=s.size) (hNle:∀p,p<s.size->p+(N p).text.size<=s.size)
 (n:Nat) (l Bn n₀ n₁ Bt:Nat) (hBn:n₁<=Bn) (h3:4<=n₀) (xs:List Tok) (hx:Lx S N s.size (S 0) xs) (J Jx:List Tok->World->Prop) (B:Nat) (hJ:AbidesFrom B J)
 (hY:∀pre x W,J pre W->pre.length<xs.length->YieldAt Fence.wide (n-1) Tryz.prog l (tokEncs x) W fun e W' =>
  (e=.returned (.bool true)∧J (pre ++ [x]) W'∧KpT n₀ n₁ Bt W W')∨(e=.returned (.bool false)∧Jx (pre ++ [x]) W'))
 (W:World) (hn0:n₀<=W.heap.size) (hn1:n₁<=W.heap.size) (hG:Gd Bt W) (hPB:Prot Bt W Bn) (hT:Tab W) (hc:W.cell? ⟨Bn,0,none⟩=some (.string s)) (h0:J [] W) :
 CallsIn Fence.wide n Tryz.prog 235 #[.func (.yield l) #[] #[],.pointer (some ⟨Bn,0,none⟩)] W fun e W'=>(∃v,e=.returned v) ∧
  ((∃ys,ys=xs∧J ys W')∨(∃pre,pre <+: xs∧Jx pre W')):=by
 refine callsIn_of_wp Tryz.func235 rfl trivial ?_ rfl;simp only[Tryz.ntmps235,List.size_toArray,List.length_cons,List.length_nil,Nat.reduceAdd,Nat.reduceSub,Array.replicate_succ,Array.replicate_zero,List.push_toArray,List.append_toArray,List.nil_append,List.cons_append];have HS:=iH hS;have HN:=iH hN;have HY:=iH hY;have HT:=iH hT;clear hS hN hY hT
 gi_wp2_with fail
 refine⟨trivial,(fun h=>by cases h),(callsIn_wide.2 (HS.out 0 W (Nat.zero_le _) HT.out)).mono ?_⟩;rintro e w' ⟨rfl,rfl⟩
 gi_wp2_with fail
 gi_loopw [3] (fun p wr=>∃(pre rest:List Tok) (q:Nat),p=.int .i64 q∧q<=s.size∧xs=pre ++ rest∧Lx S N s.size q rest∧J pre wr∧Below n₀ W wr∧Gd Bt wr∧Prot Bt wr Bn∧wr.heap[Bn]? = W.heap[Bn]?)
  (fun p _=>s.size-(intOf p).toNat)
 case atStart=>exact⟨[],xs,S 0,rfl,hSle 0,rfl,hx,h0,Below.refl _ _,hG,hPB,rfl⟩
 case round =>
  obtain⟨pre,rest,q,rfl,hq,hxs,hl,hJs,hb,hGr,hPr,hsame⟩:=hrel;have Hxs:=iH hxs;clear hxs;have hcw:wr.cell? ⟨Bn,0,none⟩=some (.string s):=(World.cell?_of_block (w:=W) (a:=⟨Bn,0,none⟩) hsame).trans hc;have HPr:=iH hPr;have Hsame:=iH hsame;clear hPr hsame;have HTw:=iH (HT.out.below hb h3);by_cases hlt:q<s.size
  ·gi_wp2_with fail
   refine⟨trivial,(fun h=>by cases h),(callsIn_wide.2 (HN.out q wr hlt HTw.out)).mono ?_⟩;rintro e w1 ⟨rfl,hb1⟩;obtain⟨t,ht⟩:∃t,t=N q:=⟨_,rfl⟩;have hle:q+t.text.size<=s.size:=by rw[ht];exact hNle q hlt
   have hlen:pre.length<xs.length:=by
    rw[Hxs.out];cases hl with
    | done _ h=>omega
    | err _ h=>simp
    | step _ _ h=>simp
   have hJ1:J pre (w1.alloc (.cells #[.int .i64 t.kind,.string t.text,.int .i64 t.num,.int .i64 t.at_] 64)) :=
    hJ pre wr _ none hJs ⟨hb1.os,hb1.tape,hb1.output,Nat.le_trans hb1.size (by simp),fun i hi _=>(Below.heap_alloc _ _ _ (Nat.lt_of_lt_of_le hi hb1.size)).trans (hb1.block i hi)⟩ (fun r e=>by cases e)
   have hG1:Gd Bt w1:=hGr.grow hb1;have hP1:=Prot.new hG1 #[.int .i64 t.kind,.string t.text,.int .i64 t.num,.int .i64 t.at_] 64;have hG2:Gd Bt (w1.alloc (.cells #[.int .i64 t.kind,.string t.text,.int .i64 t.num,.int .i64 t.at_] 64)):=hG1.grow ((Below.refl _ _).alloc (Nat.le_refl _) _);obtain⟨fn,tmps,assign,body,hy,hR⟩:=HY.out pre t _ hJ1 hlen;have HR:=iH hR;have Ht:=iH ht;have hsz1:=hb1.size;have hszr:=hb.size;rw[<- ht];have Hl:=iH hl;have HP1:=iH hP1;have HG2:=iH hG2;clear hR ht hl hP1 hG2 hG1 hJ1;unfold Tok.val;obtain⟨kd,tx,nu,at_,er⟩:=t;dsimp only at *
   gi_wp2
   refine⟨(fun h=>by cases h),HR.out.mono ?_⟩;rintro e W3 (⟨rfl,hJ3,hk3⟩|⟨rfl,hJx3⟩)
   ·obtain⟨hk0,hk4⟩:=hk3;obtain⟨hG3,hpr⟩:=hk4 HG2.out;have hbox:=(hpr _ (by omega) HP1.out).1;have hct:W3.cell? ⟨w1.heap.size,1,none⟩=some (.string tx):=(World.cell?_of_block (w:=w1.alloc (.cells #[.int .i64 kd,.string tx,.int .i64 nu,.int .i64 at_] 64)) hbox).trans (by simp);have hb3:Below n₀ wr W3:=((hb1.mono (by omega)).alloc (by omega) _).trans hk0;have hKg:KpT n₀ n₁ Bt wr (w1.alloc (.cells #[.int .i64 kd,.string tx,.int .i64 nu,.int .i64 at_] 64)) :=
     KpT.grow ((hb1.alloc hsz1 _)) (by omega)
    obtain⟨es1,ps1⟩:=(hKg.2 hGr).2 Bn hBn HPr.out;obtain⟨es2,ps2⟩:=hpr Bn hBn ps1;have Hsame3:=iH ((es2.trans es1).trans Hsame.out);have HPr3:=iH ps2;have hcs:W3.cell? ⟨Bn,0,none⟩=some (.string s):=(World.cell?_of_block (w:=W) (a:=⟨Bn,0,none⟩) Hsame3.out).trans hc;clear es1 ps1 es2 ps2 hKg;have HT3:=iH (HTw.out.below hb3 h3);clear hbox hpr hk4 hy HR HP1 HG2;by_cases her:er=0
    ·have hstep:∃rest',rest=(⟨kd,tx,nu,at_,er⟩:Tok) :: rest'∧q<S (q+tx.size)∧Lx S N s.size (S (q+tx.size)) rest':=by
      have hNq:=Ht.out;cases Hl.out with
      | done _ h=>omega
      | err _ h he=>rw[<- hNq]at he;exact absurd her he
      | step _ r h he hp hr=>rw[<- hNq]at hp hr⊢;exact⟨r,rfl,hp,hr⟩
     obtain⟨rest',rfl,hp',hr'⟩:=hstep;subst her;have HJ3:=iH hJ3;clear hJ3 hJs Hl Ht
     gi_wp2_with fail
     refine⟨trivial,(fun h=>by cases h),(callsIn_wide.2 (HS.out (q+tx.size) W3 hle HT3.out)).mono ?_⟩;rintro e w' ⟨rfl,rfl⟩
     gi_wp2_with fail
     go_roundw
     case rel=>exact⟨pre ++ [⟨kd,tx,nu,at_,0⟩],rest',S (q+tx.size),rfl,hSle _,by rw[Hxs.out];simp,hr',HJ3.out,hb.trans hb3,hG3,HPr3.out,Hsame3.out⟩
     case measure=>have:=hSle (q+tx.size);simp[intOf];omega
    ·have hone:rest=[(⟨kd,tx,nu,at_,er⟩:Tok)]:=by
      have hNq:=Ht.out;cases Hl.out with
      | done _ h=>omega
      | err _ h he=>rw[<- hNq]
      | step _ r h he hp hr=>rw[<- hNq]at he;exact absurd he her
     have Hone:=iH hone;have her2:(er != 0)=true:=by simpa using her
     have HJ3:=iH hJ3;clear hJ3 hJs Hl Ht hone her
     gi_wp2
     refine bodyPost_ret (results_none rfl _ _ _) rfl ?_;exact⟨⟨_,rfl⟩,.inl ⟨_,by rw[Hxs.out,Hone.out],HJ3.out⟩⟩
   ·have hpre:pre ++ [(⟨kd,tx,nu,at_,er⟩:Tok)] <+: xs:=by
     have hNq:=Ht.out;rw[Hxs.out];cases Hl.out with
     | done _ h=>omega
     | err _ h he=>rw[<- hNq];exact List.prefix_refl _
     | step _ r h he hp hr=>rw[<- hNq];exact⟨r,by simp⟩
    have Hpre:=iH hpre;have HJx:=iH hJx3;clear hpre hJx3
    gi_wp2
    refine bodyPost_ret (results_none rfl _ _ _) rfl ?_;exact⟨⟨_,rfl⟩,.inr ⟨_,Hpre.out,HJx.out⟩⟩
  ·obtain rfl:rest=[]:=by
    cases hl with
    | done _ h=>rfl
    | err _ h=>omega
    | step _ _ h=>omega
   gi_wp2
   go_end0
   exact⟨⟨_,rfl⟩,.inl ⟨pre,by rw[Hxs.out];simp,hJs⟩⟩
theorem iter_stops (s:ByteArray) (hs:s.size<=8192) (S:Nat->Nat) (N:Nat->Tok) (hS:SkipOk s S) (hN:NextOk s N) (hSle:∀p,S p<=s.size) (hNle:∀p,p<s.size->p+(N p).text.size<=s.size)
 (n:Nat) (Bn n₀ n₁ Bt:Nat) (hBn:n₁<=Bn) (h3:4<=n₀) (xs:List Tok) (hx:Lx S N s.size (S 0) xs)
 (w:World) (hn0:n₀<=w.heap.size) (hn1:n₁<=w.heap.size) (hG:Gd Bt w) (hPB:Prot Bt w Bn) (hT:Tab w) (hc:w.cell? ⟨Bn,0,none⟩=some (.string s)) :
 SeqStopsK Fence.wide n Tryz.prog 235 #[.pointer (some ⟨Bn,0,none⟩)] tokEncs (KpT n₀ n₁ Bt) (fun ys=>ys=xs) (fun pre=>pre <+: xs) xs.length w:=fun l J Jx W hW hJ _ hY h0 =>
 iter_in s hs S N hS hN hSle hNle n l Bn n₀ n₁ Bt hBn h3 xs hx J Jx W.heap.size hJ hY W (Nat.le_trans hn0 hW.size) (Nat.le_trans hn1 hW.size) (hG.grow hW) (((KpT.grow (n₀:=n₀) (n₁:=n₁) hW hn0).2 hG).2 Bn hBn hPB).2
  (hT.below hW (by omega)) ((World.cell?_of_block (w:=w) (a:=⟨Bn,0,none⟩) (((KpT.grow (n₀:=n₀) (n₁:=n₁) hW hn0).2 hG).2 Bn hBn hPB).1).trans hc) h0
end
section
attribute [local go_sem] Oper.semAt_some
def Tok.cells (t:Tok):List Value:=[.int .i64 t.kind,.string t.text,.int .i64 t.num,.int .i64 t.at_]
def kcells (l:List Tok):List Value:=l.flatMap Tok.cells
theorem kcells_snoc (l:List Tok) (t:Tok):kcells (l ++ [t])=kcells l ++ t.cells:=by simp[kcells]
def TokPost (w:World) (xs:List Tok) (e:Ending) (w':World):Prop :=
 ((∀t∈xs,t.err=0)∧∃v,e=.returned (.tuple #[v,.int .i64 0,.int .i64 0])∧w'.ownsRow w.heap.size 64 4 v xs.length (kcells xs)∧Below w.heap.size w w') ∨
 (∃init last,init ++ [last] <+: xs∧(∀t∈init,t.err=0)∧last.err≠0∧e=.returned (.tuple #[.slice none 0 0,.int .i64 last.at_,.int .i64 last.err])∧Below w.heap.size w w')
theorem all_in (n:Nat) (s:ByteArray) (w:World) :
 CallsIn Fence.wide n Tryz.prog 90 #[.string s] w fun e w'=>e=.returned (.func (.func 235) #[] #[.pointer (some ⟨w.heap.size,0,none⟩)])∧w'=w.alloc (.cells #[.string s] 9):=by
 refine callsIn_of_wp Tryz.func90 rfl trivial ?_ rfl;simp only[Tryz.ntmps90,List.size_toArray,List.length_cons,List.length_nil,Nat.reduceAdd,Nat.reduceSub,Array.replicate_succ,Array.replicate_zero,List.push_toArray,List.append_toArray,List.nil_append,List.cons_append]
 gi_wp2
 go_ret;exact⟨rfl,rfl⟩
theorem boxed_keep {X Y:World} {row:Option Nat} {B:Nat} {t:TypeId} {v:Value} (h:Boxed X B t v) (hg:X.grownBy Y row) (hr:∀r,row=some r->∃o:Obj,X.heap[r]? = some o∧o.isCells=false):Boxed Y B t v :=
 boxed_own B t (fun _:Unit=>v) () X Y row h hg hr
theorem stop_close (pre:List Tok) (x:Tok) (w W:World) (B:Nat) (v0 v1 v2:Value) (he:∀t∈pre,t.err=0) (hx0:¬ x.err=0)
 (c0:Boxed W w.heap.size 58 v0) (c1:Boxed W (w.heap.size+1) 3 v1) (c2:Boxed W (w.heap.size+2) 31 v2) (hB:Below w.heap.size w W) :
 KeepsFrom B W (((W.setCell ⟨w.heap.size,0,none⟩ (.slice none 0 0)).setCell ⟨w.heap.size+1,0,none⟩ (.int .i64 x.at_)).setCell ⟨w.heap.size+2,0,none⟩ (.int .i64 x.err)).drew ∧
 ((∃ init last, pre ++ [x] = init ++ [last] ∧ (∀ t ∈ init, t.err = 0) ∧ last.err ≠ 0 ∧
   Boxed (((W.setCell ⟨w.heap.size,0,none⟩ (.slice none 0 0)).setCell ⟨w.heap.size+1,0,none⟩ (.int .i64 x.at_)).setCell ⟨w.heap.size+2,0,none⟩ (.int .i64 x.err)).drew w.heap.size 58 (.slice none 0 0) ∧
   Boxed (((W.setCell ⟨w.heap.size,0,none⟩ (.slice none 0 0)).setCell ⟨w.heap.size+1,0,none⟩ (.int .i64 x.at_)).setCell ⟨w.heap.size+2,0,none⟩ (.int .i64 x.err)).drew (w.heap.size+1) 3 (.int .i64 last.at_) ∧
   Boxed (((W.setCell ⟨w.heap.size,0,none⟩ (.slice none 0 0)).setCell ⟨w.heap.size+1,0,none⟩ (.int .i64 x.at_)).setCell ⟨w.heap.size+2,0,none⟩ (.int .i64 x.err)).drew (w.heap.size+2) 31 (.int .i64 last.err)) ∧
  Below w.heap.size w (((W.setCell ⟨w.heap.size,0,none⟩ (.slice none 0 0)).setCell ⟨w.heap.size+1,0,none⟩ (.int .i64 x.at_)).setCell ⟨w.heap.size+2,0,none⟩ (.int .i64 x.err)).drew):=by
 have d0:Boxed (W.setCell ⟨w.heap.size,0,none⟩ (.slice none 0 0)) w.heap.size 58 (.slice none 0 0):=c0.set _;have d1:Boxed ((W.setCell ⟨w.heap.size,0,none⟩ (.slice none 0 0)).setCell ⟨w.heap.size+1,0,none⟩ (.int .i64 x.at_)) (w.heap.size+1) 3 (.int .i64 x.at_):=(c1.other (by omega) _).set _;refine⟨(((KeepsOthers.setCell _ _ _).trans (KeepsOthers.setCell _ _ _)).trans ((KeepsOthers.setCell _ _ _).trans (KeepsOthers.drew _))).from _,⟨pre,x,rfl,he,hx0,?_,?_,?_⟩,?_⟩
 ·exact(d0.other (by omega) _).other (by omega) _
 ·exact d1.other (by omega) _
 ·exact((c2.other (by omega) _).other (by omega) _).set _
 ·exact(((hB.setCell (p:=⟨w.heap.size,0,none⟩) (Nat.le_refl _) _).setCell (p:=⟨w.heap.size+1,0,none⟩) (by simp) _).setCell (p:=⟨w.heap.size+2,0,none⟩) (by simp) _).drew
theorem app_close {w W w1:World} {B:Nat} {v v' v0 v1 v2:Value} {k:Nat} {xs ys:List Value} {tmp:Obj} (c0:Boxed W w.heap.size 58 v0) (c1:Boxed W (w.heap.size+1) 3 v1) (c2:Boxed W (w.heap.size+2) 31 v2)
 (c3:Boxed W (w.heap.size+3) 58 v) (hrow:W.ownsRow w.heap.size 64 4 v k xs) (hB:Below w.heap.size w W) (hown':w1.ownsRow w.heap.size 64 4 v' (k+1) ys) (hgrow:(W.alloc tmp).grownBy w1 v.ownBlock)
 (hloc:v'.ownBlock=v.ownBlock∨v'.ownBlock=some (W.heap.size+1)) :
 Boxed w1 (w.heap.size+3) 58 v∧KeepsFrom B W (w1.setCell ⟨w.heap.size+3,0,none⟩ v')∧KpT w.heap.size (w.heap.size+4) (w.heap.size+3) W (w1.setCell ⟨w.heap.size+3,0,none⟩ v') ∧
 (Boxed (w1.setCell ⟨w.heap.size+3,0,none⟩ v') w.heap.size 58 v0∧Boxed (w1.setCell ⟨w.heap.size+3,0,none⟩ v') (w.heap.size+1) 3 v1∧Boxed (w1.setCell ⟨w.heap.size+3,0,none⟩ v') (w.heap.size+2) 31 v2) ∧
 (Boxed (w1.setCell ⟨w.heap.size+3,0,none⟩ v') (w.heap.size+3) 58 v'∧(w1.setCell ⟨w.heap.size+3,0,none⟩ v').ownsRow w.heap.size 64 4 v' (k+1) ys)∧Below w.heap.size w (w1.setCell ⟨w.heap.size+3,0,none⟩ v'):=by
 obtain⟨e1,e2,e3,e4,e5⟩:=c3.appended (by decide) hrow hB.size (by omega) hown' hgrow;refine⟨e1,e4.from _,⟨e5,fun hG=>⟨?_,fun g hg hp=>?_⟩⟩,⟨?_,?_,?_⟩,⟨e2,e3⟩,hB.trans e5⟩
 ·refine⟨v',e2.cell,fun g e=>?_⟩;rcases e3.2 with ⟨_,h⟩|⟨g',cap,cur,hv,_,hb,_⟩
  ·omega
  ·rw[hv]at e;simp[Value.ownBlock]at e;subst e;exact(Array.getElem?_eq_some_iff.1 hb).1
 ·obtain⟨⟨cs,t,fr,hcs⟩,hne,hv⟩:=hp;have hlt:g<W.heap.size:=(Array.getElem?_eq_some_iff.1 hcs).1;have hng:v.ownBlock≠some g:=hv v c3.cell;have he:(w1.setCell ⟨w.heap.size+3,0,none⟩ v').heap[g]? = W.heap[g]?:=by
   rw[Below.heap_setCell w1 _ _ g hne,hgrow.block g (by simp;omega) (fun e=>hng e.symm),Below.heap_alloc W tmp g hlt]
  refine⟨he,⟨cs,t,fr,he.trans hcs⟩,hne,fun u hu e=>?_⟩;rw[e2.cell]at hu;cases hu;rcases hloc with h|h
  ·rw[h]at e;exact hng e
  ·rw[h]at e;cases e;omega
 ·exact((c0.alloc tmp).kept hgrow (c0.not_row (by decide) hrow)).other (by omega) _
 ·exact((c1.alloc tmp).kept hgrow (c1.not_row (by decide) hrow)).other (by omega) _
 ·exact((c2.alloc tmp).kept hgrow (c2.not_row (by decide) hrow)).other (by omega) _
theorem done_close {w W:World} {D:Nat} {v v0 v1 v2:Value} {k:Nat} {xs:List Value} (c0:Boxed W w.heap.size 58 v0) (c1:Boxed W (w.heap.size+1) 3 v1) (c2:Boxed W (w.heap.size+2) 31 v2)
 (hrow:W.ownsRow w.heap.size 64 4 v k xs) (hB:Below w.heap.size w W) (hD:w.heap.size+5<=D) (hK:W.heap[D]? = some (.deferred (some []))) :
 (((W.setCell ⟨w.heap.size,0,none⟩ v).setCell ⟨w.heap.size+1,0,none⟩ (.int .i64 0)).setCell ⟨w.heap.size+2,0,none⟩ (.int .i64 0)).heap[D]? = some (.deferred (some [])) ∧
 ((((W.setCell ⟨w.heap.size,0,none⟩ v).setCell ⟨w.heap.size+1,0,none⟩ (.int .i64 0)).setCell ⟨w.heap.size+2,0,none⟩ (.int .i64 0)).putObj D (.deferred none)).cell? ⟨w.heap.size,0,none⟩=some v ∧
 ((((W.setCell ⟨w.heap.size,0,none⟩ v).setCell ⟨w.heap.size+1,0,none⟩ (.int .i64 0)).setCell ⟨w.heap.size+2,0,none⟩ (.int .i64 0)).putObj D (.deferred none)).cell? ⟨w.heap.size+1,0,none⟩=some (.int .i64 0) ∧
 ((((W.setCell ⟨w.heap.size,0,none⟩ v).setCell ⟨w.heap.size+1,0,none⟩ (.int .i64 0)).setCell ⟨w.heap.size+2,0,none⟩ (.int .i64 0)).putObj D (.deferred none)).cell? ⟨w.heap.size+2,0,none⟩=some (.int .i64 0) ∧
 ((((W.setCell ⟨w.heap.size,0,none⟩ v).setCell ⟨w.heap.size+1,0,none⟩ (.int .i64 0)).setCell ⟨w.heap.size+2,0,none⟩ (.int .i64 0)).putObj D (.deferred none)).ownsRow w.heap.size 64 4 v k xs ∧
 Below w.heap.size w ((((W.setCell ⟨w.heap.size,0,none⟩ v).setCell ⟨w.heap.size+1,0,none⟩ (.int .i64 0)).setCell ⟨w.heap.size+2,0,none⟩ (.int .i64 0)).putObj D (.deferred none)):=by
 have d0:Boxed (W.setCell ⟨w.heap.size,0,none⟩ v) w.heap.size 58 v:=c0.set _;have d1:Boxed ((W.setCell ⟨w.heap.size,0,none⟩ v).setCell ⟨w.heap.size+1,0,none⟩ (.int .i64 0)) (w.heap.size+1) 3 (.int .i64 0):=(c1.other (by omega) _).set _;have d2:Boxed (((W.setCell ⟨w.heap.size,0,none⟩ v).setCell ⟨w.heap.size+1,0,none⟩ (.int .i64 0)).setCell ⟨w.heap.size+2,0,none⟩ (.int .i64 0)) (w.heap.size+2) 31 (.int .i64 0):=((c2.other (by omega) _).other (by omega) _).set _;have hk:(((W.setCell ⟨w.heap.size,0,none⟩ v).setCell ⟨w.heap.size+1,0,none⟩ (.int .i64 0)).setCell ⟨w.heap.size+2,0,none⟩ (.int .i64 0)).heap[D]? = some (.deferred (some [])) :=
  (((KeepsOthers.setCell _ _ _).trans (KeepsOthers.setCell _ _ _)).trans (KeepsOthers.setCell _ _ _)).same D _ hK rfl
 have r0:(W.setCell ⟨w.heap.size,0,none⟩ v).ownsRow w.heap.size 64 4 v k xs:=hrow.kept (grownBy_setCell' W _ v) (.inr (c0.not_row (by decide) hrow).symm);have r1:=r0.kept (grownBy_setCell' _ (w.heap.size+1) (.int .i64 0)) (.inr ((c1.other (by omega) v).not_row (by decide) r0).symm);have r2:=r1.kept (grownBy_setCell' _ (w.heap.size+2) (.int .i64 0)) (.inr (((c2.other (by omega) v).other (by omega) _).not_row (by decide) r1).symm);have hp:=grownBy_putObj' (((W.setCell ⟨w.heap.size,0,none⟩ v).setCell ⟨w.heap.size+1,0,none⟩ (.int .i64 0)).setCell ⟨w.heap.size+2,0,none⟩ (.int .i64 0)) D (.deferred none);refine⟨hk,(((d0.other (by omega) _).other (by omega) _).kept hp (by simp;omega)).cell,((d1.other (by omega) _).kept hp (by simp;omega)).cell,(d2.kept hp (by simp;omega)).cell,ownsRow_putObj r2 _ hk rfl,?_⟩;refine(((hB.setCell (p:=⟨w.heap.size,0,none⟩) (Nat.le_refl _) v).setCell (p:=⟨w.heap.size+1,0,none⟩) (by simp) (.int .i64 0)).setCell (p:=⟨w.heap.size+2,0,none⟩) (by simp) (.int .i64 0)).trans ?_;exact⟨rfl,rfl,rfl,by simp,fun j hj=>World.putObj_heap_other (by omega)⟩
theorem info64:(Tryz.prog.info? 64).map (fun i=>(i.zero,i.size,i.bytes))=some (some (.agg #[.int .i64 0,.string ⟨#[]⟩,.int .i64 0,.int .i64 0]),4,40):=by kernel_rfl
theorem tokens_any (s:ByteArray) (hs:s.size<=8192) (S:Nat->Nat) (N:Nat->Tok) (hS:SkipOk s S) (hN:NextOk s N) (hSle:∀p,S p<=s.size) (hNle:∀p,p<s.size->p+(N p).text.size<=s.size)
 (xs:List Tok) (hlen:xs.length<=8192) (hx:Lx S N s.size (S 0) xs) (w:World) (hT:Tab w) :
 Calls Tryz.prog 30 #[.string s] w (TokPost w xs):=by
 refine(callsIn_wide (n:=5)).1 ?_;obtain⟨i0,hi,hz0,hz1,hz2⟩:=info_parts info64;have HS:=iH hS;have HN:=iH hN;have HT:=iH hT;clear hS hN hT;have hd:decide ((8192:Int)<(s.size:Int))=false:=by simp;omega
 refine callsIn_of_wp_marks Tryz.func30 rfl trivial ?_ rfl;simp only[Tryz.ntmps30,List.size_toArray,List.length_cons,List.length_nil,Nat.reduceAdd,Nat.reduceSub,Array.replicate_succ,Array.replicate_zero,List.push_toArray,List.append_toArray,List.nil_append,List.cons_append]
 gi_wp2_with fail
 refine⟨trivial,(all_in _ s _).mono ?_⟩;rintro e w' ⟨rfl,rfl⟩
 gi_wp2_with fail
 obtain⟨n,hn⟩:∃n,n=w.heap.size:=⟨_,rfl⟩;obtain⟨W0,hW0⟩:∃W0,((((w.alloc (.cells #[.slice none 0 0] 58)).alloc (.cells #[.int .i64 0] 3)).alloc (.cells #[.int .i64 0] 31)).alloc (.cells #[.slice none 0 0] 58)).alloc (.cells #[.string s] 9)=W0:=⟨_,rfl⟩;have hB0:Below w.heap.size w W0:=by
  rw[<- hW0];exact((((((Below.refl _ w).alloc (Nat.le_refl _) _).alloc (by simp) _).alloc (by simp;omega) _).alloc (by simp;omega) _).alloc (by simp;omega) _)
 have hsz:W0.heap.size=w.heap.size+5:=by rw[<- hW0];simp
 have b0:Boxed W0 w.heap.size 58 (.slice none 0 0):=by rw[<- hW0];exact((((Boxed.new w 58 (.slice none 0 0)).alloc _).alloc _).alloc _).alloc _
 have b1:Boxed W0 (w.heap.size+1) 3 (.int .i64 0):=by
  rw[<- hW0];have:=Boxed.new (w.alloc (.cells #[.slice none 0 0] 58)) 3 (.int .i64 0);rw[World.size_alloc]at this;exact((this.alloc _).alloc _).alloc _
 have b2:Boxed W0 (w.heap.size+2) 31 (.int .i64 0):=by
  rw[<- hW0];have:=Boxed.new ((w.alloc (.cells #[.slice none 0 0] 58)).alloc (.cells #[.int .i64 0] 3)) 31 (.int .i64 0);rw[World.size_alloc,World.size_alloc]at this;exact(this.alloc _).alloc _
 have b3:Boxed W0 (w.heap.size+3) 58 (.slice none 0 0):=by
  rw[<- hW0];have:=Boxed.new (((w.alloc (.cells #[.slice none 0 0] 58)).alloc (.cells #[.int .i64 0] 3)).alloc (.cells #[.int .i64 0] 31)) 58 (.slice none 0 0);rw[World.size_alloc,World.size_alloc,World.size_alloc]at this;exact this.alloc _
 have b4:Boxed W0 (w.heap.size+4) 9 (.string s):=by
  rw[<- hW0];have:=Boxed.new ((((w.alloc (.cells #[.slice none 0 0] 58)).alloc (.cells #[.int .i64 0] 3)).alloc (.cells #[.int .i64 0] 31)).alloc (.cells #[.slice none 0 0] 58)) 9 (.string s);rw[World.size_alloc,World.size_alloc,World.size_alloc,World.size_alloc]at this;exact this
 have hG0:Gd (w.heap.size+3) W0:=⟨_,b3.cell,fun g e=>by simp[Value.ownBlock]at e⟩;have hP0:Prot (w.heap.size+3) W0 (w.heap.size+4):=⟨⟨_,_,_,b4⟩,by omega,fun v hv e=>by rw[b3.cell]at hv;cases hv;simp[Value.ownBlock]at e⟩;rw[hW0];refine wpIn_rangeFunc_ownH rfl (by omega) (gf:=235) (lb:=#[.pointer (some ⟨w.heap.size+4,0,none⟩)]) rfl trivial (enters_of Tryz.func235 (by kernel_rfl) rfl)
  (iter_stops s hs S N HS.out HN.out hSle hNle 4 (w.heap.size+4) w.heap.size (w.heap.size+4) (w.heap.size+3) (Nat.le_refl _) HT.out.1 xs hx W0 (by omega) (by omega) hG0 hP0 (HT.out.below hB0 HT.out.1) b4.cell)
  (fun h k=>KpT.trans h k) (fun W l o o' hl ho hc _=>KpT.put (N:=W0.heap.size) (by omega) (by omega) W l o o' hl ho hc) (Below.refl _ _) (fun _=>rfl)
  (fun pre W=>((∀t∈pre,t.err=0)∧(Boxed W w.heap.size 58 (.slice none 0 0)∧Boxed W (w.heap.size+1) 3 (.int .i64 0)∧Boxed W (w.heap.size+2) 31 (.int .i64 0))) ∧
   (∃v,Boxed W (w.heap.size+3) 58 v∧W.ownsRow w.heap.size 64 4 v pre.length (kcells pre)∧True)∧Below w.heap.size w W)
  (fun c pre W=>(c=.ret∧∃init last,pre=init ++ [last]∧(∀t∈init,t.err=0)∧last.err≠0∧Boxed W w.heap.size 58 (.slice none 0 0)∧Boxed W (w.heap.size+1) 3 (.int .i64 last.at_)∧Boxed W (w.heap.size+2) 31 (.int .i64 last.err))∧Below w.heap.size w W)
  (OwnFrom.and (OwnFrom.and (ownFrom_pure _ _) (OwnFrom.and (Own.from (boxed_own _ _ _) _) (OwnFrom.and (Own.from (boxed_own _ _ _) _) (Own.from (boxed_own _ _ _) _))))
   (OwnFrom.and (Own.from (holdsRow_own w.heap.size (w.heap.size+3) 58 64 4 (fun pre=>pre.length) (fun pre=>kcells pre) (fun _ _=>True)) _) (ownFrom_below (Nat.le_refl _) (by omega))))
  ?hIx
  ⟨⟨by simp,b0,b1,b2⟩,⟨_,b3,World.ownsRow_nil _ _ _ _,trivial⟩,hB0⟩
  (fun x a' W=>∃Bx,W.heap[Bx]? = some (.cells #[.int .i64 x.kind,.string x.text,.int .i64 x.num,.int .i64 x.at_] 64 (0,0)) ∧
   a'={ tmps:=#[.string s,undef,.pointer (some ⟨w.heap.size,0,none⟩),.pointer (some ⟨w.heap.size+1,0,none⟩),.pointer (some ⟨w.heap.size+2,0,none⟩),.pointer (some ⟨w.heap.size+3,0,none⟩),.pointer (some ⟨Bx,0,none⟩),.int .i64 x.err,.string s,.int .i64 s.size,.bool false,.string s,.func (.func 235) #[] #[.pointer (some ⟨w.heap.size+4,0,none⟩)],.agg #[.int .i64 x.kind,.string x.text,.int .i64 x.num,.int .i64 x.at_],.int .i64 x.err,undef,undef,undef,undef,undef,undef,undef,undef,undef,undef],defers:=[] })
  ?hAx ?assign ?body ?done ?stop
 case hIx =>
  rintro c pre X Y row ⟨⟨hc,init,last,hp,h1,h2,h3,h4,h5⟩,hb⟩ hg hr;refine⟨⟨hc,init,last,hp,h1,h2,boxed_keep h3 hg (fun r e=>(hr r e).2),boxed_keep h4 hg (fun r e=>(hr r e).2),boxed_keep h5 hg (fun r e=>(hr r e).2)⟩,?_⟩;exact ownFrom_below (β:=Unit) (Nat.le_refl _) (by omega) () X Y row hb hg hr
 case hAx =>
  rintro x a' u X Y row ⟨Bx,hbx,ha⟩ hg hr;refine⟨Bx,(hg.block Bx (Array.getElem?_eq_some_iff.1 hbx).1 (fun e=>?_)).trans hbx,ha⟩;obtain⟨_,o,ho,hc⟩:=hr Bx e.symm;rw[hbx]at ho;cases ho;cases hc
 case assign =>
  rintro l pre x W K ⟨⟨he,c0,c1,c2⟩,⟨v,c3,hrow,_⟩,hB⟩ hK;have hBs:=hB.size
  gi_wp2
  exact hK _ _ ((KeepsOthers.alloc _ _).from _) (KpT.grow ((Below.refl _ W).alloc (Nat.le_refl _) _) hBs) ⟨⟨he,c0.alloc _,c1.alloc _,c2.alloc _⟩,⟨v,c3.alloc _,hrow.alloc _,trivial⟩,hB.alloc hBs _⟩ ⟨W.heap.size,World.alloc_heap_new W _,rfl⟩
 case body =>
  rintro l pre x a' W hl _ ⟨⟨he,c0,c1,c2⟩,⟨v,c3,hrow,_⟩,hB⟩ ⟨Bx,hbx,rfl⟩ hlt;have hBs:=hB.size;have x0:W.cell? ⟨Bx,0,none⟩=some (.int .i64 x.kind):=by simp[World.cell?,hbx]
  have x1:W.cell? ⟨Bx,1,none⟩=some (.string x.text):=by simp[World.cell?,hbx]
  have x2:W.cell? ⟨Bx,2,none⟩=some (.int .i64 x.num):=by simp[World.cell?,hbx]
  have x3:W.cell? ⟨Bx,3,none⟩=some (.int .i64 x.at_):=by simp[World.cell?,hbx]
  have y0:=c0.cell;have y1:=c1.cell;have y2:=c2.cell;have y3:=c3.cell;have z0:=c0.frozen;have z1:=c1.frozen;have z2:=c2.frozen;have z3:=c3.frozen;by_cases hx0:x.err=0
  ·have hx1:(x.err != 0)=false:=by simpa using hx0
   have Hx0:=iH hx0;clear hx0
   gi_wp2_with (gi_at_builtin;refine wpListIn_append_own_at _ rfl _ _ 58 rfl w.heap.size 64 i0 (.agg #[.int .i64 0,.string ⟨#[]⟩,.int .i64 0,.int .i64 0]) 4 40 Tryz.underlying58 hi hz0 hz1 hz2 rfl (by decide) v pre.length (kcells pre) rfl (hrow.alloc _) ⟨W.heap.size,0,none⟩ 1 1 x.cells rfl rfl ?c1 ?c2 ?c3 ?c4 ?c5 ?_)
   case c1 =>
    intro j u hj
    match j,hj with
    | 0,hj=>simp[Tok.cells]at hj;subst hj;simp[Addr.add]
    | 1,hj=>simp[Tok.cells]at hj;subst hj;simp[Addr.add]
    | 2,hj=>simp[Tok.cells]at hj;subst hj;simp[Addr.add]
    | 3,hj=>simp[Tok.cells]at hj;subst hj;simp[Addr.add]
    | j+4,hj=>simp[Tok.cells]at hj
   case c2 =>
    intro u hu;simp only[Tok.cells,List.mem_cons,List.not_mem_nil,or_false]at hu;rcases hu with rfl|rfl|rfl|rfl <;> rfl
   case c3=>unfold maxLen;omega
   case c4=>omega
   case c5=>simp;omega
   intro v' w1 hown' hgrow _ hloc;obtain⟨g',cap',rfl⟩:=ownsRow_succ hown';obtain⟨e1,e2,e3,e4,e5,e6⟩:=app_close (B:=W0.heap.size) c0 c1 c2 c3 hrow hB hown' hgrow hloc;have hc1:=e1.cell;have hf1:=e1.frozen
   gi_wp2
   refine⟨e2,e3,⟨?_,e4⟩,⟨_,e5.1,by rw[List.length_append,kcells_snoc];exact e5.2,trivial⟩,e6⟩;intro t ht;rcases List.mem_append.1 ht with h|h
   ·exact he t h
   ·simp at h;subst h;exact Hx0.out
  ·have hx1:(x.err != 0)=true:=by simpa using hx0
   have n0:Bx≠w.heap.size:=fun e=>by rw[e]at hbx;rw[show W.heap[w.heap.size]? = _ from c0]at hbx;simp at hbx
   have n1:Bx≠w.heap.size+1:=fun e=>by rw[e]at hbx;rw[show W.heap[w.heap.size+1]? = _ from c1]at hbx;simp at hbx
   have n2:Bx≠w.heap.size+2:=fun e=>by rw[e]at hbx;rw[show W.heap[w.heap.size+2]? = _ from c2]at hbx;simp at hbx
   have fin:=iH (stop_close pre x w W W0.heap.size (.slice none 0 0) (.int .i64 0) (.int .i64 0) he hx0 c0 c1 c2 hB)
   gi_wp2
   gi_region
   all_goals gi_wp2
   all_goals exact⟨fin.out.1,⟨rfl,fin.out.2.1⟩,fin.out.2.2⟩
 case done =>
  rintro D ys W hD rfl ⟨⟨he,c0,c1,c2⟩,⟨v,c3,hrow,_⟩,hB⟩ hK;have y0:=c0.cell;have y1:=c1.cell;have y2:=c2.cell;have y3:=c3.cell;have z0:=c0.frozen;have z1:=c1.frozen;have z2:=c2.frozen;have hex:∃A n c,v=.slice A n c:=by
   rcases hrow.2 with ⟨rfl,_⟩|⟨g,cap,cur,rfl,_⟩
   ·exact⟨_,_,_,rfl⟩
   ·exact⟨_,_,_,rfl⟩
  obtain⟨A,nn,c,rfl⟩:=hex;have fin:=iH (done_close (D:=D) c0 c1 c2 hrow hB (by omega) hK)
  gi_wp2
  obtain⟨k1,k2,k3,k4,k5,k6⟩:=fin.out;refine⟨by simp,.inl ⟨_,_,rfl,run_takeDeferred k1,?_⟩⟩;exact⟨.tuple #[.slice A nn c,.int .i64 0,.int .i64 0],by simp[results,Tryz.results30,go_sem,k2,k3,k4],.inl ⟨he,_,rfl,k5,k6⟩⟩
 case stop =>
  rintro D c pre W hD hpre ⟨⟨rfl,init,last,hp,h1,h2,c0,c1,c2⟩,hB⟩ hK
  gi_wp2
  have hq:=grownBy_putObj' W D (.deferred none);have k2:=(c0.kept hq (by simp;omega)).cell;have k3:=(c1.kept hq (by simp;omega)).cell;have k4:=(c2.kept hq (by simp;omega)).cell;refine⟨by simp,.inl ⟨_,_,rfl,run_takeDeferred hK,?_⟩⟩;exact⟨.tuple #[.slice none 0 0,.int .i64 last.at_,.int .i64 last.err],by simp[results,Tryz.results30,go_sem,k2,k3,k4],
   .inr ⟨init,last,by rw[<- hp];exact hpre,h1,h2,rfl,hB.trans ⟨rfl,rfl,rfl,by simp,fun j hj=>World.putObj_heap_other (by omega)⟩⟩⟩
end
structure PlainName (s : ByteArray) : Prop where
 len:s.size<=16
 each:∀p,p<s.size->(kindAt s p=3∧∀i,p<=i->i<s.size->wordB (kindAt s i)=true)∨kindAt s p=0
def pS (s:ByteArray) (p:Nat):Nat:=min p s.size
def pN (s:ByteArray) (p:Nat):Tok:=if kindAt s p=3 then⟨0,s.extract p s.size,0,p,0⟩ else⟨0,⟨#[]⟩,0,p,2⟩
theorem pS_ok {s:ByteArray} (h:PlainName s):SkipOk s (pS s):=by
 intro p w hp hT;have e:pS s p=p:=by unfold pS;omega
 rw[e];have hk:kindAt s p≠1∧kindAt s p≠2:=by
  by_cases hlt:p<s.size
  ·rcases h.each p hlt with ⟨h3,_⟩ | h0 <;> omega
  ·have:kindAt s p=0:=by simp[kindAt,hlt]
   omega
 exact skip_stay s p w hT hk.1 hk.2
theorem pN_ok {s:ByteArray} (h:PlainName s):NextOk s (pN s):=by
 intro p w hp hT;rcases h.each p hp with ⟨h3,ha⟩|h0
 ·have e:pN s p=⟨0,s.extract p s.size,0,p,0⟩:=by unfold pN;rw[if_pos h3]
  rw[e];exact next_word s p w hT h3 ha hp h.len
 ·have e:pN s p=⟨0,⟨#[]⟩,0,p,2⟩:=by unfold pN;rw[if_neg (by omega)]
  rw[e];exact next_other s p w hT h0 h.len hp
theorem size_extract_le (s:ByteArray) (p:Nat):p<=s.size->p+(s.extract p s.size).size=s.size:=by
 intro h;rw[ByteArray.size_extract];omega
theorem pN_le (s:ByteArray) (p:Nat) (hp:p<s.size):p+(pN s p).text.size<=s.size:=by
 unfold pN;split
 ·have:=size_extract_le s p (by omega);simp only;omega
 ·show p+0<=s.size;omega
def pToks (s:ByteArray):List Tok:=if s.size=0 then[] else[pN s 0]
theorem pLx {s:ByteArray}:Lx (pS s) (pN s) s.size (pS s 0) (pToks s):=by
 have e0:pS s 0=0:=by simp[pS]
 rw[e0];unfold pToks;split
 ·exact .done 0 (by omega)
 ·rename_i hne
  by_cases h3:kindAt s 0=3
  ·have hN:pN s 0=⟨0,s.extract 0 s.size,0,0,0⟩:=by unfold pN;rw[if_pos h3];rfl
   have hsz:(pN s 0).text.size=s.size:=by
    rw[hN];have:=size_extract_le s 0 (by omega);show(s.extract 0 s.size).size=s.size;omega
   refine .step 0 [] (by omega) (by rw[hN]) ?_ ?_
   ·rw[hsz];simp[pS];omega
   ·rw[hsz];exact .done _ (by simp[pS])
  ·have hN:pN s 0=⟨0,⟨#[]⟩,0,0,2⟩:=by unfold pN;rw[if_neg h3];rfl
   exact .err 0 (by omega) (by rw[hN];decide)
def fitsB (s:ByteArray):Bool:=decide (s.size≠0) && decide (kindAt s 0=3)
theorem extract_all (s:ByteArray):s.extract 0 s.size=s:=by
 apply ByteArray.ext;simp
theorem fits_plain (s:ByteArray) (h:PlainName s) (w:World) (hT:Tab w) :
 Calls Tryz.prog 260 #[.string s] w fun e w'=>e=.returned (.bool (fitsB s))∧Below w.heap.size w w':=by
 have hl:=h.len;have htok:=tokens_any s (by omega) (pS s) (pN s) (pS_ok h) (pN_ok h) (fun p=>by simp[pS];omega) (fun p hp=>pN_le s p hp) (pToks s) (by unfold pToks;split <;> simp) pLx w hT;have Ht:=iH htok;clear htok hT h;go_enter Tryz.func260,Tryz.ntmps260;go_wp2_with fail;refine Ht.out.mono ?_;rintro e w' (⟨he,v,rfl,hown,hB⟩|⟨init,last,hp,hi,hl,rfl,hB⟩)
 ·by_cases hz:s.size=0
  ·have e0:pToks s=[]:=by simp[pToks,hz]
   rw[e0]at hown;have hex:∃A c,v=.slice A 0 c:=by
    rcases hown.2 with ⟨rfl,_⟩|⟨g,cap,cur,rfl,_⟩
    ·exact⟨_,_,rfl⟩
    ·exact⟨_,_,rfl⟩
   obtain⟨A,c,rfl⟩:=hex;have Hf:Hid (fitsB s=false):=by show fitsB s=false;simp[fitsB,hz]
   go_wp2;go_ret;exact⟨by rw[Hf.out];rfl,hB⟩
  ·have e1:pToks s=[pN s 0]:=by simp[pToks,hz]
   rw[e1]at hown he;have h3:kindAt s 0=3:=by
    have:=he _ (List.mem_singleton.2 rfl);unfold pN at this;split at this
    ·assumption
    ·simp at this
   have hN:pN s 0=⟨0,s,0,0,0⟩:=by unfold pN;rw[if_pos h3,extract_all];rfl
   rw[hN]at hown;have hex:∃g c,v=.slice (some ⟨g,0,none⟩) 1 c:=by
    rcases hown.2 with ⟨_,h0⟩|⟨g,cap,cur,rfl,_⟩
    ·simp at h0
    ·exact⟨_,_,rfl⟩
   obtain⟨g,c,rfl⟩:=hex;have c0:=hown.cellAt 0 (by decide);have c1:=hown.cellAt 1 (by decide);simp[kcells,Tok.cells]at c0 c1;have Hf:Hid (fitsB s=true):=by show fitsB s=true;simp[fitsB,hz,h3]
   clear e1 he hown hN h3 hz Ht;go_wp2;go_ret;exact⟨by rw[Hf.out];rfl,hB⟩
 ·have Hf:Hid (fitsB s=false):=by
   show fitsB s=false;unfold pToks at hp;by_cases hz:s.size=0
   ·simp[fitsB,hz]
   ·rw[if_neg hz]at hp;have hlast:last=pN s 0:=by
     have hlen:=hp.length_le;rw[List.length_append,List.length_singleton,List.length_singleton]at hlen;have:init=[]:=List.eq_nil_of_length_eq_zero (by omega);subst this;simpa using hp
    rw[hlast]at hl;unfold pN at hl;split at hl
    ·simp at hl
    ·rename_i h3
     simp[fitsB,h3]
  have hl2:(last.err == 0)=false:=by simpa using hl
  clear hl hp hi Ht;go_wp2;go_ret;exact⟨by rw[Hf.out];rfl,hB⟩
structure It where
 name:ByteArray
 object:Bool
 mixed:Bool
 coin:Bool
 wear:Int
 bnd:Int
 level:Int
def It.none:It:=⟨⟨#[]⟩,false,false,false,0,0,0⟩
abbrev It.cells (t:It):List Value:=[.string t.name,.bool t.object,.bool t.mixed,.bool t.coin,.int .i64 t.wear,.int .i64 t.bnd,.int .i64 t.level]
abbrev It.val (t:It):Value:=.agg #[.string t.name,.bool t.object,.bool t.mixed,.bool t.coin,.int .i64 t.wear,.int .i64 t.bnd,.int .i64 t.level]
def itAt (l:List It) (k:Nat):It:=l[k]?.getD It.none
def icells (l:List It):List Value:=l.flatMap It.cells
theorem icells_cons (t:It) (l:List It):icells (t :: l)=t.cells ++ icells l:=by simp[icells]
theorem icells_snoc (l:List It) (t:It):icells (l ++ [t])=icells l ++ t.cells:=by simp[icells]
theorem icells_length (l:List It):(icells l).length=l.length*7:=by
 induction l with
 | nil=>rfl
 | cons t l ih=>rw[icells_cons,List.length_append,ih];simp;omega
theorem icells_get (l:List It) (k r:Nat) (h:k<l.length) (hr:r<7):(icells l)[k*7+r]? = (itAt l k).cells[r]?:=by
 induction l generalizing k with
 | nil=>simp at h
 | cons t l ih =>
   rw[icells_cons];cases k with
   | zero=>rw[List.getElem?_append_left (by simp;omega)];simp[itAt]
   | succ k =>
     rw[List.getElem?_append_right (by simp;omega)];have e:(k+1)*7+r-t.cells.length=k*7+r:=by simp;omega
     rw[e,ih k (by simpa using h)];simp[itAt]
theorem itAt_mem {l:List It} {k:Nat} (h:k<l.length):itAt l k∈l:=by simp[itAt,h]
structure ItemsV (w : World) (A : Option Addr) (n : Nat) (l : List It) : Prop where
 row:Row w w.heap.size A (icells l)
 len:n=l.length
 small:n<=1000000
 name:∀t∈l,PlainName t.name
theorem ItemsV.below {w w':World} {A:Option Addr} {n:Nat} {l:List It} (h:ItemsV w A n l) (hb:Below w.heap.size w w'):ItemsV w' A n l:=⟨(h.row.below hb).more hb.size,h.len,h.small,h.name⟩
theorem ItemsV.at_ {w:World} {A:Option Addr} {n:Nat} {l:List It} (h:ItemsV w A n l) (k:Nat) (hk:k<n):∃b off,A=some ⟨b,off,none⟩∧b<w.heap.size ∧
 w.cell? ⟨b,off+k*7,none⟩=some (.string (itAt l k).name)∧w.cell? ⟨b,off+k*7+1,none⟩=some (.bool (itAt l k).object)∧w.cell? ⟨b,off+k*7+2,none⟩=some (.bool (itAt l k).mixed) ∧
 w.cell? ⟨b,off+k*7+3,none⟩=some (.bool (itAt l k).coin)∧w.cell? ⟨b,off+k*7+4,none⟩=some (.int .i64 (itAt l k).wear)∧w.cell? ⟨b,off+k*7+5,none⟩=some (.int .i64 (itAt l k).bnd)∧w.cell? ⟨b,off+k*7+6,none⟩=some (.int .i64 (itAt l k).level):=by
 have hl:k<l.length:=by have:=h.len;omega
 obtain⟨b,off,hA,hb,hc⟩:=h.row.at_ 0 (by rw[icells_length];omega);have g:=fun r hr=>icells_get l k r hl hr
 refine⟨b,off,hA,hb,?_,?_,?_,?_,?_,?_,?_⟩
 ·exact hc _ _ (g 0 (by omega))
 ·rw[Nat.add_assoc];exact hc _ _ (g 1 (by omega))
 ·rw[Nat.add_assoc];exact hc _ _ (g 2 (by omega))
 ·rw[Nat.add_assoc];exact hc _ _ (g 3 (by omega))
 ·rw[Nat.add_assoc];exact hc _ _ (g 4 (by omega))
 ·rw[Nat.add_assoc];exact hc _ _ (g 5 (by omega))
 ·rw[Nat.add_assoc];exact hc _ _ (g 6 (by omega))
def alikeB (a b:It):Bool:=(a.object == b.object) && (a.mixed == b.mixed) && (a.coin == b.coin)
theorem alike_any (a b:It) (w:World):Calls Tryz.prog 68 #[a.val,b.val] w fun e w'=>e=.returned (.bool (alikeB a b))∧Below w.heap.size w w':=by
 have hb0:Below w.heap.size w ((w.alloc (.cells #[.string a.name,.bool a.object,.bool a.mixed,.bool a.coin,.int .i64 a.wear,.int .i64 a.bnd,.int .i64 a.level] 42)).alloc (.cells #[.string b.name,.bool b.object,.bool b.mixed,.bool b.coin,.int .i64 b.wear,.int .i64 b.bnd,.int .i64 b.level] 42)):=((Below.refl _ _).alloc (Nat.le_refl _) _).alloc (by simp) _;obtain⟨n1,o1,m1,c1,w1,b1,l1⟩:=a;obtain⟨n2,o2,m2,c2,w2,b2,l2⟩:=b;have HA:Hid (alikeB ⟨n1,o1,m1,c1,w1,b1,l1⟩ ⟨n2,o2,m2,c2,w2,b2,l2⟩=((o1 == o2) && (m1 == m2) && (c1 == c2))):=rfl;dsimp only at hb0;cases h1:(o1 == o2)
 ·rw[h1]at HA;go_enter Tryz.func68,Tryz.ntmps68;go_wp2;go_ret;exact⟨by rw[HA.out];rfl,hb0⟩
 ·cases h2:(m1 == m2)
  ·rw[h1,h2]at HA;go_enter Tryz.func68,Tryz.ntmps68;go_wp2;go_ret;exact⟨by rw[HA.out];rfl,hb0⟩
  ·rw[h1,h2]at HA;go_enter Tryz.func68,Tryz.ntmps68;go_wp2;go_ret;exact⟨by rw[HA.out];rfl,hb0⟩
theorem itname_any (t:It) (w:World):Calls Tryz.prog 76 #[t.val] w fun e w'=>e=.returned (.string t.name)∧Below w.heap.size w w':=by
 go_enter Tryz.func76,Tryz.ntmps76;go_wp2;go_ret;exact⟨rfl,(Below.refl _ _).alloc (Nat.le_refl _) _⟩
def itFitsB (t:It):Bool:=fitsB t.name
theorem itfits_any (t:It) (hp:PlainName t.name) (w:World) (hT:Tab w):Calls Tryz.prog 259 #[t.val] w fun e w'=>e=.returned (.bool (itFitsB t))∧Below w.heap.size w w':=by
 have hb0:Below w.heap.size w (w.alloc (.cells #[.string t.name,.bool t.object,.bool t.mixed,.bool t.coin,.int .i64 t.wear,.int .i64 t.bnd,.int .i64 t.level] 42)):=(Below.refl _ _).alloc (Nat.le_refl _) _;have HT:=iH (hT.below hb0 hT.1);have Hp:=iH hp;clear hT hp;go_enter Tryz.func259,Tryz.ntmps259;go_wp2_with fail;refine(fits_plain t.name Hp.out _ HT.out).mono ?_;rintro e w1 ⟨rfl,hb1⟩;go_wp2;go_ret;exact⟨rfl,hb0.trans (hb1.mono (by simp))⟩
def itFormedB (t:It):Bool:=if t.object then(!t.mixed && !t.coin && decide (0<=t.bnd) && decide (t.bnd<=2)) else(t.wear == 0 && t.bnd == 0 && t.level == 0)
theorem itformed_any (t:It) (w:World):Calls Tryz.prog 269 #[t.val] w fun e w'=>e=.returned (.bool (itFormedB t))∧Below w.heap.size w w':=by
 have hb0:Below w.heap.size w (w.alloc (.cells #[.string t.name,.bool t.object,.bool t.mixed,.bool t.coin,.int .i64 t.wear,.int .i64 t.bnd,.int .i64 t.level] 42)):=(Below.refl _ _).alloc (Nat.le_refl _) _;obtain⟨nm,ob,mi,co,we,bi,le⟩:=t;dsimp only at hb0;cases ob
 ·by_cases h1:we=0
  ·have q1:(we == 0)=true:=by simpa using h1
   by_cases h2:bi=0
   ·have q2:(bi == 0)=true:=by simpa using h2
    have Hf:Hid (itFormedB ⟨nm,false,mi,co,we,bi,le⟩=(le == 0)):=by show itFormedB _=_;simp[itFormedB,h1,h2]
    clear h1 h2;go_enter Tryz.func269,Tryz.ntmps269;go_wp2;go_ret;exact⟨by rw[Hf.out];rfl,hb0⟩
   ·have q2:(bi == 0)=false:=by simpa using h2
    have Hf:Hid (itFormedB ⟨nm,false,mi,co,we,bi,le⟩=false):=by show itFormedB _=_;simp[itFormedB,h2]
    clear h1 h2;go_enter Tryz.func269,Tryz.ntmps269;go_wp2;go_ret;exact⟨by rw[Hf.out];rfl,hb0⟩
  ·have q1:(we == 0)=false:=by simpa using h1
   have Hf:Hid (itFormedB ⟨nm,false,mi,co,we,bi,le⟩=false):=by show itFormedB _=_;simp[itFormedB,h1]
   clear h1;go_enter Tryz.func269,Tryz.ntmps269;go_wp2;go_ret;exact⟨by rw[Hf.out];rfl,hb0⟩
 ·cases mi
  ·cases co
   ·by_cases h1:0<=bi
    ·have Hf:Hid (itFormedB ⟨nm,true,false,false,we,bi,le⟩=decide (bi<=2)):=by show itFormedB _=_;simp[itFormedB,h1]
     go_enter Tryz.func269,Tryz.ntmps269;go_wp2;go_ret;exact⟨by rw[Hf.out];rfl,hb0⟩
    ·have Hf:Hid (itFormedB ⟨nm,true,false,false,we,bi,le⟩=false):=by show itFormedB _=_;simp[itFormedB,h1]
     have h1':decide (0<=bi)=false:=by simpa using h1
     go_enter Tryz.func269,Tryz.ntmps269;go_wp2;go_ret;exact⟨by rw[Hf.out];rfl,hb0⟩
   ·go_enter Tryz.func269,Tryz.ntmps269;go_wp2;go_ret;exact⟨rfl,hb0⟩
  ·go_enter Tryz.func269,Tryz.ntmps269;go_wp2;go_ret;exact⟨rfl,hb0⟩
def itRangeB (t:It):Bool:=(!t.object || (decide (1<=t.wear) && decide (t.wear<=1048576))) && decide (0<=t.level) && decide (t.level<=100)
theorem itrange_any (t:It) (w:World):Calls Tryz.prog 280 #[t.val] w fun e w'=>e=.returned (.bool (itRangeB t))∧Below w.heap.size w w':=by
 have hb0:Below w.heap.size w (w.alloc (.cells #[.string t.name,.bool t.object,.bool t.mixed,.bool t.coin,.int .i64 t.wear,.int .i64 t.bnd,.int .i64 t.level] 42)):=(Below.refl _ _).alloc (Nat.le_refl _) _;obtain⟨nm,ob,mi,co,we,bi,le⟩:=t;dsimp only at hb0;have L:∀d:Bool,d=decide (0<=le)->itRangeB ⟨nm,ob,mi,co,we,bi,le⟩=((!ob || (decide (1<=we) && decide (we<=1048576))) && d && decide (le<=100)):=fun d h=>by rw[h];rfl
 have HL:=iH L;clear L;by_cases hl:0<=le
 ·have Hv:=iH (HL.out true (by simp[hl]));clear HL;cases ob
  ·go_enter Tryz.func280,Tryz.ntmps280;go_wp2;go_ret;exact⟨by rw[Hv.out];simp,hb0⟩
  ·by_cases h1:1<=we
   ·by_cases h2:we<=1048576
    ·go_enter Tryz.func280,Tryz.ntmps280;go_wp2;go_ret;exact⟨by rw[Hv.out];simp[h1,h2],hb0⟩
    ·have h2':decide (we<=1048576)=false:=by simpa using h2
     go_enter Tryz.func280,Tryz.ntmps280;go_wp2;go_ret;exact⟨by rw[Hv.out,h2'];simp,hb0⟩
   ·have h1':decide (1<=we)=false:=by simpa using h1
    go_enter Tryz.func280,Tryz.ntmps280;go_wp2;go_ret;exact⟨by rw[Hv.out,h1'];simp,hb0⟩
 ·have hl':decide (0<=le)=false:=by simpa using hl
  have Hv:=iH (HL.out false hl'.symm);clear HL;cases ob
  ·go_enter Tryz.func280,Tryz.ntmps280;go_wp2;go_ret;exact⟨by rw[Hv.out];simp,hb0⟩
  ·by_cases h1:1<=we
   ·by_cases h2:we<=1048576
    ·go_enter Tryz.func280,Tryz.ntmps280;go_wp2;go_ret;exact⟨by rw[Hv.out];simp,hb0⟩
    ·have h2':decide (we<=1048576)=false:=by simpa using h2
     go_enter Tryz.func280,Tryz.ntmps280;go_wp2;go_ret;exact⟨by rw[Hv.out];simp,hb0⟩
   ·have h1':decide (1<=we)=false:=by simpa using h1
    go_enter Tryz.func280,Tryz.ntmps280;go_wp2;go_ret;exact⟨by rw[Hv.out];simp,hb0⟩
def allTo (f:It->Bool) (l:List It) (k:Nat):Bool:=(l.take k).all f
theorem allTo_succ (f:It->Bool) (l:List It) (k:Nat) (h:k<l.length):allTo f l (k+1)=(allTo f l k && f (itAt l k)):=by
 unfold allTo;rw[List.take_succ_eq_append_getElem h,List.all_append];simp[itAt,h]
theorem all_no (f:It->Bool) (l:List It) (k:Nat) (h:k<l.length) (hf:f (itAt l k)=false):l.all f=false:=by
 rw[List.all_eq_false];exact⟨itAt l k,itAt_mem h,by simp[hf]⟩
theorem all_all (f:It->Bool) (l:List It) (n:Nat) (h:n=l.length):allTo f l n=l.all f:=by
 unfold allTo;rw[h,List.take_length]
theorem every_it125 {w:World} {A:Option Addr} {n:Nat} (c:Nat) {l:List It} (f:It->Bool) (h:ItemsV w A n l)
 (hF:Hid (∀(t:It) (W:World),t∈l->Below w.heap.size w W->Calls Tryz.prog 259 #[t.val] W fun e w'=>e=.returned (.bool (f t))∧Below W.heap.size W w')) :
 Calls Tryz.prog 258 #[.slice A n c,.func (.func 259) #[] #[]] w fun e w'=>e=.returned (.bool (l.all f))∧Below w.heap.size w w':=by
 have Hn:=iH h.len;have H:=iH h;have hs:=h.small;clear h;go_enter Tryz.func258,Tryz.ntmps258;go_wp2_with fail;go_loopw [9] (fun i wr=>∃k:Nat,k<=n∧i=.int .i64 k∧allTo f l k=true∧Below w.heap.size w wr) (fun i _=>n-(intOf i).toNat)
 case atStart=>exact⟨0,Nat.zero_le _,rfl,rfl,Below.refl _ _⟩
 case round =>
  obtain⟨k,hk,rfl,hR,hb⟩:=hrel;have HR:=iH hR;have hsz:=hb.size;clear hR;by_cases hlt:k<n
  ·have hkl:k<l.length:=by have:=Hn.out;omega
   obtain⟨b,off,rfl,hbb,c0,c1,c2,c3,c4,c5,c6⟩:=(H.out.below hb).at_ k hlt;have Hs:=iH (allTo_succ f l k hkl);have Hno:=iH (all_no f l k hkl);have hmem:=itAt_mem hkl;have hb2:Below w.heap.size w (wr.alloc (.cells #[.string (itAt l k).name,.bool (itAt l k).object,.bool (itAt l k).mixed,.bool (itAt l k).coin,.int .i64 (itAt l k).wear,.int .i64 (itAt l k).bnd,.int .i64 (itAt l k).level] 42)):=hb.alloc hsz _;have HC:=iH (hF.out (itAt l k) _ hmem hb2);clear hkl hmem;generalize itAt l k=t at *;obtain⟨nm,ob,mi,co,we,bi,le⟩:=t;dsimp only at *;go_wp2_with fail;refine HC.out.mono ?_;rintro e w1 ⟨rfl,hb1⟩;have hb3:Below w.heap.size w w1:=hb2.trans (hb1.mono (by simp;omega));clear HC;cases hq:f ⟨nm,ob,mi,co,we,bi,le⟩
   ·have Hq:=iH (Hno.out hq);clear hq Hs Hno;go_wp2;go_ret;exact⟨by rw[Hq.out];rfl,hb3⟩
   ·rw[hq,HR.out]at Hs;clear hq Hno;go_wp2;go_roundw
    case rel=>exact⟨k+1,by omega,by go_num,Hs.out,hb3⟩
    case measure=>simp[intOf];omega
  ·have hkn:k=n:=by omega
   have HT:Hid (l.all f=true):=by
    show l.all f=true;rw[<- all_all f l n Hn.out,<- hkn];exact HR.out
   clear hkn;go_wp2;go_ret;exact⟨by rw[HT.out];rfl,hb⟩
theorem every_it139 {w:World} {A:Option Addr} {n:Nat} (c:Nat) {l:List It} (f:It->Bool) (h:ItemsV w A n l)
 (hF:Hid (∀(t:It) (W:World),t∈l->Below w.heap.size w W->Calls Tryz.prog 269 #[t.val] W fun e w'=>e=.returned (.bool (f t))∧Below W.heap.size W w')) :
 Calls Tryz.prog 258 #[.slice A n c,.func (.func 269) #[] #[]] w fun e w'=>e=.returned (.bool (l.all f))∧Below w.heap.size w w':=by
 have Hn:=iH h.len;have H:=iH h;have hs:=h.small;clear h;go_enter Tryz.func258,Tryz.ntmps258;go_wp2_with fail;go_loopw [9] (fun i wr=>∃k:Nat,k<=n∧i=.int .i64 k∧allTo f l k=true∧Below w.heap.size w wr) (fun i _=>n-(intOf i).toNat)
 case atStart=>exact⟨0,Nat.zero_le _,rfl,rfl,Below.refl _ _⟩
 case round =>
  obtain⟨k,hk,rfl,hR,hb⟩:=hrel;have HR:=iH hR;have hsz:=hb.size;clear hR;by_cases hlt:k<n
  ·have hkl:k<l.length:=by have:=Hn.out;omega
   obtain⟨b,off,rfl,hbb,c0,c1,c2,c3,c4,c5,c6⟩:=(H.out.below hb).at_ k hlt;have Hs:=iH (allTo_succ f l k hkl);have Hno:=iH (all_no f l k hkl);have hmem:=itAt_mem hkl;have hb2:Below w.heap.size w (wr.alloc (.cells #[.string (itAt l k).name,.bool (itAt l k).object,.bool (itAt l k).mixed,.bool (itAt l k).coin,.int .i64 (itAt l k).wear,.int .i64 (itAt l k).bnd,.int .i64 (itAt l k).level] 42)):=hb.alloc hsz _;have HC:=iH (hF.out (itAt l k) _ hmem hb2);clear hkl hmem;generalize itAt l k=t at *;obtain⟨nm,ob,mi,co,we,bi,le⟩:=t;dsimp only at *;go_wp2_with fail;refine HC.out.mono ?_;rintro e w1 ⟨rfl,hb1⟩;have hb3:Below w.heap.size w w1:=hb2.trans (hb1.mono (by simp;omega));clear HC;cases hq:f ⟨nm,ob,mi,co,we,bi,le⟩
   ·have Hq:=iH (Hno.out hq);clear hq Hs Hno;go_wp2;go_ret;exact⟨by rw[Hq.out];rfl,hb3⟩
   ·rw[hq,HR.out]at Hs;clear hq Hno;go_wp2;go_roundw
    case rel=>exact⟨k+1,by omega,by go_num,Hs.out,hb3⟩
    case measure=>simp[intOf];omega
  ·have hkn:k=n:=by omega
   have HT:Hid (l.all f=true):=by
    show l.all f=true;rw[<- all_all f l n Hn.out,<- hkn];exact HR.out
   clear hkn;go_wp2;go_ret;exact⟨by rw[HT.out];rfl,hb⟩
theorem every_it150 {w:World} {A:Option Addr} {n:Nat} (c:Nat) {l:List It} (f:It->Bool) (h:ItemsV w A n l)
 (hF:Hid (∀(t:It) (W:World),t∈l->Below w.heap.size w W->Calls Tryz.prog 280 #[t.val] W fun e w'=>e=.returned (.bool (f t))∧Below W.heap.size W w')) :
 Calls Tryz.prog 258 #[.slice A n c,.func (.func 280) #[] #[]] w fun e w'=>e=.returned (.bool (l.all f))∧Below w.heap.size w w':=by
 have Hn:=iH h.len;have H:=iH h;have hs:=h.small;clear h;go_enter Tryz.func258,Tryz.ntmps258;go_wp2_with fail;go_loopw [9] (fun i wr=>∃k:Nat,k<=n∧i=.int .i64 k∧allTo f l k=true∧Below w.heap.size w wr) (fun i _=>n-(intOf i).toNat)
 case atStart=>exact⟨0,Nat.zero_le _,rfl,rfl,Below.refl _ _⟩
 case round =>
  obtain⟨k,hk,rfl,hR,hb⟩:=hrel;have HR:=iH hR;have hsz:=hb.size;clear hR;by_cases hlt:k<n
  ·have hkl:k<l.length:=by have:=Hn.out;omega
   obtain⟨b,off,rfl,hbb,c0,c1,c2,c3,c4,c5,c6⟩:=(H.out.below hb).at_ k hlt;have Hs:=iH (allTo_succ f l k hkl);have Hno:=iH (all_no f l k hkl);have hmem:=itAt_mem hkl;have hb2:Below w.heap.size w (wr.alloc (.cells #[.string (itAt l k).name,.bool (itAt l k).object,.bool (itAt l k).mixed,.bool (itAt l k).coin,.int .i64 (itAt l k).wear,.int .i64 (itAt l k).bnd,.int .i64 (itAt l k).level] 42)):=hb.alloc hsz _;have HC:=iH (hF.out (itAt l k) _ hmem hb2);clear hkl hmem;generalize itAt l k=t at *;obtain⟨nm,ob,mi,co,we,bi,le⟩:=t;dsimp only at *;go_wp2_with fail;refine HC.out.mono ?_;rintro e w1 ⟨rfl,hb1⟩;have hb3:Below w.heap.size w w1:=hb2.trans (hb1.mono (by simp;omega));clear HC;cases hq:f ⟨nm,ob,mi,co,we,bi,le⟩
   ·have Hq:=iH (Hno.out hq);clear hq Hs Hno;go_wp2;go_ret;exact⟨by rw[Hq.out];rfl,hb3⟩
   ·rw[hq,HR.out]at Hs;clear hq Hno;go_wp2;go_roundw
    case rel=>exact⟨k+1,by omega,by go_num,Hs.out,hb3⟩
    case measure=>simp[intOf];omega
  ·have hkn:k=n:=by omega
   have HT:Hid (l.all f=true):=by
    show l.all f=true;rw[<- all_all f l n Hn.out,<- hkn];exact HR.out
   clear hkn;go_wp2;go_ret;exact⟨by rw[HT.out];rfl,hb⟩
theorem run_mapHint {P:Program} (t k e:TypeId) (kd:IntKind) (n:Int) (ht:P.underlying t=some (.map k e)) (w:World) :
 (Instr.makeMap t (some (.int kd n))).run P w=.ok (.map (some w.heap.size)) (w.alloc (.map #[] 0)):=by
 simp[Instr.makeMap,run_underlying ht];rfl
theorem every_nil118 (fv:Value) (w:World):Calls Tryz.prog 252 #[.slice none 0 0,fv] w fun e w'=>e=.returned (.bool true)∧w=w':=by
 go_enter Tryz.func252,Tryz.ntmps252;go_wp2;refine wp_loop_rounds 1 ?_;rw[rounds_succ];go_wp2;go_ret;exact⟨rfl,rfl⟩
theorem every_nil120 (fv:Value) (w:World):Calls Tryz.prog 254 #[.slice none 0 0,fv] w fun e w'=>e=.returned (.bool true)∧w=w':=by
 go_enter Tryz.func254,Tryz.ntmps254;go_wp2;refine wp_loop_rounds 1 ?_;rw[rounds_succ];go_wp2;go_ret;exact⟨rfl,rfl⟩
theorem every_nil122 (fv:Value) (w:World):Calls Tryz.prog 256 #[.slice none 0 0,fv] w fun e w'=>e=.returned (.bool true)∧w=w':=by
 go_enter Tryz.func256,Tryz.ntmps256;go_wp2;refine wp_loop_rounds 1 ?_;rw[rounds_succ];go_wp2;go_ret;exact⟨rfl,rfl⟩
theorem differ_nil132 (fv:Value) (w:World):Calls Tryz.prog 265 #[.slice none 0 0,fv] w fun e w'=>e=.returned (.bool true)∧Below w.heap.size w w':=by
 have hmm:=fun W:World=>run_mapHint (P:=Tryz.prog) 409 9 4 .i64 0 Tryz.underlying409 W
 go_enter Tryz.func265,Tryz.ntmps265;go_wp2;refine wp_loop_rounds 1 ?_;rw[rounds_succ];go_wp2;go_ret;exact⟨rfl,(Below.refl _ _).alloc (Nat.le_refl _) _⟩
theorem differ_nil134 (fv:Value) (w:World):Calls Tryz.prog 266 #[.slice none 0 0,fv] w fun e w'=>e=.returned (.bool true)∧Below w.heap.size w w':=by
 have hmm:=fun W:World=>run_mapHint (P:=Tryz.prog) 409 9 4 .i64 0 Tryz.underlying409 W
 go_enter Tryz.func266,Tryz.ntmps266;go_wp2;refine wp_loop_rounds 1 ?_;rw[rounds_succ];go_wp2;go_ret;exact⟨rfl,(Below.refl _ _).alloc (Nat.le_refl _) _⟩
theorem differ_nil136 (fv:Value) (w:World):Calls Tryz.prog 267 #[.slice none 0 0,fv] w fun e w'=>e=.returned (.bool true)∧Below w.heap.size w w':=by
 have hmm:=fun W:World=>run_mapHint (P:=Tryz.prog) 409 9 4 .i64 0 Tryz.underlying409 W
 go_enter Tryz.func267,Tryz.ntmps267;go_wp2;refine wp_loop_rounds 1 ?_;rw[rounds_succ];go_wp2;go_ret;exact⟨rfl,(Below.refl _ _).alloc (Nat.le_refl _) _⟩
theorem grown_of_below {a w:World} (h:Below a.heap.size a w) (row:Option Nat):a.grownBy w row:=⟨h.os,h.tape,h.output,h.size,fun i hi _=>h.block i hi⟩
theorem zero4 (w:World):(zeroValue 4).run Tryz.prog w=.ok (.bool false) w:=by kernel_rfl
theorem zero3 (w:World):(zeroValue 3).run Tryz.prog w=.ok (.int .i64 0) w:=by kernel_rfl
theorem plainBool_inv {P:Program} {e:TypeId} (he:P.underlying e=some .bool) {v:Value} {z:DataW Unit×List MemPlace} (h:plainElem P e v=some z):∃x,v=.bool x∧z=(.lit (.bool x),[]):=by
 unfold plainElem at h;rw[he]at h;cases v <;> simp_all
theorem key_str {s:ByteArray} (h:s.size<=maxLen):keyOf Tryz.prog 9 (.string s)=some (.string s.data.toList):=WideMaps.keyOf_string_mk Tryz.underlying9 h
theorem keyLit (l:List UInt8):WideAt.IsKeyLit (.string l):=by simp[WideAt.IsKeyLit]
theorem bytes_inj {s t:ByteArray} (h:s.data.toList=t.data.toList):s=t:=by
 cases s;cases t;simp only[ByteArray.mk.injEq];exact Array.toList_inj.1 h
def MapS (w:World) (b n:Nat) (M:ByteArray->Bool):Prop :=
 ∃D:DataW Unit,w.ownsMap Tryz.prog 9 (plainElem Tryz.prog 4) b n D∧∀s:ByteArray,D.atKey (.string s.data.toList) (.lit (.bool false))=.lit (.bool (M s))
theorem MapS.made (w:World):MapS (w.alloc (.map #[] 0)) w.heap.size 0 fun _=>false :=
 ⟨_,World.ownsMap_made w Tryz.prog 9 (plainElem Tryz.prog 4),fun _=>rfl⟩
theorem MapS.kept {w w':World} {b n:Nat} {M:ByteArray->Bool} {row:Option Nat} (h:MapS w b n M) (hg:w.grownBy w' row) (hne:some b≠row):MapS w' b n M:=by
 obtain⟨D,ho,hD⟩:=h;exact⟨D,ho.kept hg hne,hD⟩
theorem MapS.below {w w':World} {b n:Nat} {M:ByteArray->Bool} (h:MapS w b n M) (hb:Below w.heap.size w w'):MapS w' b n M:=h.kept (grown_of_below hb none) (by simp)
theorem MapS.look {w:World} {b n:Nat} {M:ByteArray->Bool} (h:MapS w b n M) {s:ByteArray} (hs:s.size<=maxLen) :
 (Instr.lookup 409 (.map (some b)) (.string s) false).run Tryz.prog w=.ok (.bool (M s)) w:=by
 obtain⟨D,ho,hD⟩:=h;obtain⟨v,ps,hrun,hv⟩:=ho.lookup (Maps.string_keyed Tryz.underlying9) Tryz.underlying409 (zero4 w) (plainElem_bool Tryz.underlying4 false) (key_str hs);obtain⟨x,rfl,hx⟩:=plainBool_inv Tryz.underlying4 hv;rw[hD s]at hx;have:x=M s:=by have:=hx.symm;simp at this;exact this.1
 rw[this]at hrun;exact hrun
theorem MapS.put {w:World} {b n:Nat} {M:ByteArray->Bool} (h:MapS w b n M) {s:ByteArray} (hs:s.size<=maxLen) (hn:n<1000000000) :
 ∃w',(Instr.mapUpdate 409 (.map (some b)) (.string s) (.bool true)).run Tryz.prog w=.ok () w'∧MapS w' b (n+1) (fun t=>decide (t=s) || M t)∧w.grownBy w' (some b):=by
 obtain⟨D,ho,hD⟩:=h;obtain⟨w',hrun,ho',hg⟩:=ho.update (Maps.string_keyed Tryz.underlying9) Tryz.underlying409 (by unfold maxLen;omega) (key_str hs) (plainElem_bool Tryz.underlying4 true);refine⟨w',hrun,⟨_,ho',fun t=>?_⟩,hg⟩;by_cases hx:t=s
 ·subst hx;rw[Maps.atKey_put_same ho.isMap (keyLit _)];simp
 ·have hne:(Lit.string t.data.toList)≠.string s.data.toList:=fun e=>hx (bytes_inj (by simpa using e))
  rw[Maps.atKey_put_other hne,hD t];simp[hx]
def MapI (w:World) (b n:Nat) (M:ByteArray->Option Nat):Prop :=
 ∃D:DataW Unit,w.ownsMap Tryz.prog 9 (plainElem Tryz.prog 3) b n D∧∀s:ByteArray,Maps.has D (.string s.data.toList)=(M s).isSome∧D.atKey (.string s.data.toList) (.lit (.int .i64 0))=.lit (.int .i64 (((M s).getD 0:Nat):Int))
theorem MapI.made (w:World):MapI (w.alloc (.map #[] 0)) w.heap.size 0 fun _=>none :=
 ⟨_,World.ownsMap_made w Tryz.prog 9 (plainElem Tryz.prog 3),fun _=>⟨rfl,rfl⟩⟩
theorem MapI.kept {w w':World} {b n:Nat} {M:ByteArray->Option Nat} {row:Option Nat} (h:MapI w b n M) (hg:w.grownBy w' row) (hne:some b≠row):MapI w' b n M:=by
 obtain⟨D,ho,hD⟩:=h;exact⟨D,ho.kept hg hne,hD⟩
theorem MapI.below {w w':World} {b n:Nat} {M:ByteArray->Option Nat} (h:MapI w b n M) (hb:Below w.heap.size w w'):MapI w' b n M:=h.kept (grown_of_below hb none) (by simp)
theorem MapI.lt {w:World} {b n:Nat} {M:ByteArray->Option Nat} (h:MapI w b n M):b<w.heap.size:=by
 obtain⟨D,ho,hD⟩:=h;exact ho.lt
theorem MapI.look {w:World} {b n:Nat} {M:ByteArray->Option Nat} (h:MapI w b n M) {s:ByteArray} (hs:s.size<=maxLen) :
 (Instr.lookup 117 (.map (some b)) (.string s) true).run Tryz.prog w=.ok (.tuple #[.int .i64 (((M s).getD 0:Nat):Int),.bool (M s).isSome]) w:=by
 obtain⟨D,ho,hD⟩:=h;obtain⟨v,ps,hrun,hv⟩:=ho.look_ok (Maps.string_keyed Tryz.underlying9) Tryz.underlying117 (zero3 w) (plainElem_int Tryz.underlying3 (by decide)) (key_str hs);obtain⟨x,rfl,hx,_⟩:=plainElem_int_inv Tryz.underlying3 hv;rw[(hD s).2]at hx;have:x=(((M s).getD 0:Nat):Int):=by have:=hx.symm;simp at this;exact this.1
 rw[this,(hD s).1]at hrun;exact hrun
theorem MapI.put {w:World} {b n:Nat} {M:ByteArray->Option Nat} (h:MapI w b n M) {s:ByteArray} (hs:s.size<=maxLen) (i:Nat) (hi:i<=1000000) (hn:n<1000000000) :
 ∃w',(Instr.mapUpdate 117 (.map (some b)) (.string s) (.int .i64 (i:Int))).run Tryz.prog w=.ok () w'∧MapI w' b (n+1) (fun t=>if t=s then some i else M t)∧w.grownBy w' (some b):=by
 obtain⟨D,ho,hD⟩:=h;obtain⟨w',hrun,ho',hg⟩:=ho.update (Maps.string_keyed Tryz.underlying9) Tryz.underlying117 (by unfold maxLen;omega) (key_str hs) (plainElem_int Tryz.underlying3 (a:=(i:Int)) (WalkArith.wf_i64 ⟨by omega,by omega⟩));refine⟨w',hrun,⟨_,ho',fun t=>?_⟩,hg⟩;by_cases hx:t=s
 ·subst hx;rw[Maps.has_put_same ho.isMap (keyLit _),Maps.atKey_put_same ho.isMap (keyLit _)];simp
 ·have hne:(Lit.string t.data.toList)≠.string s.data.toList:=fun e=>hx (bytes_inj (by simpa using e))
  rw[Maps.has_put_other hne,Maps.atKey_put_other hne,(hD t).1,(hD t).2];simp[hx]
def hasN (l:List It) (s:ByteArray):Bool:=l.any fun t=>decide (s=t.name)
theorem hasN_snoc (l:List It) (t:It) (s:ByteArray):hasN (l ++ [t]) s=(decide (s=t.name) || hasN l s):=by
 simp[hasN,Bool.or_comm]
theorem take_it (l:List It) (k:Nat) (h:k<l.length):l.take (k+1)=l.take k ++ [itAt l k]:=by
 rw[List.take_succ_eq_append_getElem h];simp only[itAt,List.getElem?_eq_getElem h,Option.getD_some]
def distTo (l:List It):Nat->Bool
 | 0=>true
 | k+1=>distTo l k && !hasN (l.take k) (itAt l k).name
def distB (l:List It):Bool:=distTo l l.length
theorem distTo_no {l:List It} {k:Nat} (h:hasN (l.take k) (itAt l k).name=true):∀m,k<m->distTo l m=false:=by
 intro m hm
 induction m with
 | zero=>omega
 | succ m ih =>
   by_cases e:k=m
   ·subst e;simp[distTo,h]
   ·simp[distTo,ih (by omega)]
theorem plain_max {s:ByteArray} (h:PlainName s):s.size<=maxLen:=by have:=h.len;unfold maxLen;omega
theorem differ_items {w:World} {A:Option Addr} {n:Nat} (c:Nat) {l:List It} (h:ItemsV w A n l) :
 Calls Tryz.prog 264 #[.slice A n c,.func (.func 76) #[] #[]] w fun e w'=>e=.returned (.bool (distB l))∧Below w.heap.size w w':=by
 have hmm:=fun W:World=>run_mapHint (P:=Tryz.prog) 409 9 4 .i64 n Tryz.underlying409 W
 have Hn:=iH h.len;have H:=iH h;have hs:=h.small;clear h;go_enter Tryz.func264,Tryz.ntmps264;go_wp2_with fail;have Hm0:=iH (MapS.made w);have hB0:Below w.heap.size w (w.alloc (.map #[] 0)):=(Below.refl _ _).alloc (Nat.le_refl _) _;go_loopw [13] (fun i wr=>∃k:Nat,k<=n∧i=.int .i64 k∧distTo l k=true∧MapS wr w.heap.size k (hasN (l.take k))∧Below w.heap.size w wr) (fun i _=>n-(intOf i).toNat)
 case atStart=>exact⟨0,Nat.zero_le _,rfl,rfl,Hm0.out,hB0⟩
 case round =>
  obtain⟨k,hk,rfl,hR,hm,hb⟩:=hrel;have HR:=iH hR;have HM:=iH hm;have hsz:=hb.size;clear hR hm hmm Hm0;by_cases hlt:k<n
  ·have hkl:k<l.length:=by have:=Hn.out;omega
   obtain⟨b,off,rfl,hbb,c0,c1,c2,c3,c4,c5,c6⟩:=(H.out.below hb).at_ k hlt;have hpm:=plain_max (H.out.name _ (itAt_mem hkl));have hb2:Below w.heap.size w (wr.alloc (.cells #[.string (itAt l k).name,.bool (itAt l k).object,.bool (itAt l k).mixed,.bool (itAt l k).coin,.int .i64 (itAt l k).wear,.int .i64 (itAt l k).bnd,.int .i64 (itAt l k).level] 42)):=hb.alloc hsz _;have Hst:Hid (hasN (l.take k) (itAt l k).name=false->distTo l (k+1)=true):=fun h=>by simp[distTo,HR.out,h]
   have Hno:Hid (hasN (l.take k) (itAt l k).name=true->distB l=false):=fun h=>distTo_no h _ hkl
   have HT:Hid (hasN (l.take (k+1))=fun s=>decide (s=(itAt l k).name) || hasN (l.take k) s):=by
    show hasN (l.take (k+1))=_;funext s;rw[take_it l k hkl,hasN_snoc]
   have HM2:=iH (HM.out.below ((Below.refl _ wr).alloc (Nat.le_refl _) (.cells #[.string (itAt l k).name,.bool (itAt l k).object,.bool (itAt l k).mixed,.bool (itAt l k).coin,.int .i64 (itAt l k).wear,.int .i64 (itAt l k).bnd,.int .i64 (itAt l k).level] 42)));clear hkl HM;generalize itAt l k=t at *;obtain⟨nm,ob,mi,co,we,bi,le⟩:=t;dsimp only at *;go_wp2_with fail;have HB:=iH (Bk.new wr 42 [.string nm,.bool ob,.bool mi,.bool co,.int .i64 we,.int .i64 bi,.int .i64 le]);refine(itname_any ⟨nm,ob,mi,co,we,bi,le⟩ _).mono ?_;rintro e w1 ⟨rfl,hb1⟩;have hb3:Below w.heap.size w w1:=hb2.trans (hb1.mono (by simp;omega));have HM3:=iH (HM2.out.below hb1);have HB3:=iH (HB.out.below hb1 (by simp));have hlk:=HM3.out.look hpm;clear HM2 HB hb1;cases hq:hasN (l.take k) nm
   ·have Hq:=iH (Hst.out hq);rw[hq]at hlk;clear hq Hst Hno;have d0:=HB3.out.k0;have d1:=HB3.out.k1;have d2:=HB3.out.k2;have d3:=HB3.out.k3;have d4:=HB3.out.k4;have d5:=HB3.out.k5;have d6:=HB3.out.k6;go_wp2_with fail;refine(itname_any ⟨nm,ob,mi,co,we,bi,le⟩ _).mono ?_;rintro e w2 ⟨rfl,hb4⟩;obtain⟨w3,hrun,hM4,hg4⟩:=(HM3.out.below hb4).put hpm (by omega);have hb5:Below w.heap.size w w3:=(hb3.trans (hb4.mono hb3.size)).grown hg4 (Nat.le_trans hb3.size hb4.size) (fun g e=>by cases e;exact Nat.le_refl _);have HM4:=iH hM4;clear hM4 hg4 hb4 d0 d1 d2 d3 d4 d5 d6 hlk;go_wp2;go_roundw
    case rel=>exact⟨k+1,by omega,by go_num,Hq.out,by rw[HT.out];exact HM4.out,hb5⟩
    case measure=>simp[intOf];omega
   ·have Hq:=iH (Hno.out hq);rw[hq]at hlk;clear hq Hst Hno;go_wp2;go_ret;exact⟨by rw[Hq.out];rfl,hb3⟩
  ·have hkn:k=l.length:=by have:=Hn.out;omega
   have HT:Hid (distB l=true):=by show distB l=true;unfold distB;rw[<- hkn];exact HR.out
   clear hkn;go_wp2;go_ret;exact⟨by rw[HT.out];rfl,hb⟩
end
end Go.Proofs.YtiecjoijnkghbaaGreatDoor
