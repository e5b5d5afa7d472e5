/- Two catalogs, of which the second may have a changed part. catalog.Equal on two catalogs that say the same: true. Plain law of VersionSame: a catalog and itself. Plain law of Merge: the new place of an item is where its name stands. -/
import Derived.Test.YtiecjoijnkghbaaGreatDoorY1
import Derived.Test.YtiecjoijnkghbaaGreatDoorY7
import Derived.Test.YtiecjoijnkghbaaGreatDoorY9
import Derived.Test.YtiecjoijnkghbaaGreatDoorY14
import Derived.Test.YtiecjoijnkghbaaGreatDoorY15
import Derived.Test.YtiecjoijnkghbaaGreatDoorY19
import Derived.Laws.StructEq
import Derived.BigQuiet
set_option linter.unusedVariables false
set_option linter.unusedSimpArgs false
set_option maxRecDepth 100000
set_option maxHeartbeats 4000000
open Go.RowKit
namespace Go.Proofs.YtiecjoijnkghbaaGreatDoor
set_option linter.unusedVariables false
set_option linter.unusedSimpArgs false
theorem far_opened {W:World} {base:Nat} {A:Option Addr} {n c:Nat} (h:Value.okWide Tryz.prog W .any base 22 (.slice A n c)):∀b off,A=some ⟨b,off,none⟩->b<W.heap.size:=by
 intro b off e;subst e;simp only[Value.okWide,Tryz.underlying22,Cell.okWide,Cell.ok]at h;obtain⟨_,_,_,_,row,cells,hs,_⟩:=h;rcases Nat.lt_or_ge b W.heap.size with h1|h1
 ·exact h1
 ·exfalso;simp[World.shape?,Array.getElem?_eq_none h1]at hs
structure TwS (w W : World) (b8 b9 : Nat) (m1 m2 : CatM) : Prop where
 bel:Below w.heap.size w W
 r6:Bk W w.heap.size 28 nil4
 r7:Bk W (w.heap.size+1) 28 nil4
 k8:Bk W b8 28 (catSL m1.si m1.sr m1.st m1.sx)
 k9:Bk W b9 28 (catSL m2.si m2.sr m2.st m2.sx)
 g8:w.heap.size+2<=b8
 g9:b8<b9
 ok1:m1.Ok W
 ok2:m2.Ok W
theorem TwS.below {w W W':World} {b8 b9:Nat} {m1 m2:CatM} (h:TwS w W b8 b9 m1 m2) (hb:Below W.heap.size W W'):TwS w W' b8 b9 m1 m2 :=
 ⟨h.bel.trans (hb.mono h.bel.size),h.r6.below hb h.r6.lt,h.r7.below hb h.r7.lt,h.k8.below hb h.k8.lt,h.k9.below hb h.k9.lt,h.g8,h.g9,h.ok1.below hb,h.ok2.below hb⟩
def CatSh (m:CatM):Prop:=(∀r∈m.rules,ruSmall 4 r)∧∀t∈m.tables,∀r∈t.rows,r.give.length<=4
theorem CatSm.sh {m:CatM} (h:CatSm m):CatSh m:=⟨fun r hr=>by have:=h.short r hr;unfold ruSmall at this⊢;omega,fun t ht r hr=>by have:=h.rows t ht r hr;omega⟩
def TwoG (w:World) (e:Ending) (W:World):Prop:=∃a b:CatM,e=.returned (.tuple #[a.val,b.val])∧a.Ok W∧b.Ok W∧Below w.heap.size w W∧CatSh a∧CatSh b
theorem TwoG.drew {w W:World} {e:Ending} (h:TwoG w e W):TwoG w e W.drew:=by
 obtain⟨a,b,he,h1,h2,h3,h4⟩:=h;exact⟨a,b,he,h1.below (Below.refl _ _).drew,h2.below (Below.refl _ _).drew,h3.trans ((Below.refl _ _).drew.mono h3.size),h4⟩
theorem CatM.Ok.set28 {W:World} {g k:Nat} {u:Value} {xs:List Value} {m:CatM} (h:m.Ok W) (hb:Bk W g 28 xs):m.Ok (W.setCell ⟨g,k,none⟩ u):=h.keeps fun _ _ h2=>Keep.setCell hb (Ne.symm h2) u
theorem TwS.put {w W:World} {b8 b9:Nat} {m1 m2 m3:CatM} (h:TwS w W b8 b9 m1 m2) (h3:m3.Ok W):TwS w ((((W.setCell ⟨b9,0,none⟩ (.slice m3.si.A m3.si.n m3.si.c)).setCell ⟨b9,1,none⟩ (.slice m3.sr.A m3.sr.n m3.sr.c)).setCell ⟨b9,2,none⟩ (.slice m3.st.A m3.st.n m3.st.c)).setCell ⟨b9,3,none⟩ (.slice m3.sx.A m3.sx.n m3.sx.c)) b8 b9 m1 m3:=by
 have g8:=h.g8;have g9:=h.g9;have q0:=h.k9;have q1:=q0.set 0 (.slice m3.si.A m3.si.n m3.si.c);have q2:=q1.set 1 (.slice m3.sr.A m3.sr.n m3.sr.c);have q3:=q2.set 2 (.slice m3.st.A m3.st.n m3.st.c);have q4:=q3.set 3 (.slice m3.sx.A m3.sx.n m3.sx.c);exact⟨(((h.bel.setCell (p:=⟨b9,0,none⟩) (by dsimp only;omega) _).setCell (p:=⟨b9,1,none⟩) (by dsimp only;omega) _).setCell (p:=⟨b9,2,none⟩) (by dsimp only;omega) _).setCell (p:=⟨b9,3,none⟩) (by dsimp only;omega) _,
  (((h.r6.far (p:=⟨b9,0,none⟩) (by dsimp only;omega) _).far (p:=⟨b9,1,none⟩) (by dsimp only;omega) _).far (p:=⟨b9,2,none⟩) (by dsimp only;omega) _).far (p:=⟨b9,3,none⟩) (by dsimp only;omega) _,(((h.r7.far (p:=⟨b9,0,none⟩) (by dsimp only;omega) _).far (p:=⟨b9,1,none⟩) (by dsimp only;omega) _).far (p:=⟨b9,2,none⟩) (by dsimp only;omega) _).far (p:=⟨b9,3,none⟩) (by dsimp only;omega) _,(((h.k8.far (p:=⟨b9,0,none⟩) (by dsimp only;omega) _).far (p:=⟨b9,1,none⟩) (by dsimp only;omega) _).far (p:=⟨b9,2,none⟩) (by dsimp only;omega) _).far (p:=⟨b9,3,none⟩) (by dsimp only;omega) _,q4,h.g8,h.g9,
  (((h.ok1.set28 q0).set28 q1).set28 q2).set28 q3,(((h3.set28 q0).set28 q1).set28 q2).set28 q3⟩
theorem TwS.fin {w W:World} {b8 b9:Nat} {m1 m2:CatM} (h:TwS w W b8 b9 m1 m2) (hs1:CatSh m1) (hs2:CatSh m2) :
 TwoG w (.returned (.tuple #[.agg #[.slice m1.si.A m1.si.n m1.si.c,.slice m1.sr.A m1.sr.n m1.sr.c,.slice m1.st.A m1.st.n m1.st.c,.slice m1.sx.A m1.sx.n m1.sx.c],.agg #[.slice m2.si.A m2.si.n m2.si.c,.slice m2.sr.A m2.sr.n m2.sr.c,.slice m2.st.A m2.st.n m2.st.c,.slice m2.sx.A m2.sx.n m2.sx.c]])) ((((((((W.setCell ⟨w.heap.size,0,none⟩ (.slice m1.si.A m1.si.n m1.si.c)).setCell ⟨w.heap.size,1,none⟩ (.slice m1.sr.A m1.sr.n m1.sr.c)).setCell ⟨w.heap.size,2,none⟩ (.slice m1.st.A m1.st.n m1.st.c)).setCell ⟨w.heap.size,3,none⟩ (.slice m1.sx.A m1.sx.n m1.sx.c)).setCell ⟨(w.heap.size+1),0,none⟩ (.slice m2.si.A m2.si.n m2.si.c)).setCell ⟨(w.heap.size+1),1,none⟩ (.slice m2.sr.A m2.sr.n m2.sr.c)).setCell ⟨(w.heap.size+1),2,none⟩ (.slice m2.st.A m2.st.n m2.st.c)).setCell ⟨(w.heap.size+1),3,none⟩ (.slice m2.sx.A m2.sx.n m2.sx.c)) ∧
 ((((((((W.setCell ⟨w.heap.size,0,none⟩ (.slice m1.si.A m1.si.n m1.si.c)).setCell ⟨w.heap.size,1,none⟩ (.slice m1.sr.A m1.sr.n m1.sr.c)).setCell ⟨w.heap.size,2,none⟩ (.slice m1.st.A m1.st.n m1.st.c)).setCell ⟨w.heap.size,3,none⟩ (.slice m1.sx.A m1.sx.n m1.sx.c)).setCell ⟨(w.heap.size+1),0,none⟩ (.slice m2.si.A m2.si.n m2.si.c)).setCell ⟨(w.heap.size+1),1,none⟩ (.slice m2.sr.A m2.sr.n m2.sr.c)).setCell ⟨(w.heap.size+1),2,none⟩ (.slice m2.st.A m2.st.n m2.st.c)).setCell ⟨(w.heap.size+1),3,none⟩ (.slice m2.sx.A m2.sx.n m2.sx.c)).heap[w.heap.size]? = some (.cells #[.slice m1.si.A m1.si.n m1.si.c,.slice m1.sr.A m1.sr.n m1.sr.c,.slice m1.st.A m1.st.n m1.st.c,.slice m1.sx.A m1.sx.n m1.sx.c] 28 (0,0))∧((((((((W.setCell ⟨w.heap.size,0,none⟩ (.slice m1.si.A m1.si.n m1.si.c)).setCell ⟨w.heap.size,1,none⟩ (.slice m1.sr.A m1.sr.n m1.sr.c)).setCell ⟨w.heap.size,2,none⟩ (.slice m1.st.A m1.st.n m1.st.c)).setCell ⟨w.heap.size,3,none⟩ (.slice m1.sx.A m1.sx.n m1.sx.c)).setCell ⟨(w.heap.size+1),0,none⟩ (.slice m2.si.A m2.si.n m2.si.c)).setCell ⟨(w.heap.size+1),1,none⟩ (.slice m2.sr.A m2.sr.n m2.sr.c)).setCell ⟨(w.heap.size+1),2,none⟩ (.slice m2.st.A m2.st.n m2.st.c)).setCell ⟨(w.heap.size+1),3,none⟩ (.slice m2.sx.A m2.sx.n m2.sx.c)).heap[w.heap.size+1]? = some (.cells #[.slice m2.si.A m2.si.n m2.si.c,.slice m2.sr.A m2.sr.n m2.sr.c,.slice m2.st.A m2.st.n m2.st.c,.slice m2.sx.A m2.sx.n m2.sx.c] 28 (0,0)):=by
 have q0:=h.r6;have q1:=q0.set 0 (.slice m1.si.A m1.si.n m1.si.c);have q2:=q1.set 1 (.slice m1.sr.A m1.sr.n m1.sr.c);have q3:=q2.set 2 (.slice m1.st.A m1.st.n m1.st.c);have q4:=q3.set 3 (.slice m1.sx.A m1.sx.n m1.sx.c);have p0:=(((h.r7.far (p:=⟨w.heap.size,0,none⟩) (by dsimp only;omega) (.slice m1.si.A m1.si.n m1.si.c)).far (p:=⟨w.heap.size,1,none⟩) (by dsimp only;omega) (.slice m1.sr.A m1.sr.n m1.sr.c)).far (p:=⟨w.heap.size,2,none⟩) (by dsimp only;omega) (.slice m1.st.A m1.st.n m1.st.c)).far (p:=⟨w.heap.size,3,none⟩) (by dsimp only;omega) (.slice m1.sx.A m1.sx.n m1.sx.c);have p1:=p0.set 0 (.slice m2.si.A m2.si.n m2.si.c);have p2:=p1.set 1 (.slice m2.sr.A m2.sr.n m2.sr.c);have p3:=p2.set 2 (.slice m2.st.A m2.st.n m2.st.c);have p4:=p3.set 3 (.slice m2.sx.A m2.sx.n m2.sx.c);have t4:=(((q4.far (p:=⟨w.heap.size+1,0,none⟩) (by dsimp only;omega) (.slice m2.si.A m2.si.n m2.si.c)).far (p:=⟨w.heap.size+1,1,none⟩) (by dsimp only;omega) (.slice m2.sr.A m2.sr.n m2.sr.c)).far (p:=⟨w.heap.size+1,2,none⟩) (by dsimp only;omega) (.slice m2.st.A m2.st.n m2.st.c)).far (p:=⟨w.heap.size+1,3,none⟩) (by dsimp only;omega) (.slice m2.sx.A m2.sx.n m2.sx.c);exact⟨⟨m1,m2,rfl,((((((((h.ok1.set28 q0).set28 q1).set28 q2).set28 q3).set28 p0).set28 p1).set28 p2).set28 p3),((((((((h.ok2.set28 q0).set28 q1).set28 q2).set28 q3).set28 p0).set28 p1).set28 p2).set28 p3),((((((((h.bel.setCell (p:=⟨w.heap.size,0,none⟩) (by dsimp only;omega) (.slice m1.si.A m1.si.n m1.si.c)).setCell (p:=⟨w.heap.size,1,none⟩) (by dsimp only;omega) (.slice m1.sr.A m1.sr.n m1.sr.c)).setCell (p:=⟨w.heap.size,2,none⟩) (by dsimp only;omega) (.slice m1.st.A m1.st.n m1.st.c)).setCell (p:=⟨w.heap.size,3,none⟩) (by dsimp only;omega) (.slice m1.sx.A m1.sx.n m1.sx.c)).setCell (p:=⟨w.heap.size+1,0,none⟩) (by dsimp only;omega) (.slice m2.si.A m2.si.n m2.si.c)).setCell (p:=⟨w.heap.size+1,1,none⟩) (by dsimp only;omega) (.slice m2.sr.A m2.sr.n m2.sr.c)).setCell (p:=⟨w.heap.size+1,2,none⟩) (by dsimp only;omega) (.slice m2.st.A m2.st.n m2.st.c)).setCell (p:=⟨w.heap.size+1,3,none⟩) (by dsimp only;omega) (.slice m2.sx.A m2.sx.n m2.sx.c)),hs1,hs2⟩,t4,p4⟩
theorem two_g {w:World} {A A':Option Addr} {n n':Nat} (c c':Nat) {zs zs':List Int} (h:IntsV w A n zs) (h':IntsV w A' n' zs') (hf:∀b off,A=some ⟨b,off,none⟩->b<w.heap.size) (hf':∀b off,A'=some ⟨b,off,none⟩->b<w.heap.size) (bent:Bool) :
 Calls Tryz.prog 13 #[.slice A n c,.slice A' n' c',.bool bent] w (TwoG w):=by
 have hb0:Below w.heap.size w ((w.alloc (.cells #[.slice none 0 0,.slice none 0 0,.slice none 0 0,.slice none 0 0] 28)).alloc (.cells #[.slice none 0 0,.slice none 0 0,.slice none 0 0,.slice none 0 0] 28)):=((Below.refl _ _).alloc (Nat.le_refl _) _).alloc (by simp) _;have K1:=iH (Catalog_g c (h.below hb0) (fun b off e=>Nat.lt_of_lt_of_le (hf b off e) hb0.size));have k6:Hid (Bk ((w.alloc (.cells #[.slice none 0 0,.slice none 0 0,.slice none 0 0,.slice none 0 0] 28)).alloc (.cells #[.slice none 0 0,.slice none 0 0,.slice none 0 0,.slice none 0 0] 28)) w.heap.size 28 nil4):=(Bk.new w 28 nil4).alloc _;have k7':=Bk.new (w.alloc (.cells #[.slice none 0 0,.slice none 0 0,.slice none 0 0,.slice none 0 0] 28)) 28 nil4;rw[World.size_alloc]at k7';have k7:=iH k7';have HB0:=iH hb0;have HI:=iH h;have HI':=iH h';have HF:=iH hf;have HF':=iH hf';clear h h' hf hf' hb0 k7';go_enter Tryz.func13,Tryz.ntmps13;go_wp2_with fail;(with_reducible refine K1.out.mono ?_);rintro e w1 ⟨⟨items1,rules1,tables1,taxes1,⟨A1i,n1i,c1i⟩,⟨A1r,n1r,c1r⟩,⟨A1t,n1t,c1t⟩,⟨A1x,n1x,c1x⟩⟩,rfl,ok1,sm1,hb1⟩;have hb1':=HB0.out.trans (hb1.mono (by simp;omega));have s1:w.heap.size+2<=w1.heap.size:=by have:=hb1.size;simp at this;omega
 have hb2:Below w1.heap.size w1 (w1.alloc (.cells #[.slice A1i n1i c1i,.slice A1r n1r c1r,.slice A1t n1t c1t,.slice A1x n1x c1x] 28)):=(Below.refl _ _).alloc (Nat.le_refl _) _;have hb02:=hb1'.trans (hb2.mono (by omega));have K2:=iH (Catalog_g c' (HI'.out.below hb02) (fun b off e=>Nat.lt_of_lt_of_le (HF'.out b off e) hb02.size));have OK1:=iH (ok1.below hb2);have HSh1:=iH sm1.sh;have k6b:=iH ((k6.out.below hb1 (by simp;omega)).alloc (.cells #[.slice A1i n1i c1i,.slice A1r n1r c1r,.slice A1t n1t c1t,.slice A1x n1x c1x] 28));have k7b:=iH ((k7.out.below hb1 (by simp)).alloc (.cells #[.slice A1i n1i c1i,.slice A1r n1r c1r,.slice A1t n1t c1t,.slice A1x n1x c1x] 28));have k8:=iH (Bk.new w1 28 [.slice A1i n1i c1i,.slice A1r n1r c1r,.slice A1t n1t c1t,.slice A1x n1x c1x]);have HB2:=iH hb02;clear hb1 hb1' hb2 hb02 ok1 sm1 K1 k6 k7 HB0 HI' HF';go_wp2_with fail;(with_reducible refine K2.out.mono ?_);rintro e w2 ⟨⟨items2,rules2,tables2,taxes2,⟨A2i,n2i,c2i⟩,⟨A2r,n2r,c2r⟩,⟨A2t,n2t,c2t⟩,⟨A2x,n2x,c2x⟩⟩,rfl,ok2,sm2,hb3⟩;have s2:w1.heap.size+1<=w2.heap.size:=by have:=hb3.size;simp at this;omega
 have hb4:Below w2.heap.size w2 (w2.alloc (.cells #[.slice A2i n2i c2i,.slice A2r n2r c2r,.slice A2t n2t c2t,.slice A2x n2x c2x] 28)):=(Below.refl _ _).alloc (Nat.le_refl _) _;have HS:Hid (TwS w (w2.alloc (.cells #[.slice A2i n2i c2i,.slice A2r n2r c2r,.slice A2t n2t c2t,.slice A2x n2x c2x] 28)) w1.heap.size w2.heap.size ⟨items1,rules1,tables1,taxes1,⟨A1i,n1i,c1i⟩,⟨A1r,n1r,c1r⟩,⟨A1t,n1t,c1t⟩,⟨A1x,n1x,c1x⟩⟩ ⟨items2,rules2,tables2,taxes2,⟨A2i,n2i,c2i⟩,⟨A2r,n2r,c2r⟩,⟨A2t,n2t,c2t⟩,⟨A2x,n2x,c2x⟩⟩) :=
  ⟨(HB2.out.trans (hb3.mono (by simp;omega))).trans (hb4.mono (by omega)),((k6b.out.below hb3 (by simp;omega)).alloc _),((k7b.out.below hb3 (by simp;omega)).alloc _),((k8.out.below hb3 (by simp)).alloc _),Bk.new w2 28 [.slice A2i n2i c2i,.slice A2r n2r c2r,.slice A2t n2t c2t,.slice A2x n2x c2x],s1,by omega,(OK1.out.below hb3).below hb4,ok2.below hb4⟩
 have HOK2:=iH (ok2.below hb4);have HSh2:=iH sm2.sh;have HSm:=iH sm2;clear hb3 hb4 ok2 sm2 K2 OK1 k6b k7b k8 HB2;obtain⟨b8,hb8⟩:∃b8,w1.heap.size=b8:=⟨_,rfl⟩;obtain⟨b9,hb9⟩:∃b9,w2.heap.size=b9:=⟨_,rfl⟩;rw[hb8,hb9]at HS;go_upto_region 3 with fail;(try rw[hb8,hb9]);obtain⟨W,hW⟩:∃W,w2.alloc (.cells #[.slice A2i n2i c2i,.slice A2r n2r c2r,.slice A2t n2t c2t,.slice A2x n2x c2x] 28)=W:=⟨_,rfl⟩;rw[hW]at HS HOK2⊢;clear hW hb8 hb9 s1 s2;cases bent
 ·have x0:=HS.out.r6.k0;have y0:=HS.out.r7.k0;have f0:=HS.out.r6.frozen 0;have g0:=HS.out.r7.frozen 0;have x1:=HS.out.r6.k1;have y1:=HS.out.r7.k1;have f1:=HS.out.r6.frozen 1;have g1:=HS.out.r7.frozen 1;have x2:=HS.out.r6.k2;have y2:=HS.out.r7.k2;have f2:=HS.out.r6.frozen 2;have g2:=HS.out.r7.frozen 2;have x3:=HS.out.r6.k3;have y3:=HS.out.r7.k3;have f3:=HS.out.r6.frozen 3;have g3:=HS.out.r7.frozen 3;have HA:Hid (Bk ((((W.drew.setCell ⟨w.heap.size,0,none⟩ (.slice A1i n1i c1i)).setCell ⟨w.heap.size,1,none⟩ (.slice A1r n1r c1r)).setCell ⟨w.heap.size,2,none⟩ (.slice A1t n1t c1t)).setCell ⟨w.heap.size,3,none⟩ (.slice A1x n1x c1x)) b8 28 [.slice A1i n1i c1i,.slice A1r n1r c1r,.slice A1t n1t c1t,.slice A1x n1x c1x]∧Bk ((((W.drew.setCell ⟨w.heap.size,0,none⟩ (.slice A1i n1i c1i)).setCell ⟨w.heap.size,1,none⟩ (.slice A1r n1r c1r)).setCell ⟨w.heap.size,2,none⟩ (.slice A1t n1t c1t)).setCell ⟨w.heap.size,3,none⟩ (.slice A1x n1x c1x)) b9 28 [.slice A2i n2i c2i,.slice A2r n2r c2r,.slice A2t n2t c2t,.slice A2x n2x c2x]):=⟨((((HS.out.k8.drew).far (p:=⟨w.heap.size,0,none⟩) (by have:=HS.out.g8;have:=HS.out.g9;dsimp only;omega) (.slice A1i n1i c1i)).far (p:=⟨w.heap.size,1,none⟩) (by have:=HS.out.g8;have:=HS.out.g9;dsimp only;omega) (.slice A1r n1r c1r)).far (p:=⟨w.heap.size,2,none⟩) (by have:=HS.out.g8;have:=HS.out.g9;dsimp only;omega) (.slice A1t n1t c1t)).far (p:=⟨w.heap.size,3,none⟩) (by have:=HS.out.g8;have:=HS.out.g9;dsimp only;omega) (.slice A1x n1x c1x),((((HS.out.k9.drew).far (p:=⟨w.heap.size,0,none⟩) (by have:=HS.out.g8;have:=HS.out.g9;dsimp only;omega) (.slice A1i n1i c1i)).far (p:=⟨w.heap.size,1,none⟩) (by have:=HS.out.g8;have:=HS.out.g9;dsimp only;omega) (.slice A1r n1r c1r)).far (p:=⟨w.heap.size,2,none⟩) (by have:=HS.out.g8;have:=HS.out.g9;dsimp only;omega) (.slice A1t n1t c1t)).far (p:=⟨w.heap.size,3,none⟩) (by have:=HS.out.g8;have:=HS.out.g9;dsimp only;omega) (.slice A1x n1x c1x)⟩;have l6:=HS.out.r6.lt;have l7:=HS.out.r7.lt;have HD:=iH (HS.out.fin HSh1.out HSh2.out);dsimp only at HD;have HS0:Hid (Bk W.drew b8 28 [.slice A1i n1i c1i,.slice A1r n1r c1r,.slice A1t n1t c1t,.slice A1x n1x c1x]∧Bk W.drew b9 28 [.slice A2i n2i c2i,.slice A2r n2r c2r,.slice A2t n2t c2t,.slice A2x n2x c2x]):=⟨HS.out.k8.drew,HS.out.k9.drew⟩;clear HS;go_wp2_with fail;refine wp_region_X (fun w'=>Bk w' b8 28 [.slice A1i n1i c1i,.slice A1r n1r c1r,.slice A1t n1t c1t,.slice A1x n1x c1x]∧Bk w' b9 28 [.slice A2i n2i c2i,.slice A2r n2r c2r,.slice A2t n2t c2t,.slice A2x n2x c2x]) 3 (n:=4) rfl (by kernel_rfl) (HS0.out) (fun hS=>?_);refine X_take 0 (some 18) (v:=?_) (listed':=#[true,false,false,false]) rfl rfl rfl (by kernel_rfl) (fun _ _ _ h=>h) ⟨rfl,?_⟩ hS ?_;rotate_left
  ·intro w' hS';have a0:=hS'.1.k0;have a1:=hS'.1.k1;have a2:=hS'.1.k2;have a3:=hS'.1.k3;have l8:=hS'.1.lt;(go_simp;try with_reducible rfl)
  simp only[Act.put,Pa,Pb,Pc];refine X_take 1 (some 19) (v:=?_) (listed':=#[true,true,false,false]) rfl rfl rfl (by kernel_rfl) (fun _ _ _ h=>h) ⟨rfl,?_⟩ hS ?_;rotate_left
  ·intro w' hS';have b0:=hS'.2.k0;have b1:=hS'.2.k1;have b2:=hS'.2.k2;have b3:=hS'.2.k3;have l9:=hS'.2.lt;(go_simp;try with_reducible rfl)
  simp only[Act.put,Pa,Pb,Pc];refine X_one 2 (listed':=#[true,true,true,false]) (by kernel_rfl) rfl rfl (fun K hK=>?_);go_simp;refine hK _ _ HA.out ?_;clear hK;refine X_tail (by kernel_rfl) ?_;refine A_one 3 (listed':=#[true,true,true,true]) (by kernel_rfl) rfl rfl (fun K hK=>?_);go_simp;refine hK _ _ ?_;clear hK;refine A_done (by kernel_rfl) ?_;generalize((((((((W.setCell ⟨w.heap.size,0,none⟩ (.slice A1i n1i c1i)).setCell ⟨w.heap.size,1,none⟩ (.slice A1r n1r c1r)).setCell ⟨w.heap.size,2,none⟩ (.slice A1t n1t c1t)).setCell ⟨w.heap.size,3,none⟩ (.slice A1x n1x c1x)).setCell ⟨(w.heap.size+1),0,none⟩ (.slice A2i n2i c2i)).setCell ⟨(w.heap.size+1),1,none⟩ (.slice A2r n2r c2r)).setCell ⟨(w.heap.size+1),2,none⟩ (.slice A2t n2t c2t)).setCell ⟨(w.heap.size+1),3,none⟩ (.slice A2x n2x c2x))=WF at HD⊢;clear HA HS0 x0 y0 f0 g0 x1 y1 f1 g1 x2 y2 f2 g2 x3 y3 f3 g3;have HF:=iH HD.out.1.drew;have HT1:Hid (WF.drew.heap[w.heap.size]? = some (.cells #[.slice A1i n1i c1i,.slice A1r n1r c1r,.slice A1t n1t c1t,.slice A1x n1x c1x] 28 (0,0))):=HD.out.2.1;have HT2:Hid (WF.drew.heap[w.heap.size+1]? = some (.cells #[.slice A2i n2i c2i,.slice A2r n2r c2r,.slice A2t n2t c2t,.slice A2x n2x c2x] 28 (0,0))):=HD.out.2.2;clear HD;generalize WF.drew=WG at HF HT1 HT2⊢;go_wp2;have t1:=HT1.out;have t2:=HT2.out;refine bodyPost_ret (v:=.tuple #[.agg #[.slice A1i n1i c1i,.slice A1r n1r c1r,.slice A1t n1t c1t,.slice A1x n1x c1x],.agg #[.slice A2i n2i c2i,.slice A2r n2r c2r,.slice A2t n2t c2t,.slice A2x n2x c2x]]) (by simp[results,Tryz.results13,go_sem,World.cell?,t1,t2]) rfl HF.out
 ·have KB:=iH (Bent_g c HOK2.out HSm.out (HI.out.below HS.out.bel) (fun b off e=>Nat.lt_of_lt_of_le (HF.out b off e) HS.out.bel.size));have b0:=HS.out.k9.k0;have b1:=HS.out.k9.k1;have b2:=HS.out.k9.k2;have b3:=HS.out.k9.k3;have l9:=HS.out.k9.lt;go_wp2_with fail;(with_reducible refine KB.out.mono ?_);rintro e w3 ⟨⟨items3,rules3,tables3,taxes3,⟨A3i,n3i,c3i⟩,⟨A3r,n3r,c3r⟩,⟨A3t,n3t,c3t⟩,⟨A3x,n3x,c3x⟩⟩,rfl,ok3,sh3,sr3,hb5⟩;have HS3:=iH (HS.out.below hb5);have HP:=iH (HS3.out.put ok3);have HSh3:Hid (CatSh ⟨items3,rules3,tables3,taxes3,⟨A3i,n3i,c3i⟩,⟨A3r,n3r,c3r⟩,⟨A3t,n3t,c3t⟩,⟨A3x,n3x,c3x⟩⟩):=⟨sh3,sr3⟩;dsimp only at HP;clear b0 b1 b2 b3 l9 hb5 HS KB ok3 sh3 sr3;have b0:=HS3.out.k9.k0;have b1:=HS3.out.k9.k1;have b2:=HS3.out.k9.k2;have b3:=HS3.out.k9.k3;have f0:=HS3.out.k9.frozen 0;have f1:=HS3.out.k9.frozen 1;have f2:=HS3.out.k9.frozen 2;have f3:=HS3.out.k9.frozen 3;have l9:=HS3.out.k9.lt;go_upto_region 5 with fail;generalize((((w3.setCell ⟨b9,0,none⟩ (.slice A3i n3i c3i)).setCell ⟨b9,1,none⟩ (.slice A3r n3r c3r)).setCell ⟨b9,2,none⟩ (.slice A3t n3t c3t)).setCell ⟨b9,3,none⟩ (.slice A3x n3x c3x))=W3 at HP⊢;clear b0 b1 b2 b3 f0 f1 f2 f3 l9 HS3;have x0:=HP.out.r6.k0;have y0:=HP.out.r7.k0;have f0:=HP.out.r6.frozen 0;have g0:=HP.out.r7.frozen 0;have x1:=HP.out.r6.k1;have y1:=HP.out.r7.k1;have f1:=HP.out.r6.frozen 1;have g1:=HP.out.r7.frozen 1;have x2:=HP.out.r6.k2;have y2:=HP.out.r7.k2;have f2:=HP.out.r6.frozen 2;have g2:=HP.out.r7.frozen 2;have x3:=HP.out.r6.k3;have y3:=HP.out.r7.k3;have f3:=HP.out.r6.frozen 3;have g3:=HP.out.r7.frozen 3;have HA:Hid (Bk ((((W3.drew.setCell ⟨w.heap.size,0,none⟩ (.slice A1i n1i c1i)).setCell ⟨w.heap.size,1,none⟩ (.slice A1r n1r c1r)).setCell ⟨w.heap.size,2,none⟩ (.slice A1t n1t c1t)).setCell ⟨w.heap.size,3,none⟩ (.slice A1x n1x c1x)) b8 28 [.slice A1i n1i c1i,.slice A1r n1r c1r,.slice A1t n1t c1t,.slice A1x n1x c1x]∧Bk ((((W3.drew.setCell ⟨w.heap.size,0,none⟩ (.slice A1i n1i c1i)).setCell ⟨w.heap.size,1,none⟩ (.slice A1r n1r c1r)).setCell ⟨w.heap.size,2,none⟩ (.slice A1t n1t c1t)).setCell ⟨w.heap.size,3,none⟩ (.slice A1x n1x c1x)) b9 28 [.slice A3i n3i c3i,.slice A3r n3r c3r,.slice A3t n3t c3t,.slice A3x n3x c3x]):=⟨((((HP.out.k8.drew).far (p:=⟨w.heap.size,0,none⟩) (by have:=HP.out.g8;have:=HP.out.g9;dsimp only;omega) (.slice A1i n1i c1i)).far (p:=⟨w.heap.size,1,none⟩) (by have:=HP.out.g8;have:=HP.out.g9;dsimp only;omega) (.slice A1r n1r c1r)).far (p:=⟨w.heap.size,2,none⟩) (by have:=HP.out.g8;have:=HP.out.g9;dsimp only;omega) (.slice A1t n1t c1t)).far (p:=⟨w.heap.size,3,none⟩) (by have:=HP.out.g8;have:=HP.out.g9;dsimp only;omega) (.slice A1x n1x c1x),((((HP.out.k9.drew).far (p:=⟨w.heap.size,0,none⟩) (by have:=HP.out.g8;have:=HP.out.g9;dsimp only;omega) (.slice A1i n1i c1i)).far (p:=⟨w.heap.size,1,none⟩) (by have:=HP.out.g8;have:=HP.out.g9;dsimp only;omega) (.slice A1r n1r c1r)).far (p:=⟨w.heap.size,2,none⟩) (by have:=HP.out.g8;have:=HP.out.g9;dsimp only;omega) (.slice A1t n1t c1t)).far (p:=⟨w.heap.size,3,none⟩) (by have:=HP.out.g8;have:=HP.out.g9;dsimp only;omega) (.slice A1x n1x c1x)⟩;have l6:=HP.out.r6.lt;have l7:=HP.out.r7.lt;have HD:=iH (HP.out.fin HSh1.out HSh3.out);dsimp only at HD;have HS0:Hid (Bk W3.drew b8 28 [.slice A1i n1i c1i,.slice A1r n1r c1r,.slice A1t n1t c1t,.slice A1x n1x c1x]∧Bk W3.drew b9 28 [.slice A3i n3i c3i,.slice A3r n3r c3r,.slice A3t n3t c3t,.slice A3x n3x c3x]):=⟨HP.out.k8.drew,HP.out.k9.drew⟩;clear HP;go_wp2_with fail;refine wp_region_X (fun w'=>Bk w' b8 28 [.slice A1i n1i c1i,.slice A1r n1r c1r,.slice A1t n1t c1t,.slice A1x n1x c1x]∧Bk w' b9 28 [.slice A3i n3i c3i,.slice A3r n3r c3r,.slice A3t n3t c3t,.slice A3x n3x c3x]) 3 (n:=4) rfl (by kernel_rfl) (HS0.out) (fun hS=>?_);refine X_take 0 (some 18) (v:=?_) (listed':=#[true,false,false,false]) rfl rfl rfl (by kernel_rfl) (fun _ _ _ h=>h) ⟨rfl,?_⟩ hS ?_;rotate_left
  ·intro w' hS';have a0:=hS'.1.k0;have a1:=hS'.1.k1;have a2:=hS'.1.k2;have a3:=hS'.1.k3;have l8:=hS'.1.lt;(go_simp;try with_reducible rfl)
  simp only[Act.put,Pa,Pb,Pc];refine X_take 1 (some 19) (v:=?_) (listed':=#[true,true,false,false]) rfl rfl rfl (by kernel_rfl) (fun _ _ _ h=>h) ⟨rfl,?_⟩ hS ?_;rotate_left
  ·intro w' hS';have b0:=hS'.2.k0;have b1:=hS'.2.k1;have b2:=hS'.2.k2;have b3:=hS'.2.k3;have l9:=hS'.2.lt;(go_simp;try with_reducible rfl)
  simp only[Act.put,Pa,Pb,Pc];refine X_one 2 (listed':=#[true,true,true,false]) (by kernel_rfl) rfl rfl (fun K hK=>?_);go_simp;refine hK _ _ HA.out ?_;clear hK;refine X_tail (by kernel_rfl) ?_;refine A_one 3 (listed':=#[true,true,true,true]) (by kernel_rfl) rfl rfl (fun K hK=>?_);go_simp;refine hK _ _ ?_;clear hK;refine A_done (by kernel_rfl) ?_;generalize((((((((W3.setCell ⟨w.heap.size,0,none⟩ (.slice A1i n1i c1i)).setCell ⟨w.heap.size,1,none⟩ (.slice A1r n1r c1r)).setCell ⟨w.heap.size,2,none⟩ (.slice A1t n1t c1t)).setCell ⟨w.heap.size,3,none⟩ (.slice A1x n1x c1x)).setCell ⟨(w.heap.size+1),0,none⟩ (.slice A3i n3i c3i)).setCell ⟨(w.heap.size+1),1,none⟩ (.slice A3r n3r c3r)).setCell ⟨(w.heap.size+1),2,none⟩ (.slice A3t n3t c3t)).setCell ⟨(w.heap.size+1),3,none⟩ (.slice A3x n3x c3x))=WF at HD⊢;clear HA HS0 x0 y0 f0 g0 x1 y1 f1 g1 x2 y2 f2 g2 x3 y3 f3 g3;have HF:=iH HD.out.1.drew;have HT1:Hid (WF.drew.heap[w.heap.size]? = some (.cells #[.slice A1i n1i c1i,.slice A1r n1r c1r,.slice A1t n1t c1t,.slice A1x n1x c1x] 28 (0,0))):=HD.out.2.1;have HT2:Hid (WF.drew.heap[w.heap.size+1]? = some (.cells #[.slice A3i n3i c3i,.slice A3r n3r c3r,.slice A3t n3t c3t,.slice A3x n3x c3x] 28 (0,0))):=HD.out.2.2;clear HD;generalize WF.drew=WG at HF HT1 HT2⊢;go_wp2;have t1:=HT1.out;have t2:=HT2.out;refine bodyPost_ret (v:=.tuple #[.agg #[.slice A1i n1i c1i,.slice A1r n1r c1r,.slice A1t n1t c1t,.slice A1x n1x c1x],.agg #[.slice A3i n3i c3i,.slice A3r n3r c3r,.slice A3t n3t c3t,.slice A3x n3x c3x]]) (by simp[results,Tryz.results13,go_sem,World.cell?,t1,t2]) rfl HF.out
theorem RuM.okb {w w':World} {r:RuM} (h:r.Ok w) (hb:Below w.heap.size w w'):r.Ok w':=h.keep (.below hb)
theorem RwM.okb {w w':World} {r:RwM} (h:r.Ok w) (hb:Below w.heap.size w w'):r.Ok w':=PrV.below h hb
theorem TbM.okb {w w':World} {r:TbM} (h:r.Ok w) (hb:Below w.heap.size w w'):r.Ok w':=⟨h.rows.below hb,h.name⟩
theorem TxM.okb {w w':World} {r:TxM} (h:r.Ok w) (hb:Below w.heap.size w w'):r.Ok w':=⟨h.brs.below hb,h.name⟩
theorem sort_at {n:Nat} {l:List P2}:∀ {k:Nat},sortTo n l k=true->∀j,j<k->lastAt l j<itemK l j∧itemK l j<(n:Int):=by
 intro k
 induction k with
 | zero=>intro _ j hj;omega
 | succ k ih =>
   intro h j hj;simp only[sortTo,Bool.and_eq_true,decide_eq_true_eq]at h;by_cases e:j=k
   ·subst e;exact⟨h.2.1,h.2.2⟩
   ·exact ih h.1 j (by omega)
theorem itemK_get {l:List P2} {k:Nat} (h:k<l.length):itemK l k=l[k].1:=by simp[itemK,h]
theorem sort_lt {n:Nat} {l:List P2} (h:sortB n l=true):∀j,j<l.length->(∀i,i<j->itemK l i<itemK l j)∧0<=itemK l j∧itemK l j<(n:Int):=by
 intro j
 induction j with
 | zero =>
   intro hj;have:=sort_at h 0 hj;simp only[lastAt,if_pos]at this;exact⟨fun i hi=>by omega,by omega,this.2⟩
 | succ j ih =>
   intro hj;have h1:=sort_at h (j+1) hj;have h2:=ih (by omega);have h3:lastAt l (j+1)=itemK l j:=by simp[lastAt,itemK]
   rw[h3]at h1;refine⟨fun i hi=>?_,by omega,h1.2⟩;by_cases e:i=j
   ·subst e;exact h1.1
   ·have:=h2.1 i (by omega);omega
theorem sort_range {n:Nat} {l:List P2} (h:sortB n l=true):∀p∈l,0<=p.1∧p.1<(n:Int):=by
 intro p hp;obtain⟨i,hi,rfl⟩:=List.getElem_of_mem hp;have:=sort_lt h i hi;rw[itemK_get hi]at this;exact this.2
theorem code_sorted {m:CatM} (h:codeC m=0):∀x∈allL m,sortB m.items.length x.2=true:=by
 have hw:=(code_parts h).2.2.2.1;simp only[wfC,Bool.and_eq_true,List.all_eq_true]at hw;intro x hx;rcases List.mem_append.1 hx with hx|hx
 ·obtain⟨r,hr,hx⟩:=List.mem_flatMap.1 hx;have:=hw.1.1.2 r hr;simp only[wfR,Bool.and_eq_true]at this;simp only[ruL,List.mem_cons,List.not_mem_nil,or_false]at hx;rcases hx with rfl|rfl|rfl
  ·exact this.1.1.1.1
  ·exact this.1.1.1.2
  ·exact this.1.1.2
 ·obtain⟨t,ht,hx⟩:=List.mem_flatMap.1 hx;have:=hw.1.2 t ht;simp only[wfT,Bool.and_eq_true,List.all_eq_true]at this;obtain⟨r,hr,rfl⟩:=List.mem_map.1 hx;exact this.2 r hr
theorem code_range {m:CatM} (h:codeC m=0):∀x∈allL m,∀p∈x.2,0<=p.1∧p.1<(m.items.length:Int):=fun x hx=>sort_range (code_sorted h x hx)
theorem code_64 {m:CatM} (h:codeC m=0):m.items.length<=64:=by
 have:=(code_parts h).1;simp only[limC,Bool.and_eq_true,decide_eq_true_eq]at this;exact this.1.1.1.1.1.1
theorem idx_none {l:List It} {s:ByteArray}:∀ {k:Nat},idxTo l k s=none->∀i,i<k->(itAt l i).name≠s:=by
 intro k
 induction k with
 | zero=>intro _ i hi;omega
 | succ k ih =>
   intro h i hi;simp only[idxTo]at h;split at h
   ·cases h
   ·rename_i hne
    by_cases e:i=k
    ·subst e;exact fun h2=>hne h2.symm
    ·exact ih h i (by omega)
theorem mergeIt_name (ln:List It) (t:It):(mergeIt ln t).name=t.name:=by
 unfold mergeIt;split
 ·rename_i b hb
  exact(idxTo_lt hb).2
 ·rfl
theorem newTo_mem {lo ln:List It}:∀ {k:Nat},∀t∈newTo lo ln k,∃i,i<k∧t=itAt ln i∧idxTo lo lo.length t.name=none:=by
 intro k
 induction k with
 | zero=>intro t h;simp[newTo]at h
 | succ k ih =>
   intro t h;simp only[newTo]at h;cases hx:idxTo lo lo.length (itAt ln k).name with
   | some a =>
     rw[hx]at h;obtain⟨i,h1,h2⟩:=ih t (by simpa using h);exact⟨i,by omega,h2⟩
   | none =>
     rw[hx]at h;simp only[Option.isSome_none,Bool.false_eq_true,if_false,List.mem_append,List.mem_singleton]at h;rcases h with h|h
     ·obtain⟨i,h1,h2⟩:=ih t h;exact⟨i,by omega,h2⟩
     ·exact⟨k,by omega,h,by rw[h];exact hx⟩
theorem newTo_pw {lo ln:List It} (hd:Dist ln):∀ {k:Nat},k<=ln.length->(newTo lo ln k).Pairwise fun s t=>s.name≠t.name:=by
 intro k
 induction k with
 | zero=>intro _;simp[newTo]
 | succ k ih =>
   intro hk;simp only[newTo];split
   ·exact ih (by omega)
   ·rw[List.pairwise_append];refine⟨ih (by omega),by simp,fun s hs t ht=>?_⟩;rw[List.mem_singleton.1 ht];obtain⟨i,h1,h2,_⟩:=newTo_mem s hs;rw[h2];intro e;have:=hd i k (by omega) (by omega) e;omega
theorem newTo_pre (lo ln:List It) (k:Nat):∀d i,i<(newTo lo ln k).length->(newTo lo ln (k+d))[i]? = (newTo lo ln k)[i]?:=by
 intro d
 induction d with
 | zero=>intro i _;rfl
 | succ d ih =>
   intro i hi;show(newTo lo ln (k+d+1))[i]? = _;simp only[newTo];have hlen:(newTo lo ln k).length<=(newTo lo ln (k+d)).length:=by
    have h1:=(ih ((newTo lo ln k).length-1) (by omega)).trans (List.getElem?_eq_getElem (by omega));have:=(List.getElem?_eq_some_iff.1 h1).1;omega
   split
   ·exact ih i hi
   ·rw[List.getElem?_append_left (by omega)];exact ih i hi
theorem mergeL_low (lo ln:List It) (k i:Nat) (hi:i<lo.length):itAt (mergeL lo ln k) i=mergeIt ln (itAt lo i):=by
 have h:(mergeTo lo ln lo.length).length=lo.length:=mergeTo_length _ _ _;have h2:=itAt_merge lo ln lo.length i hi;rw[if_pos hi]at h2;rw[<- h2];simp only[itAt,mergeL];rw[List.getElem?_append_left (by omega)]
theorem mergeL_high (lo ln:List It) (k i:Nat) (hi:lo.length<=i):itAt (mergeL lo ln k) i=itAt (newTo lo ln k) (i-lo.length):=by
 have h:(mergeTo lo ln lo.length).length=lo.length:=mergeTo_length _ _ _;simp only[itAt,mergeL];rw[List.getElem?_append_right (by omega),h]
theorem mergeL_len (lo ln:List It) (k:Nat):(mergeL lo ln k).length=lo.length+(newTo lo ln k).length:=by simp[mergeL]
theorem mergeL_dist {lo ln:List It} (hlo:Dist lo) (hln:Dist ln):Dist (mergeL lo ln ln.length):=by
 have key:∀i j,i<j->j<(mergeL lo ln ln.length).length->(itAt (mergeL lo ln ln.length) i).name≠(itAt (mergeL lo ln ln.length) j).name:=by
  intro i j hij hj;rw[mergeL_len]at hj;by_cases hjl:j<lo.length
  ·rw[mergeL_low _ _ _ _ hjl,mergeL_low _ _ _ _ (by omega),mergeIt_name,mergeIt_name];intro e;have:=hlo i j (by omega) hjl e;omega
  ·have hj2:j-lo.length<(newTo lo ln ln.length).length:=by omega
   rw[mergeL_high _ _ _ j (by omega)];have hjm:itAt (newTo lo ln ln.length) (j-lo.length)∈newTo lo ln ln.length:=itAt_mem2 hj2;by_cases hil:i<lo.length
   ·rw[mergeL_low _ _ _ _ hil,mergeIt_name];obtain⟨_,_,_,hn⟩:=newTo_mem _ hjm;exact idx_none hn i hil
   ·rw[mergeL_high _ _ _ i (by omega)];have:=List.pairwise_iff_getElem.1 (newTo_pw (lo:=lo) hln (Nat.le_refl _)) (i-lo.length) (j-lo.length) (by omega) hj2 (by omega);simp only[itAt,List.getElem?_eq_getElem hj2,List.getElem?_eq_getElem (show i-lo.length<(newTo lo ln ln.length).length by omega),Option.getD_some];exact this
 intro i j hi hj he;rcases Nat.lt_trichotomy i j with h|h|h
 ·exact absurd he (key i j h hj)
 ·exact h
 ·exact absurd he.symm (key j i h hi)
theorem place_name {lo ln:List It} {x:Nat} (hx:x<ln.length):∃k:Nat,placeOf lo ln x=(k:Int)∧k<(mergeL lo ln ln.length).length∧(itAt (mergeL lo ln ln.length) k).name=(itAt ln x).name:=by
 have hr:=placeOf_range lo ln x hx;unfold placeOf at hr⊢;cases h:idxTo lo lo.length (itAt ln x).name with
 | some a =>
   obtain⟨h1,h2⟩:=idxTo_lt h;refine⟨a,rfl,by rw[mergeL_len];omega,?_⟩;rw[mergeL_low _ _ _ _ h1,mergeIt_name,h2]
 | none =>
   rw[h]at hr;have h3:newTo lo ln (x+1)=newTo lo ln x ++ [itAt ln x]:=by simp[newTo,h]
   have h4:=newTo_pre lo ln (x+1) (ln.length-(x+1)) (newTo lo ln x).length (by rw[h3];simp);rw[show x+1+(ln.length-(x+1))=ln.length by omega,h3,List.getElem?_append_right (Nat.le_refl _),Nat.sub_self]at h4;simp only[List.getElem?_cons_zero]at h4;have h5:=(List.getElem?_eq_some_iff.1 h4).1;refine⟨lo.length+(newTo lo ln x).length,rfl,by rw[mergeL_len];omega,?_⟩;rw[mergeL_high _ _ _ _ (by omega),show lo.length+(newTo lo ln x).length-lo.length=(newTo lo ln x).length by omega];simp only[itAt,h4,Option.getD_some]
theorem placeL_at {lo ln:List It} {x:Nat} (hx:x<ln.length):plAt (placeL lo ln) (x:Int)=placeOf lo ln x:=by simp[plAt,placeL,hx]
theorem place_iff {lo ln:List It} (hlo:Dist lo) (hln:Dist ln) {x k:Nat} (hx:x<ln.length) (hk:k<(mergeL lo ln ln.length).length) :
 (itAt ln x).name=(itAt (mergeL lo ln ln.length) k).name ↔ plAt (placeL lo ln) (x:Int)=(k:Int):=by
 obtain⟨q,h1,h2,h3⟩:=place_name (lo:=lo) hx;rw[placeL_at hx,h1];constructor
 ·intro e;have:=mergeL_dist hlo hln q k h2 hk (by rw[h3,e]);rw[this]
 ·intro e;have:q=k:=by omega
  subst this;exact h3.symm
end Go.Proofs.YtiecjoijnkghbaaGreatDoor
