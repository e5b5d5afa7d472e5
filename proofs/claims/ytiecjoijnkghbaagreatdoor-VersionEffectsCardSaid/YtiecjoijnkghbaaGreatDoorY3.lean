/- catalog.Valid on a catalog of good items and nothing else; version.names. The contract of version.names. What version.New computes, and its memory. The lexer in general: what skip answers at any offset of any text. The lexer in general: what next answers at any offset of any text. The lexer in general: next at a digit, next at any offset. The reference lexer: class on any byte. The reference lexer: skip, end and value. The reference lexer: value and Tokens; both lexers give the same tokens. The reference lexer's Tokens on any text; what a name is to both lexers. What a name is to both lexers: catalog.fits and the reference's Word on any text. -/
import Derived.Test.YtiecjoijnkghbaaGreatDoorY2
import Derived.Laws.EntriesVeiled
import Derived.Laws.Externs
import Derived.Lib.Bytealg
import Derived.Lib.IndexLaws
import Derived.Lib.IndexBytes
import Derived.Laws.StructEq
set_option linter.unusedVariables false
set_option linter.unusedSimpArgs false
set_option maxRecDepth 100000
set_option maxHeartbeats 2000000
open Go.RowKit
namespace Go.Proofs.YtiecjoijnkghbaaGreatDoor
section
set_option linter.unusedVariables false
set_option linter.unusedSimpArgs false
abbrev catV (A:Option Addr) (n c:Nat):Value:=.agg #[.slice A n c,.slice none 0 0,.slice none 0 0,.slice none 0 0]
abbrev catO (A:Option Addr) (n c:Nat):Obj:=.cells #[.slice A n c,.slice none 0 0,.slice none 0 0,.slice none 0 0] 28
abbrev catL (A:Option Addr) (n c:Nat):List Value:=[.slice A n c,.slice none 0 0,.slice none 0 0,.slice none 0 0]
structure GoodIt (l : List It) : Prop where
 len:l.length<=64
 fits:l.all itFitsB=true
 dist:distB l=true
 formed:l.all itFormedB=true
 range:l.all itRangeB=true
structure CatV (w : World) (A : Option Addr) (n : Nat) (l : List It) : Prop where
 items:ItemsV w A n l
 good:GoodIt l
 tab:Tab w
theorem CatV.below {w w':World} {A:Option Addr} {n:Nat} {l:List It} (h:CatV w A n l) (hb:Below w.heap.size w w'):CatV w' A n l:=⟨h.items.below hb,h.good,h.tab.below hb h.tab.1⟩
theorem CatV.n64 {w:World} {A:Option Addr} {n:Nat} {l:List It} (h:CatV w A n l):n<=64:=by have:=h.items.len;have:=h.good.len;omega
theorem limits_items {w:World} {A:Option Addr} {n:Nat} (c:Nat) {l:List It} (h:CatV w A n l):Calls Tryz.prog 172 #[catV A n c] w fun e w'=>e=.returned (.bool true)∧Below w.heap.size w w':=by
 have hb0:Below w.heap.size w (w.alloc (catO A n c)):=(Below.refl _ _).alloc (Nat.le_refl _) _;have hn:=h.n64;clear h;have hd:decide (n<=64)=true:=by simpa using hn
 go_enter Tryz.func172,Tryz.ntmps172;go_wp2_with fail;refine(every_nil118 _ _).mono ?_;rintro e w1 ⟨rfl,rfl⟩;go_wp2_with fail;refine(every_nil120 _ _).mono ?_;rintro e w1 ⟨rfl,rfl⟩;go_wp2_with fail;refine(every_nil122 _ _).mono ?_;rintro e w1 ⟨rfl,rfl⟩;go_wp2;go_ret;exact⟨rfl,hb0⟩
theorem fit_items {w:World} {A:Option Addr} {n:Nat} (c:Nat) {l:List It} (h:CatV w A n l):Calls Tryz.prog 173 #[catV A n c] w fun e w'=>e=.returned (.bool true)∧Below w.heap.size w w':=by
 have hb0:Below w.heap.size w (w.alloc (catO A n c)):=(Below.refl _ _).alloc (Nat.le_refl _) _;have K:=every_it125 c itFitsB (h.items.below hb0) (fun t W ht hW=>itfits_any t (h.items.name t ht) W ((h.tab.below hb0 h.tab.1).below hW (by have:=h.tab.1;simp;omega)));rw[h.good.fits]at K;have HK:=iH K;clear K h;go_enter Tryz.func173,Tryz.ntmps173;go_wp2_with fail;refine HK.out.mono ?_;rintro e w1 ⟨rfl,hb1⟩;have hbk:=Bk.new w 28 (catL A n c);have hbk2:Bk w1 w.heap.size 28 (catL A n c):=(hbk).below hb1 (by simp);have d1:=hbk2.k1;have d2:=hbk2.k2;have d3:=hbk2.k3;have G1:Below w.heap.size w w1:=hb0.trans (hb1.mono (by simp));clear hbk hbk2 hb1 HK hb0;go_wp2_with fail;refine(every_nil118 _ _).mono ?_;rintro e w2 ⟨rfl,rfl⟩;go_wp2_with fail;refine(every_nil120 _ _).mono ?_;rintro e w2 ⟨rfl,rfl⟩;go_wp2_with fail;refine(every_nil122 _ _).mono ?_;rintro e w2 ⟨rfl,rfl⟩;go_wp2;go_ret;exact⟨rfl,G1⟩
theorem formed_items {w:World} {A:Option Addr} {n:Nat} (c:Nat) {l:List It} (h:CatV w A n l):Calls Tryz.prog 175 #[catV A n c] w fun e w'=>e=.returned (.bool true)∧Below w.heap.size w w':=by
 have hb0:Below w.heap.size w ((w.alloc (catO A n c)).alloc (.cells #[.func (.func 268) #[] #[.pointer (some ⟨w.heap.size,0,none⟩)]] 350)):=((Below.refl _ _).alloc (Nat.le_refl _) _).alloc (by simp) _;have K:=every_it139 c itFormedB (h.items.below hb0) (fun t W _ _=>itformed_any t W);rw[h.good.formed]at K;have HK:=iH K;clear K h;go_enter Tryz.func175,Tryz.ntmps175;go_wp2_with fail;refine HK.out.mono ?_;rintro e w1 ⟨rfl,hb1⟩;have hbk:=Bk.new w 28 (catL A n c);have hbk2:Bk w1 w.heap.size 28 (catL A n c):=(hbk.alloc _).below hb1 (by simp;omega);have d1:=hbk2.k1;have d2:=hbk2.k2;have d3:=hbk2.k3;have G1:Below w.heap.size w w1:=hb0.trans (hb1.mono (by simp;omega));clear hbk hbk2 hb1 HK hb0;go_wp2_with fail;refine(every_nil118 _ _).mono ?_;rintro e w2 ⟨rfl,rfl⟩;go_wp2_with fail;refine(every_nil120 _ _).mono ?_;rintro e w2 ⟨rfl,rfl⟩;go_wp2_with fail;refine(every_nil122 _ _).mono ?_;rintro e w2 ⟨rfl,rfl⟩;go_wp2;go_ret;exact⟨rfl,G1⟩
theorem range_items {w:World} {A:Option Addr} {n:Nat} (c:Nat) {l:List It} (h:CatV w A n l):Calls Tryz.prog 176 #[catV A n c] w fun e w'=>e=.returned (.bool true)∧Below w.heap.size w w':=by
 have hb0:Below w.heap.size w ((w.alloc (catO A n c)).alloc (.cells #[.func (.func 277) #[] #[]] 350)):=((Below.refl _ _).alloc (Nat.le_refl _) _).alloc (by simp) _;have K:=every_it150 c itRangeB (h.items.below hb0) (fun t W _ _=>itrange_any t W);rw[h.good.range]at K;have HK:=iH K;clear K h;go_enter Tryz.func176,Tryz.ntmps176;go_wp2_with fail;refine HK.out.mono ?_;rintro e w1 ⟨rfl,hb1⟩;have hbk:=Bk.new w 28 (catL A n c);have hbk2:Bk w1 w.heap.size 28 (catL A n c):=(hbk.alloc _).below hb1 (by simp;omega);have d1:=hbk2.k1;have d2:=hbk2.k2;have d3:=hbk2.k3;have G1:Below w.heap.size w w1:=hb0.trans (hb1.mono (by simp;omega));clear hbk hbk2 hb1 HK hb0;go_wp2_with fail;refine(every_nil118 _ _).mono ?_;rintro e w2 ⟨rfl,rfl⟩;go_wp2_with fail;refine(every_nil120 _ _).mono ?_;rintro e w2 ⟨rfl,rfl⟩;go_wp2_with fail;refine(every_nil122 _ _).mono ?_;rintro e w2 ⟨rfl,rfl⟩;go_wp2;go_ret;exact⟨rfl,G1⟩
theorem names_items {w:World} {A:Option Addr} {n:Nat} (c:Nat) {l:List It} (h:CatV w A n l):Calls Tryz.prog 174 #[catV A n c] w fun e w'=>e=.returned (.bool true)∧Below w.heap.size w w':=by
 have hb0:Below w.heap.size w (w.alloc (catO A n c)):=(Below.refl _ _).alloc (Nat.le_refl _) _;have K:=differ_items c (h.items.below hb0);rw[h.good.dist]at K;have HK:=iH K;clear K h;go_enter Tryz.func174,Tryz.ntmps174;go_wp2_with fail;refine HK.out.mono ?_;rintro e w1 ⟨rfl,hb1⟩;have k1:Bk w1 w.heap.size 28 (catL A n c):=(Bk.new w 28 (catL A n c)).below hb1 (by simp);have G1:Below w.heap.size w w1:=hb0.trans (hb1.mono (by simp));have d1:=k1.k1;clear hb1 HK hb0;go_wp2_with fail;refine(differ_nil132 _ _).mono ?_;rintro e w2 ⟨rfl,hb2⟩;have k2:=k1.below hb2 k1.lt;have G2:=G1.trans (hb2.mono G1.size);have d2:=k2.k2;clear d1 k1 hb2 G1;go_wp2_with fail;refine(differ_nil134 _ _).mono ?_;rintro e w3 ⟨rfl,hb3⟩;have k3:=k2.below hb3 k2.lt;have G3:=G2.trans (hb3.mono G2.size);have d3:=k3.k3;clear d2 k2 hb3 G2;go_wp2_with fail;refine(differ_nil136 _ _).mono ?_;rintro e w4 ⟨rfl,hb4⟩;go_wp2;go_ret;exact⟨rfl,G3.trans (hb4.mono G3.size)⟩
theorem valid_items {w:World} {A:Option Addr} {n:Nat} (c:Nat) {l:List It} (h:CatV w A n l):Calls Tryz.prog 51 #[catV A n c] w fun e w'=>e=.returned (.int .i64 0)∧Below w.heap.size w w':=by
 have hb0:Below w.heap.size w (w.alloc (catO A n c)):=(Below.refl _ _).alloc (Nat.le_refl _) _;have H:=iH h;clear h;go_enter Tryz.func51,Tryz.ntmps51;go_wp2_with fail;refine(limits_items c (H.out.below hb0)).mono ?_;rintro e w1 ⟨rfl,hb1⟩;have k1:Bk w1 w.heap.size 28 (catL A n c):=(Bk.new w 28 (catL A n c)).below hb1 (by simp);have G1:Below w.heap.size w w1:=hb0.trans (hb1.mono (by simp));have s0:=k1.k0;have s1:=k1.k1;have s2:=k1.k2;have s3:=k1.k3;go_wp2_with fail;refine(fit_items c (H.out.below G1)).mono ?_;rintro e w2 ⟨rfl,hb2⟩;have k2:=k1.below hb2 k1.lt;have G2:=G1.trans (hb2.mono G1.size);clear s0 s1 s2 s3;have s0:=k2.k0;have s1:=k2.k1;have s2:=k2.k2;have s3:=k2.k3;go_wp2_with fail;refine(names_items c (H.out.below G2)).mono ?_;rintro e w3 ⟨rfl,hb3⟩;have k3:=k2.below hb3 k2.lt;have G3:=G2.trans (hb3.mono G2.size);clear s0 s1 s2 s3;have s0:=k3.k0;have s1:=k3.k1;have s2:=k3.k2;have s3:=k3.k3;go_wp2_with fail;refine(formed_items c (H.out.below G3)).mono ?_;rintro e w4 ⟨rfl,hb4⟩;have k4:=k3.below hb4 k3.lt;have G4:=G3.trans (hb4.mono G3.size);clear s0 s1 s2 s3;have s0:=k4.k0;have s1:=k4.k1;have s2:=k4.k2;have s3:=k4.k3;go_wp2_with fail;refine(range_items c (H.out.below G4)).mono ?_;rintro e w5 ⟨rfl,hb5⟩;have k5:=k4.below hb5 k4.lt;have G5:=G4.trans (hb5.mono G4.size);clear s0 s1 s2 s3;go_wp2;go_ret;exact⟨rfl,G5⟩
theorem both_items {w:World} {A A':Option Addr} {n n':Nat} (c c':Nat) {l l':List It} (h:CatV w A n l) (h':CatV w A' n' l') :
 Calls Tryz.prog 65 #[catV A n c,catV A' n' c'] w fun e w'=>e=.returned (.int .i64 0)∧Below w.heap.size w w':=by
 have hb0:Below w.heap.size w ((w.alloc (catO A n c)).alloc (catO A' n' c')):=((Below.refl _ _).alloc (Nat.le_refl _) _).alloc (by simp) _;have H:=iH h;have H':=iH h';clear h h';go_enter Tryz.func65,Tryz.ntmps65;go_wp2_with fail;refine(valid_items c (H.out.below hb0)).mono ?_;rintro e w1 ⟨rfl,hb1⟩;have kx:=Bk.new (w.alloc (catO A n c)) 28 (catL A' n' c');rw[World.size_alloc]at kx;have k1:Bk w1 (w.heap.size+1) 28 (catL A' n' c'):=kx.below hb1 (by simp);have G1:Below w.heap.size w w1:=hb0.trans (hb1.mono (by simp;omega));have s0:=k1.k0;have s1:=k1.k1;have s2:=k1.k2;have s3:=k1.k3;clear kx hb1 hb0;go_wp2_with fail;refine(valid_items c' (H'.out.below G1)).mono ?_;rintro e w2 ⟨rfl,hb2⟩;go_wp2;go_ret;exact⟨rfl,G1.trans (hb2.mono G1.size)⟩
structure Sl where
 A:Option Addr
 n:Nat
 c:Nat
abbrev Sl.v (s:Sl):Value:=.slice s.A s.n s.c
abbrev catS (i r t x:Sl):Value:=.agg #[.slice i.A i.n i.c,.slice r.A r.n r.c,.slice t.A t.n t.c,.slice x.A x.n x.c]
abbrev catSL (i r t x:Sl):List Value:=[.slice i.A i.n i.c,.slice r.A r.n r.c,.slice t.A t.n t.c,.slice x.A x.n x.c]
abbrev catSO (i r t x:Sl):Obj:=.cells #[.slice i.A i.n i.c,.slice r.A r.n r.c,.slice t.A t.n t.c,.slice x.A x.n x.c] 28
def idxTo (l:List It):Nat->ByteArray->Option Nat
 | 0,_=>none
 | k+1,s=>if s=(itAt l k).name then some k else idxTo l k s
theorem idxTo_lt {l:List It} {k:Nat} {s:ByteArray} {i:Nat} (h:idxTo l k s=some i):i<k∧(itAt l i).name=s:=by
 induction k with
 | zero=>simp[idxTo]at h
 | succ k ih =>
   simp only[idxTo]at h;split at h
   ·rename_i e
    cases h;exact⟨by omega,e.symm⟩
   ·have:=ih h;exact⟨by omega,this.2⟩
def NamesPost (w:World) (l:List It) (n:Nat) (e:Ending) (w':World):Prop:=∃b,e=.returned (.map (some b))∧MapI w' b n (idxTo l n)∧w.heap.size<=b∧Below w.heap.size w w'
theorem names_any {w:World} {i r t x:Sl} {l:List It} (h:ItemsV w i.A i.n l):Calls Tryz.prog 66 #[catS i r t x] w (NamesPost w l i.n):=by
 obtain⟨A,n,c⟩:=i;dsimp only at *;have hmm:=fun W:World=>run_mapHint (P:=Tryz.prog) 117 9 3 .i64 n Tryz.underlying117 W
 have Hn:=iH h.len;have H:=iH h;have hs:=h.small;clear h;go_enter Tryz.func66,Tryz.ntmps66;go_wp2_with fail;have Hm0:=MapI.made (w.alloc (catSO ⟨A,n,c⟩ r t x));rw[World.size_alloc]at Hm0;have HM0:=iH Hm0;have hB0:Below w.heap.size w ((w.alloc (catSO ⟨A,n,c⟩ r t x)).alloc (.map #[] 0)):=((Below.refl _ _).alloc (Nat.le_refl _) _).alloc (by simp) _;clear Hm0;go_loopw [13] (fun i wr=>∃k:Nat,k<=n∧i=.int .i64 k∧MapI wr (w.heap.size+1) k (idxTo l k)∧Below w.heap.size w wr) (fun i _=>n-(intOf i).toNat)
 case atStart=>exact⟨0,Nat.zero_le _,rfl,HM0.out,hB0⟩
 case round =>
  obtain⟨k,hk,rfl,hm,hb⟩:=hrel;have HM:=iH hm;have hsz:=hb.size;clear hm hmm HM0;by_cases hlt:k<n
  ·have hkl:k<l.length:=by have:=Hn.out;omega
   obtain⟨b,off,rfl,hbb,c0,c1,c2,c3,c4,c5,c6⟩:=(H.out.below hb).at_ k hlt;have hpm:=plain_max (H.out.name _ (itAt_mem hkl));have hb2:Below w.heap.size w (wr.alloc (.cells #[.string (itAt l k).name,.bool (itAt l k).object,.bool (itAt l k).mixed,.bool (itAt l k).coin,.int .i64 (itAt l k).wear,.int .i64 (itAt l k).bnd,.int .i64 (itAt l k).level] 42)):=hb.alloc hsz _;have HT:Hid (idxTo l (k+1)=fun s=>if s=(itAt l k).name then some k else idxTo l k s):=rfl;have HM2:=HM.out.below ((Below.refl _ wr).alloc (Nat.le_refl _) (.cells #[.string (itAt l k).name,.bool (itAt l k).object,.bool (itAt l k).mixed,.bool (itAt l k).coin,.int .i64 (itAt l k).wear,.int .i64 (itAt l k).bnd,.int .i64 (itAt l k).level] 42));obtain⟨w3,hrun,hM4,hg4⟩:=HM2.put hpm k (by omega) (by omega);have hb5:Below w.heap.size w w3:=hb2.grown hg4 (by simp;omega) (fun g e=>by cases e;omega);have HM4:=iH hM4;clear hkl HM HM2 hM4 hg4;generalize itAt l k=t at *;obtain⟨nm,ob,mi,co,we,bi,le⟩:=t;dsimp only at *;go_wp2;go_roundw
   case rel=>exact⟨k+1,by omega,by go_num,by rw[HT.out];exact HM4.out,hb5⟩
   case measure=>simp[intOf];omega
  ·obtain rfl:k=n:=by omega
   go_wp2;go_ret;exact⟨_,rfl,HM.out,by omega,hb⟩
section
structure Ren where
 old:ByteArray
 new:ByteArray
 num:Int
 den:Int
def Ren.none:Ren:=⟨⟨#[]⟩,⟨#[]⟩,0,0⟩
abbrev Ren.cells (r:Ren):List Value:=[.string r.old,.string r.new,.int .i64 r.num,.int .i64 r.den]
def renAt (l:List Ren) (k:Nat):Ren:=l[k]?.getD Ren.none
def rcells (l:List Ren):List Value:=l.flatMap Ren.cells
theorem rcells_cons (t:Ren) (l:List Ren):rcells (t :: l)=t.cells ++ rcells l:=by simp[rcells]
theorem rcells_length (l:List Ren):(rcells l).length=l.length*4:=by
 induction l with
 | nil=>rfl
 | cons t l ih=>rw[rcells_cons,List.length_append,ih];simp;omega
theorem rcells_get (l:List Ren) (k r:Nat) (h:k<l.length) (hr:r<4):(rcells l)[k*4+r]? = (renAt l k).cells[r]?:=by
 induction l generalizing k with
 | nil=>simp at h
 | cons t l ih =>
   rw[rcells_cons];cases k with
   | zero=>rw[List.getElem?_append_left (by simp;omega)];simp[renAt]
   | succ k =>
     rw[List.getElem?_append_right (by simp;omega)];have e:(k+1)*4+r-t.cells.length=k*4+r:=by simp;omega
     rw[e,ih k (by simpa using h)];simp[renAt]
structure RensV (w : World) (A : Option Addr) (n : Nat) (l : List Ren) : Prop where
 row:Row w w.heap.size A (rcells l)
 len:n=l.length
 small:n<=1000
 size:∀k,k<n->(renAt l k).old.size<=maxLen∧(renAt l k).new.size<=maxLen
theorem RensV.below {w w':World} {A:Option Addr} {n:Nat} {l:List Ren} (h:RensV w A n l) (hb:Below w.heap.size w w'):RensV w' A n l:=⟨(h.row.below hb).more hb.size,h.len,h.small,h.size⟩
theorem RensV.at_ {w:World} {A:Option Addr} {n:Nat} {l:List Ren} (h:RensV w A n l) (k:Nat) (hk:k<n):∃b off,A=some ⟨b,off,none⟩∧b<w.heap.size ∧
 w.cell? ⟨b,off+k*4,none⟩=some (.string (renAt l k).old)∧w.cell? ⟨b,off+k*4+1,none⟩=some (.string (renAt l k).new)∧w.cell? ⟨b,off+k*4+2,none⟩=some (.int .i64 (renAt l k).num)∧w.cell? ⟨b,off+k*4+3,none⟩=some (.int .i64 (renAt l k).den):=by
 have hl:k<l.length:=by have:=h.len;omega
 obtain⟨b,off,hA,hb,hc⟩:=h.row.at_ 0 (by rw[rcells_length];omega);have g:=fun r hr=>rcells_get l k r hl hr
 refine⟨b,off,hA,hb,?_,?_,?_,?_⟩
 ·exact hc _ _ (g 0 (by omega))
 ·rw[Nat.add_assoc];exact hc _ _ (g 1 (by omega))
 ·rw[Nat.add_assoc];exact hc _ _ (g 2 (by omega))
 ·rw[Nat.add_assoc];exact hc _ _ (g 3 (by omega))
def bools (l:List Bool):List Value:=l.map Value.bool
theorem bools_set (l:List Bool) (k:Nat) (x:Bool):(bools l).set k (.bool x)=bools (l.set k x):=by simp[bools,List.map_set]
def bAt (l:List Bool) (k:Nat):Bool:=l[k]?.getD false
theorem bools_at (l:List Bool) (k:Nat) (h:k<l.length):(bools l)[k]? = some (.bool (bAt l k)):=by simp[bools,bAt,h]
def factorB (r:Ren):Bool:=decide (1<=r.num) && decide (r.num<=1048576) && decide (1<=r.den) && decide (r.den<=1048576)
def typeB (a b:It) (r:Ren):Bool:=alikeB a b && (!a.object || (r.num == 1 && r.den == 1))
def renErr (lo ln:List It) (ren:List Bool) (r:Ren):Int :=
 match idxTo lo lo.length r.old,idxTo ln ln.length r.new with
 | some a,some b=>if bAt ren a=true then 8 else if factorB r=false then 5 else if typeB (itAt lo a) (itAt ln b) r=false then 9 else 0
 | _,_=>6
def renSt (lo ln:List It) (st:List Bool×List Tr) (r:Ren):List Bool×List Tr :=
 match idxTo lo lo.length r.old,idxTo ln ln.length r.new with
 | some a,some b=>(st.1.set a true,st.2.set a ((b:Int),r.num,r.den))
 | _,_=>st
def renTo (lo ln:List It) (rs:List Ren):Nat->List Bool×List Tr
 | 0=>(List.replicate lo.length false,List.replicate lo.length (0,0,0))
 | k+1=>renSt lo ln (renTo lo ln rs k) (renAt rs k)
theorem renTo_len (lo ln:List It) (rs:List Ren) (k:Nat):(renTo lo ln rs k).1.length=lo.length∧(renTo lo ln rs k).2.length=lo.length:=by
 induction k with
 | zero=>simp[renTo]
 | succ k ih =>
   simp only[renTo,renSt];split
   ·simp[ih.1,ih.2]
   ·exact ih
def renE (lo ln:List It) (rs:List Ren):Nat->Int
 | 0=>0
 | k+1=>if renE lo ln rs k≠0 then renE lo ln rs k else renErr lo ln (renTo lo ln rs k).1 (renAt rs k)
theorem renE_stays {lo ln:List It} {rs:List Ren} {k:Nat} (h:renE lo ln rs k≠0):∀m,k<=m->renE lo ln rs m=renE lo ln rs k:=by
 intro m hm
 induction m with
 | zero => obtain rfl : k = 0 := by omega
           rfl
 | succ m ih =>
   by_cases e:k=m+1
   ·subst e;rfl
   ·have h1:=ih (by omega);simp only[renE];rw[if_pos (by rw[h1];exact h),h1]
def keepT (ln:List It) (t:It):Tr:=match idxTo ln ln.length t.name with | some b=>((b:Int),1,1) | none=>(-1,0,0)
def keepErr (ln:List It) (t:It):Int:=match idxTo ln ln.length t.name with | some b=>if alikeB t (itAt ln b)=false then 9 else 0 | none=>0
def endAt (lo ln:List It) (st:List Bool×List Tr) (i:Nat):Tr:=if bAt st.1 i=true then st.2[i]?.getD (0,0,0) else keepT ln (itAt lo i)
def endTo (lo ln:List It) (st:List Bool×List Tr) (k:Nat):List Tr:=(List.range lo.length).map fun i=>if i<k then endAt lo ln st i else st.2[i]?.getD (0,0,0)
def endE (lo ln:List It) (st:List Bool×List Tr):Nat->Int
 | 0=>0
 | k+1=>if endE lo ln st k≠0 then endE lo ln st k else if bAt st.1 k=true then 0 else keepErr ln (itAt lo k)
theorem endE_stays {lo ln:List It} {st:List Bool×List Tr} {k:Nat} (h:endE lo ln st k≠0):∀m,k<=m->endE lo ln st m=endE lo ln st k:=by
 intro m hm
 induction m with
 | zero => obtain rfl : k = 0 := by omega
           rfl
 | succ m ih =>
   by_cases e:k=m+1
   ·subst e;rfl
   ·have h1:=ih (by omega);simp only[endE];rw[if_pos (by rw[h1];exact h),h1]
@[simp] theorem endTo_length (lo ln : List It) (st : List Bool × List Tr) (k : Nat) : (endTo lo ln st k).length = lo.length := by simp [endTo]
theorem endTo_zero (lo ln:List It) (st:List Bool×List Tr) (h:st.2.length=lo.length):endTo lo ln st 0=st.2:=by
 apply List.ext_getElem?;intro i;by_cases hi:i<lo.length
 ·simp[endTo,hi,h]
 ·rw[List.getElem?_eq_none (by simp;omega),List.getElem?_eq_none (by omega)]
theorem endTo_at (lo ln:List It) (st:List Bool×List Tr) (k i:Nat) (hi:i<lo.length):(endTo lo ln st k)[i]? = some (if i<k then endAt lo ln st i else st.2[i]?.getD (0,0,0)):=by
 simp[endTo,hi]
theorem endTo_skip (lo ln:List It) (st:List Bool×List Tr) (k:Nat) (h:bAt st.1 k=true):endTo lo ln st (k+1)=endTo lo ln st k:=by
 apply List.ext_getElem?;intro i;by_cases hi:i<lo.length
 ·rw[endTo_at _ _ _ _ _ hi,endTo_at _ _ _ _ _ hi];by_cases e:i=k
  ·subst e;rw[if_pos (by omega),if_neg (by omega),endAt,if_pos h]
  ·by_cases h2:i<k
   ·rw[if_pos h2,if_pos (by omega)]
   ·rw[if_neg h2,if_neg (by omega)]
 ·rw[List.getElem?_eq_none (by simp;omega),List.getElem?_eq_none (by simp;omega)]
theorem endTo_set (lo ln:List It) (st:List Bool×List Tr) (k:Nat) (hk:k<lo.length) (h:¬ bAt st.1 k=true):(endTo lo ln st k).set k (keepT ln (itAt lo k))=endTo lo ln st (k+1):=by
 apply List.ext_getElem?;intro i;by_cases e:k=i
 ·subst e;rw[List.getElem?_set_self (by simpa using hk),endTo_at _ _ _ _ _ hk,if_pos (by omega),endAt,if_neg h]
 ·rw[List.getElem?_set_ne e];by_cases hi:i<lo.length
  ·rw[endTo_at _ _ _ _ _ hi,endTo_at _ _ _ _ _ hi];by_cases h2:i<k
   ·rw[if_pos h2,if_pos (by omega)]
   ·rw[if_neg h2,if_neg (by omega)]
  ·rw[List.getElem?_eq_none (by simp;omega),List.getElem?_eq_none (by simp;omega)]
def newE (lo ln:List It) (rs:List Ren):Int:=if renE lo ln rs rs.length≠0 then renE lo ln rs rs.length else endE lo ln (renTo lo ln rs rs.length) lo.length
def newL (lo ln:List It) (rs:List Ren):List Tr:=if newE lo ln rs=0 then endTo lo ln (renTo lo ln rs rs.length) lo.length else[]
theorem FR.of_bk {w w':World} {g:Nat} {t:TypeId} {xs:List Value} (h:Bk w' g t xs) (hg:w.heap.size<=g) (ht:t=115∨t=115):FR w w' (some ⟨g,0,none⟩) xs :=
 .inr ⟨g,_,t,_,rfl,hg,ht,h,fun j u hu=>(h.cell j).trans hu⟩
def NewPost (w:World) (lo ln:List It) (rs:List Ren) (e:Ending) (w':World):Prop :=
 ∃A c,e=.returned (.tuple #[.slice A (newL lo ln rs).length c,.int .i64 (newE lo ln rs)])∧FR w w' A (tcells (newL lo ln rs))∧Below w.heap.size w w'
theorem newPost_err {w w':World} {lo ln:List It} {rs:List Ren} {E:Int} (h:newE lo ln rs=E) (hE:E≠0) (hb:Below w.heap.size w w'):NewPost w lo ln rs (.returned (.tuple #[.slice none 0 0,.int .i64 E])) w':=by
 have h1:newL lo ln rs=[]:=by unfold newL;rw[if_neg (by omega)]
 exact⟨none,0,by rw[h1,h];rfl,by rw[h1];exact .inl rfl,hb⟩
theorem newE_ren {lo ln:List It} {rs:List Ren} {k:Nat} (hk:k<rs.length) (h0:renE lo ln rs k=0) (h:renErr lo ln (renTo lo ln rs k).1 (renAt rs k)≠0):newE lo ln rs=renErr lo ln (renTo lo ln rs k).1 (renAt rs k):=by
 have h1:renE lo ln rs (k+1)=renErr lo ln (renTo lo ln rs k).1 (renAt rs k):=by simp only[renE];rw[if_neg (by omega)]
 have h2:=renE_stays (m:=rs.length) (by rw[h1];exact h) hk;unfold newE;rw[h2,h1,if_pos h]
structure NewAt (w W : World) (io ro to_ xo ix rx tx xx : Sl) (bo bn gm gr : Nat) (lo ln : List It) (ren : List Bool) (m : List Tr) : Prop where
 mo:MapI W bo io.n (idxTo lo io.n)
 mn:MapI W bn ix.n (idxTo ln ix.n)
 bm:Bk W gm 115 (tcells m)
 br:Bk W gr 4 (bools ren)
 b1:Bk W w.heap.size 28 (catSL io ro to_ xo)
 b2:Bk W (w.heap.size+1) 28 (catSL ix rx tx xx)
 below:Below w.heap.size w W
 gm2:w.heap.size+2<=gm
 gr2:w.heap.size+2<=gr
 ne:gm≠gr
theorem MapI.ne_bk {W:World} {b n g:Nat} {M:ByteArray->Option Nat} {t:TypeId} {xs:List Value} (h:MapI W b n M) (hb:Bk W g t xs):b≠g:=by
 rintro rfl;obtain⟨D,⟨es,clock,hh,_⟩,_⟩:=h;unfold Bk at hb;rw[hh]at hb;cases hb
section
variable {w W W' : World} {io ro to_ xo ix rx tx xx : Sl} {bo bn gm gr : Nat} {lo ln : List It} {ren : List Bool} {m : List Tr}
theorem NewAt.grow (h:NewAt w W io ro to_ xo ix rx tx xx bo bn gm gr lo ln ren m) (hb:Below W.heap.size W W'):NewAt w W' io ro to_ xo ix rx tx xx bo bn gm gr lo ln ren m :=
 ⟨h.mo.below hb,h.mn.below hb,h.bm.below hb h.bm.lt,h.br.below hb h.br.lt,h.b1.below hb h.b1.lt,h.b2.below hb h.b2.lt,h.below.trans (hb.mono h.below.size),h.gm2,h.gr2,h.ne⟩
theorem NewAt.setR (h:NewAt w W io ro to_ xo ix rx tx xx bo bn gm gr lo ln ren m) (a:Nat):NewAt w (W.setCell ⟨gr,a,none⟩ (.bool true)) io ro to_ xo ix rx tx xx bo bn gm gr lo ln (ren.set a true) m:=by
 have g:=grown_setCell W gr a (.bool true);have h1:=h.gr2;exact⟨h.mo.kept g (fun e=>h.mo.ne_bk h.br (Option.some.inj e)),h.mn.kept g (fun e=>h.mn.ne_bk h.br (Option.some.inj e)),h.bm.far h.ne _,by rw[<- bools_set];exact h.br.set a _,
  h.b1.far (by simp;omega) _,h.b2.far (by simp;omega) _,h.below.setCell (by simp;omega) _,h.gm2,h.gr2,h.ne⟩
theorem NewAt.setM1 (h:NewAt w W io ro to_ xo ix rx tx xx bo bn gm gr lo ln ren m) (a:Nat) (t:Tr) (ha:a<m.length) :
 NewAt w (((W.setCell ⟨gm,a*3,none⟩ (.int .i64 t.1)).setCell ⟨gm,a*3+1,none⟩ (.int .i64 t.2.1)).setCell ⟨gm,a*3+2,none⟩ (.int .i64 t.2.2)) io ro to_ xo ix rx tx xx bo bn gm gr lo ln ren (m.set a t):=by
 have h1:=h.gm2;have k:∀(b n:Nat) (M:ByteArray->Option Nat),MapI W b n M->MapI (((W.setCell ⟨gm,a*3,none⟩ (.int .i64 t.1)).setCell ⟨gm,a*3+1,none⟩ (.int .i64 t.2.1)).setCell ⟨gm,a*3+2,none⟩ (.int .i64 t.2.2)) b n M:=fun b n M hM=>by
  have hne:some b≠some gm:=fun e=>hM.ne_bk h.bm (Option.some.inj e)
  exact((hM.kept (grown_setCell W gm _ _) hne).kept (grown_setCell _ gm _ _) hne).kept (grown_setCell _ gm _ _) hne
 refine⟨k _ _ _ h.mo,k _ _ _ h.mn,?_,((h.br.far (Ne.symm h.ne) _).far (Ne.symm h.ne) _).far (Ne.symm h.ne) _,((h.b1.far (by simp;omega) _).far (by simp;omega) _).far (by simp;omega) _,((h.b2.far (by simp;omega) _).far (by simp;omega) _).far (by simp;omega) _,
  ((h.below.setCell (by simp;omega) _).setCell (by simp;omega) _).setCell (by simp;omega) _,h.gm2,h.gr2,h.ne⟩
 rw[tcells_set _ _ _ ha];exact((h.bm.set _ _).set _ _).set _ _
end
theorem make_tos (n:Nat) (hn:n<=1000000) (W:World) :
 (Instr.makeSlice 111 (.int .i64 (n:Int)) (.int .i64 (n:Int))).run Tryz.prog W=.ok (.slice (some ⟨W.heap.size,0,none⟩) n n) (W.alloc (.cells (tcells (List.replicate n (0,0,0))).toArray 115)):=by
 obtain⟨i,hi,hz0,hz1,hz2⟩:=info_parts info115;have h:=run_make (P:=Tryz.prog) W 111 115 i (.agg #[.int .i64 0,.int .i64 0,.int .i64 0]) Tryz.underlying111 hi hz0 .i64 .i64 n n (by omega) (by omega) (by rw[hz2];omega) (by omega);rw[hz1]at h;simp only[Int.toNat_natCast]at h;have e:madeCells (Value.agg #[.int .i64 0,.int .i64 0,.int .i64 0]).cells (n*3)=(tcells (List.replicate n (0,0,0))).toArray:=by
  have hc:(Value.agg #[.int .i64 0,.int .i64 0,.int .i64 0]).cells=#[.int .i64 0,.int .i64 0,.int .i64 0]:=by rfl
  rw[hc];apply Array.ext
  ·simp[madeCells,tcells_length]
  ·intro j h1 h2;have h2':j<n*3:=by simpa[tcells_length]using h2
   have hj:j / 3<n:=by omega
   have ht:=tcells_at (List.replicate n ((0,0,0):Tr)) (j / 3) (by simpa using hj);have hr:(List.replicate n ((0,0,0):Tr))[j / 3]? = some (0,0,0):=by simp[hj]
   simp only[itemAt,numAt,denAt,hr,Option.getD_some]at ht;have key:(tcells (List.replicate n ((0,0,0):Tr)))[j]? = some (.int .i64 0):=by
    rcases(show j=j / 3*3∨j=j / 3*3+1∨j=j / 3*3+2 by omega)with e|e|e
    ·rw[e];exact ht.1
    ·rw[e];exact ht.2.1
    ·rw[e];exact ht.2.2
   have key2:(tcells (List.replicate n ((0,0,0):Tr)))[j]'(by rw[tcells_length];simpa using h2')=.int .i64 0:=by
    have:=List.getElem?_eq_some_iff.1 key;exact this.2
   have e2:(tcells (List.replicate n ((0,0,0):Tr))).toArray[j]=.int .i64 0:=by simpa using key2
   rw[e2];simp only[madeCells,Array.getElem_ofFn];rcases(show j % 3=0∨j % 3=1∨j % 3=2 by omega)with e|e|e <;> simp[e]
 rw[e]at h;exact h
theorem info4:(Tryz.prog.info? 4).map (fun i=>(i.zero,i.size,i.bytes))=some (some (.bool false),1,1):=by kernel_rfl
theorem make_bools (n:Nat) (hn:n<=1000000) (W:World) :
 (Instr.makeSlice 219 (.int .i64 (n:Int)) (.int .i64 (n:Int))).run Tryz.prog W=.ok (.slice (some ⟨W.heap.size,0,none⟩) n n) (W.alloc (.cells (bools (List.replicate n false)).toArray 4)):=by
 obtain⟨i,hi,hz0,hz1,hz2⟩:=info_parts info4;have h:=run_make (P:=Tryz.prog) W 219 4 i (.bool false) Tryz.underlying219 hi hz0 .i64 .i64 n n (by omega) (by omega) (by rw[hz2];omega) (by omega);rw[hz1]at h;simp only[Int.toNat_natCast,Nat.mul_one]at h;have e:madeCells (Value.bool false).cells n=(bools (List.replicate n false)).toArray:=by
  show madeCells #[.bool false] n=_;rw[made_zero];simp[bools]
 rw[e]at h;exact h
end
end
set_option linter.unusedVariables false
set_option linter.unusedSimpArgs false
theorem run_ibs (s:ByteArray) (c:Int) (w:World):(callFunc 424 #[.string s,.int .u8 c]).run Tryz.prog w=.ok (.value (.int .i64 (Lib.indexByte s.data.toList c.toNat.toUInt8))) w:=by
 rw[run_callFunc_extern Tryz.func424 (by kernel_rfl) (by kernel_rfl) (by kernel_rfl) (e:=Extern.BytealgIndexByte.indexByte) (by kernel_rfl) _ w,Lib.run_indexByteString];rfl
theorem sib_any (s:ByteArray) (c:Int) (w:World):Calls Tryz.prog 401 #[.string s,.int .u8 c] w fun e w'=>e=.returned (.int .i64 (Lib.indexByte s.data.toList c.toNat.toUInt8))∧w=w':=by
 have hr:=fun W=>run_ibs s c W
 go_enter Tryz.func401,Tryz.ntmps401;go_wp2;go_ret;exact⟨rfl,rfl⟩
theorem ib_any (s:ByteArray) (c:Int) (w:World):Calls Tryz.prog 342 #[.string s,.int .u8 c] w fun e w'=>e=.returned (.int .i64 (Lib.indexByte s.data.toList c.toNat.toUInt8))∧w=w':=by
 go_enter Tryz.func342,Tryz.ntmps342;go_wp2_with fail;refine(sib_any _ _ _).mono ?_;rintro e w' ⟨rfl,rfl⟩;go_wp2;go_ret;exact⟨rfl,rfl⟩
def nlR (s:ByteArray) (p:Nat):Int:=Lib.indexByte (s.extract p s.size).data.toList 10
def nlAt (s:ByteArray) (p:Nat):Nat:=if nlR s p<0 then s.size else p+(nlR s p).toNat
theorem ext_get (s:ByteArray) (p k:Nat):(s.extract p s.size).data.toList[k]? = s.data.toList[p+k]?:=by
 rw[Lib.extract_to_end,List.getElem?_drop]
theorem nlR_ge (s:ByteArray) (p:Nat) : -1<=nlR s p:=Lib.indexByte_ge _ _
theorem nlAt_le (s:ByteArray) (p:Nat):nlAt s p<=s.size:=by
 unfold nlAt;split
 ·exact Nat.le_refl _
 ·rename_i h
  obtain⟨o,ho⟩:=Int.eq_ofNat_of_zero_le (show 0<=nlR s p by omega);have h1:=(Lib.indexByte_some (o:=o) (show Lib.indexByte (s.extract p s.size).data.toList 10=o from ho)).1;rw[ext_get]at h1;have:=(List.getElem?_eq_some_iff.1 h1).1;have e:s.data.toList.length=s.size:=by simp
  rw[ho];simp at this⊢;omega
theorem nlAt_gt {s:ByteArray} {p:Nat} (hp:p<s.size) (h:s[p].toNat≠10):p<nlAt s p:=by
 unfold nlAt;split
 ·exact hp
 ·rename_i h0
  obtain⟨o,ho⟩:=Int.eq_ofNat_of_zero_le (show 0<=nlR s p by omega);have h1:=(Lib.indexByte_some (o:=o) (show Lib.indexByte (s.extract p s.size).data.toList 10=o from ho)).1;rw[ext_get]at h1;rw[ho];rcases Nat.eq_zero_or_pos o with e|e
  ·subst e;rw[Nat.add_zero,Lib.data_getElem? s p hp]at h1;exfalso;apply h;rw[Option.some.inj h1];rfl
  ·simp;omega
def skipS (s:ByteArray) (p:Nat):Nat :=
 if h:p<s.size then
  if kindAt s p=1 then skipS s (p+1) else if kindAt s p=2 then(if p<nlAt s p then skipS s (nlAt s p) else p) else p
 else p
termination_by s.size-p
decreasing_by all_goals omega
theorem skipS_end {s:ByteArray} {p:Nat} (h:s.size<=p):skipS s p=p:=by
 unfold skipS;rw[dif_neg (by omega)]
theorem skipS_blank {s:ByteArray} {p:Nat} (h:p<s.size) (hk:kindAt s p=1):skipS s p=skipS s (p+1):=by
 conv=>lhs;unfold skipS
 rw[dif_pos h,if_pos hk]
theorem skipS_hash {s:ByteArray} {p:Nat} (h:p<s.size) (hk:kindAt s p=2) (hn:p<nlAt s p):skipS s p=skipS s (nlAt s p):=by
 conv=>lhs;unfold skipS
 rw[dif_pos h,if_neg (by omega),if_pos hk,if_pos hn]
theorem skipS_stay {s:ByteArray} {p:Nat} (h1:kindAt s p≠1) (h2:kindAt s p≠2):skipS s p=p:=by
 unfold skipS;split
 ·rfl
 ·rfl
theorem skipS_bd (s:ByteArray) (p:Nat) (hp:p<=s.size):p<=skipS s p∧skipS s p<=s.size:=by
 induction hm:s.size-p using Nat.strongRecOn generalizing p with
 | _ m ih =>
   unfold skipS;split
   ·rename_i h
    split
    ·have:=ih (s.size-(p+1)) (by omega) (p+1) (by omega) rfl;omega
    ·split
     ·split
      ·have h3:=nlAt_le s p;have:=ih (s.size-nlAt s p) (by omega) (nlAt s p) h3 rfl;omega
      ·omega
     ·omega
   ·omega
theorem kind_hash {s:ByteArray} {p:Nat} (hp:p<s.size) (h:kindAt s p=2):s[p].toNat≠10:=by
 intro e;simp[kindAt,hp,e]at h;revert h;decide
theorem skip_any (s:ByteArray) (p:Nat) (w:World) (hp:p<=s.size) (hs:s.size<=1000000) (hT:Tab w) :
 Calls Tryz.prog 236 #[.string s,.int .i64 p] w fun e w'=>e=.returned (.int .i64 (skipS s p))∧w=w':=by
 have HT:=iH hT;clear hT;go_enter Tryz.func236,Tryz.ntmps236;go_wp2_with fail
 go_loop [1] (fun i=>∃k:Nat,k<=s.size∧i=.int .i64 k∧skipS s k=skipS s p) (fun i=>s.size-(intOf i).toNat)
 case atStart=>exact⟨p,hp,rfl,rfl⟩
 case round =>
  obtain⟨k,hk,rfl,hR⟩:=hrel;have HR:=iH hR;clear hR;by_cases hlt:k<s.size
  ·by_cases h1:kindAt s k=1
   ·have HS:=iH ((skipS_blank hlt h1).symm.trans HR.out);go_wp2_with fail;refine(kindAt_any s k _ HT.out).mono ?_;rintro e w' ⟨rfl,rfl⟩;go_wp2_with fail
    go_round
    case rel=>exact⟨k+1,by omega,by go_num,HS.out⟩
    case measure=>simp[intOf];omega
   ·have q1:(kindAt s k == 1)=false:=by simpa using h1
    by_cases h2:kindAt s k=2
    ·have hn:=nlAt_gt hlt (kind_hash hlt h2);have HS:=iH ((skipS_hash hlt h2 hn).symm.trans HR.out);have hle:=nlAt_le s k;have hge:=nlR_ge s k;have HI:Hid (∀W,Calls Tryz.prog 342 #[.string (s.extract k s.size),.int .u8 10] W fun e w'=>e=.returned (.int .i64 (nlR s k))∧W=w'):=fun W=>ib_any _ _ _
     have hq:nlAt s k=if nlR s k<0 then s.size else k+(nlR s k).toNat:=rfl
     have HQ:=iH hq;clear hq;generalize nlR s k=r at *;by_cases hr:r<0
     ·rw[if_pos hr]at HQ;have HE:Hid (skipS s p=s.size):=by
       show skipS s p=s.size;rw[<- HS.out,HQ.out,skipS_end (Nat.le_refl _)]
      go_wp2_with fail;refine(kindAt_any s k _ HT.out).mono ?_;rintro e w' ⟨rfl,rfl⟩;rw[h2];go_wp2_with fail;refine(HI.out _).mono ?_;rintro e w' ⟨rfl,rfl⟩;go_wp2_with fail;go_ret;exact⟨by rw[HE.out];rfl,rfl⟩
     ·obtain⟨o,rfl⟩:=Int.eq_ofNat_of_zero_le (show 0<=r by omega);rw[if_neg hr,Int.toNat_natCast]at HQ;rw[HQ.out]at hn hle HS;go_wp2_with fail;refine(kindAt_any s k _ HT.out).mono ?_;rintro e w' ⟨rfl,rfl⟩;rw[h2];go_wp2_with fail;refine(HI.out _).mono ?_;rintro e w' ⟨rfl,rfl⟩;go_wp2_with fail
      go_round
      case rel=>exact⟨k+o,by omega,by go_num,HS.out⟩
      case measure=>simp[intOf];omega
    ·have q2:(kindAt s k == 2)=false:=by simpa using h2
     have HE:=iH ((skipS_stay h1 h2).symm.trans HR.out);clear h1 h2;go_wp2_with fail;refine(kindAt_any s k _ HT.out).mono ?_;rintro e w' ⟨rfl,rfl⟩;generalize kindAt s k=kk at *;go_wp2_with fail;go_ret;exact⟨by rw[<- HE.out];rfl,rfl⟩
  ·have HE:Hid (skipS s p=k):=by
    show skipS s p=k;rw[<- HR.out,skipS_end (by omega)]
   go_wp2_with fail;go_ret;exact⟨by rw[HE.out];rfl,rfl⟩
def runEnd (f:Int->Bool) (s:ByteArray) (j:Nat):Nat:=if j<s.size then(if f (kindAt s j)=true then runEnd f s (j+1) else j) else j
termination_by s.size-j
theorem runEnd_go {f:Int->Bool} {s:ByteArray} {j:Nat} (h:j<s.size) (hf:f (kindAt s j)=true):runEnd f s j=runEnd f s (j+1):=by
 conv=>lhs;unfold runEnd
 rw[if_pos h,if_pos hf]
theorem runEnd_stop {f:Int->Bool} {s:ByteArray} {j:Nat} (hf:f (kindAt s j)=false):runEnd f s j=j:=by
 unfold runEnd;split
 ·rw[if_neg (by rw[hf];decide)]
 ·rfl
theorem runEnd_end {f:Int->Bool} {s:ByteArray} {j:Nat} (h:s.size<=j):runEnd f s j=j:=by
 unfold runEnd;rw[if_neg (by omega)]
theorem runEnd_bd (f:Int->Bool) (s:ByteArray) (j:Nat) (hj:j<=s.size):j<=runEnd f s j∧runEnd f s j<=s.size:=by
 induction hm:s.size-j using Nat.strongRecOn generalizing j with
 | _ m ih =>
   unfold runEnd;split
   ·split
    ·have:=ih (s.size-(j+1)) (by omega) (j+1) (by omega) rfl;omega
    ·omega
   ·omega
theorem runEnd_in {f:Int->Bool} {s:ByteArray} {j i:Nat} (h1:j<=i) (h2:i<runEnd f s j):f (kindAt s i)=true:=by
 induction hm:s.size-j using Nat.strongRecOn generalizing j with
 | _ m ih =>
   by_cases h:j<s.size
   ·cases hf:f (kindAt s j)
    ·rw[runEnd_stop hf]at h2;omega
    ·by_cases e:i=j
     ·subst e;exact hf
     ·rw[runEnd_go h hf]at h2;exact ih (s.size-(j+1)) (by omega) (by omega) h2 rfl
   ·rw[runEnd_end (by omega)]at h2;omega
def digB (k:Int):Bool:=k == 4
theorem kind_dig {s:ByteArray} {i:Nat} (h:kindAt s i=4):∃hi:i<s.size,48<=s[i].toNat∧s[i].toNat<=57:=by
 by_cases hi:i<s.size
 ·refine⟨hi,?_⟩;by_cases hc:s[i].toNat<128
  ·simp only[kindAt,hi,hc,dif_pos,if_pos]at h;have:∀j:Fin 128,kindOf j.val=4->48<=j.val∧j.val<=57:=by decide +kernel
   exact this ⟨_,hc⟩ h
  ·simp[kindAt,hi,hc]at h
 ·simp[kindAt,hi]at h
def byteAt (s:ByteArray) (i:Nat):Int:=if h:i<s.size then(s[i].toNat:Int) else 0
def numE (s:ByteArray) (p:Nat):Nat->Int
 | 0=>0
 | k+1=>if 1099511627776<numE s p k then numE s p k else numE s p k*10+(byteAt s (p+k)-48)
theorem numE_stays {s:ByteArray} {p k:Nat} (h:1099511627776<numE s p k):∀m,k<=m->numE s p m=numE s p k:=by
 intro m hm
 induction m with
 | zero => obtain rfl : k = 0 := by omega
           rfl
 | succ m ih =>
   by_cases e:k=m+1
   ·subst e;rfl
   ·have h1:=ih (by omega);simp only[numE];rw[if_pos (by rw[h1];exact h),h1]
def nextT (s:ByteArray) (p:Nat):Tok :=
 if kindAt s p=3 then
  (if 16<runEnd wordB s (p+1)-p then⟨0,⟨#[]⟩,0,p,4⟩ else⟨0,s.extract p (runEnd wordB s (p+1)),0,p,0⟩)
 else if kindAt s p=4 then
  (if 1099511627776<numE s p (runEnd digB s (p+1)-p) then⟨1,⟨#[]⟩,numE s p (runEnd digB s (p+1)-p),p,4⟩ else⟨1,s.extract p (runEnd digB s (p+1)),numE s p (runEnd digB s (p+1)-p),p,0⟩)
 else if kindAt s p=7 then⟨2,s.extract p (p+1),0,p,0⟩
 else if kindAt s p=6 then(if p+2<=s.size∧byteAt s (p+1)=62 then⟨2,s.extract p (p+2),0,p,0⟩ else⟨2,⟨#[]⟩,0,p,2⟩)
 else⟨0,⟨#[]⟩,0,p,2⟩
def NextPost (w:World) (t:Tok) (e:Ending) (w':World):Prop:=e=.returned (.tuple #[t.val,.int .i64 t.err])∧Below w.heap.size w w'
theorem next_word_any (s:ByteArray) (p:Nat) (w:World) (hT:Tab w) (h0:kindAt s p=3) (hl:p<s.size) (hs:s.size<=1000000) :
 Calls Tryz.prog 237 #[.string s,.int .i64 p] w (NextPost w (nextT s p)):=by
 have HT:=iH hT;have H0:=iH h0;have hn:nextT s p=if 16<runEnd wordB s (p+1)-p then⟨0,⟨#[]⟩,0,p,4⟩ else⟨0,s.extract p (runEnd wordB s (p+1)),0,p,0⟩:=by unfold nextT;rw[if_pos h0]
 have hE:=runEnd_bd wordB s (p+1) hl;have HN:=iH hn;obtain⟨E,hEe⟩:∃E,E=runEnd wordB s (p+1):=⟨_,rfl⟩;rw[<- hEe]at HN hE;have HE:=iH hEe;clear hT h0 hn hEe;go_enter Tryz.func237,Tryz.ntmps237;go_wp2_with fail;refine(kindAt_any s p _ (HT.out.below ((((Below.refl _ w).alloc (Nat.le_refl _) _).alloc (by simp) _)) HT.out.1)).mono ?_;rintro e w' ⟨rfl,rfl⟩;rw[H0.out];go_wp2_with fail;refine(kindAt_any s (p+1) _ (HT.out.below ((((Below.refl _ w).alloc (Nat.le_refl _) _).alloc (by simp) _)) HT.out.1)).mono ?_;rintro e w' ⟨rfl,rfl⟩;obtain⟨k1,hk1⟩:∃k1,k1=kindAt s (p+1):=⟨_,rfl⟩;have Hk1:=iH hk1;rw[<- hk1];clear hk1;go_wp2_with fail
 go_loop [7,8] (fun e k=>∃j:Nat,p+1<=j∧j<=s.size∧runEnd wordB s j=E∧e=.int .i64 j∧k=.int .u8 (kindAt s j)) (fun e _=>s.size-(intOf e).toNat)
 case atStart=>exact⟨p+1,Nat.le_refl _,hl,HE.out.symm,by go_num,by rw[Hk1.out]⟩
 case round =>
  obtain⟨j,hj1,hj2,hR,rfl,rfl⟩:=hrel;have HR:=iH hR;clear hR;cases hwb:wordB (kindAt s j)
  ·have hq:(kindAt s j == 3)=false∧(kindAt s j == 4)=false∧(kindAt s j == 5)=false:=by
    simp only[wordB,Bool.or_eq_false_iff]at hwb;exact⟨hwb.1.1,hwb.1.2,hwb.2⟩
   obtain⟨q1,q2,q3⟩:=hq;have hjE:E=j:=by rw[<- HR.out,runEnd_stop hwb]
   have HjE:=iH hjE;clear hwb hjE;generalize kindAt s j=k at *;by_cases hb:16<j-p
   ·have hb2:(16:Int)<(j:Int)-(p:Int):=by omega
    rw[HjE.out,if_pos hb]at HN;go_wp2_with fail;refine bodyPost_ret (v:=.tuple #[.agg #[.int .i64 0,.string ⟨#[]⟩,.int .i64 0,.int .i64 p],.int .i64 4]) (by simp[results,Tryz.results237,go_sem]) rfl ⟨by rw[HN.out];rfl,?_⟩;exact(((Below.refl _ w).alloc (Nat.le_refl _) _).alloc (by simp) _)
   ·have hb2:¬ (16:Int)<(j:Int)-(p:Int):=by omega
    rw[HjE.out,if_neg hb]at HN;go_wp2_with fail;refine bodyPost_ret (v:=.tuple #[.agg #[.int .i64 0,.string (s.extract p j),.int .i64 0,.int .i64 p],.int .i64 0]) (by simp[results,Tryz.results237,go_sem]) rfl ⟨by rw[HN.out];rfl,?_⟩;exact(((Below.refl _ w).alloc (Nat.le_refl _) _).alloc (by simp) _)
  ·have hlt:j<s.size:=by
    by_cases h:j<s.size
    ·exact h
    ·have:kindAt s j=0:=by simp[kindAt,h]
     rw[this]at hwb;simp[wordB]at hwb
   have HR2:=iH ((runEnd_go hlt hwb).symm.trans HR.out);have hk:kindAt s j=3∨kindAt s j=4∨kindAt s j=5:=by simpa[wordB,or_assoc]using hwb
   clear hwb;generalize kindAt s j=k at *;rcases hk with rfl|rfl|rfl
   all_goals
    go_wp2_with fail;refine(kindAt_any s (j+1) _ (HT.out.below ((((Below.refl _ w).alloc (Nat.le_refl _) _).alloc (by simp) _)) HT.out.1)).mono ?_;rintro e w' ⟨rfl,rfl⟩;go_wp2_with fail
    go_round
    case rel=>exact⟨j+1,by omega,by omega,HR2.out,by go_num,rfl⟩
    case measure=>simp[intOf];omega
theorem next_sym_any (s:ByteArray) (p:Nat) (w:World) (hT:Tab w) (h0:kindAt s p=7) (hl:p<s.size) (hs:s.size<=1000000) :
 Calls Tryz.prog 237 #[.string s,.int .i64 p] w (NextPost w (nextT s p)):=by
 have HT:=iH hT;have H0:=iH h0;have hn:nextT s p=⟨2,s.extract p (p+1),0,p,0⟩:=by unfold nextT;rw[if_neg (by omega),if_neg (by omega),if_pos h0]
 have HN:=iH hn;clear hT h0 hn;go_enter Tryz.func237,Tryz.ntmps237;go_wp2_with fail;refine(kindAt_any s p _ (HT.out.below ((((Below.refl _ w).alloc (Nat.le_refl _) _).alloc (by simp) _)) HT.out.1)).mono ?_;rintro e w' ⟨rfl,rfl⟩;rw[H0.out];go_wp2_with fail;refine bodyPost_ret (v:=.tuple #[.agg #[.int .i64 2,.string (s.extract p (p+1)),.int .i64 0,.int .i64 p],.int .i64 0]) (by simp[results,Tryz.results237,go_sem]) rfl ⟨by rw[HN.out];rfl,?_⟩;exact(((Below.refl _ w).alloc (Nat.le_refl _) _).alloc (by simp) _)
theorem next_minus_any (s:ByteArray) (p:Nat) (w:World) (hT:Tab w) (h0:kindAt s p=6) (hl:p<s.size) (hs:s.size<=1000000) :
 Calls Tryz.prog 237 #[.string s,.int .i64 p] w (NextPost w (nextT s p)):=by
 have HT:=iH hT;have H0:=iH h0;have hn:nextT s p=(if p+2<=s.size∧byteAt s (p+1)=62 then⟨2,s.extract p (p+2),0,p,0⟩ else⟨2,⟨#[]⟩,0,p,2⟩):=by unfold nextT;rw[if_neg (by omega),if_neg (by omega),if_neg (by omega),if_pos h0]
 have HN:=iH hn;clear hT h0 hn;by_cases h2:p+2<=s.size
 ·have hlt:p+1<s.size:=by omega
  have hbe:byteAt s (p+1)=(s[p+1].toNat:Int):=by simp[byteAt,hlt]
  by_cases h3:(s[p+1].toNat:Int)=62
  ·rw[if_pos ⟨h2,hbe.trans h3⟩]at HN;have q:((s[p+1].toNat:Int) != 62)=false:=by simpa using h3
   have hp2:¬ (s.size:Int)<(p:Int)+1+1:=by omega
   clear hbe h3;go_enter Tryz.func237,Tryz.ntmps237;go_wp2_with fail;refine(kindAt_any s p _ (HT.out.below ((((Below.refl _ w).alloc (Nat.le_refl _) _).alloc (by simp) _)) HT.out.1)).mono ?_;rintro e w' ⟨rfl,rfl⟩;rw[H0.out];go_wp2_with fail;refine bodyPost_ret (v:=.tuple #[.agg #[.int .i64 2,.string (s.extract p (p+2)),.int .i64 0,.int .i64 p],.int .i64 0]) (by simp[results,Tryz.results237,go_sem]) rfl ⟨by rw[HN.out];rfl,?_⟩;exact(((Below.refl _ w).alloc (Nat.le_refl _) _).alloc (by simp) _)
  ·rw[if_neg (fun h=>h3 (hbe.symm.trans h.2))]at HN;have q:((s[p+1].toNat:Int) != 62)=true:=by simpa using h3
   have hp2:¬ (s.size:Int)<(p:Int)+1+1:=by omega
   clear hbe h3;go_enter Tryz.func237,Tryz.ntmps237;go_wp2_with fail;refine(kindAt_any s p _ (HT.out.below ((((Below.refl _ w).alloc (Nat.le_refl _) _).alloc (by simp) _)) HT.out.1)).mono ?_;rintro e w' ⟨rfl,rfl⟩;rw[H0.out];go_wp2_with fail;refine bodyPost_ret (v:=.tuple #[.agg #[.int .i64 2,.string ⟨#[]⟩,.int .i64 0,.int .i64 p],.int .i64 2]) (by simp[results,Tryz.results237,go_sem]) rfl ⟨by rw[HN.out];rfl,?_⟩;exact(((Below.refl _ w).alloc (Nat.le_refl _) _).alloc (by simp) _)
 ·rw[if_neg (fun h=>h2 h.1)]at HN;have hp2:(s.size:Int)<(p:Int)+1+1:=by omega
  go_enter Tryz.func237,Tryz.ntmps237;go_wp2_with fail;refine(kindAt_any s p _ (HT.out.below ((((Below.refl _ w).alloc (Nat.le_refl _) _).alloc (by simp) _)) HT.out.1)).mono ?_;rintro e w' ⟨rfl,rfl⟩;rw[H0.out];go_wp2_with fail;refine bodyPost_ret (v:=.tuple #[.agg #[.int .i64 2,.string ⟨#[]⟩,.int .i64 0,.int .i64 p],.int .i64 2]) (by simp[results,Tryz.results237,go_sem]) rfl ⟨by rw[HN.out];rfl,?_⟩;exact(((Below.refl _ w).alloc (Nat.le_refl _) _).alloc (by simp) _)
theorem next_none_any (s:ByteArray) (p:Nat) (w:World) (hT:Tab w) (h3:kindAt s p≠3) (h4:kindAt s p≠4) (h7:kindAt s p≠7) (h6:kindAt s p≠6) (hl:p<s.size) (hs:s.size<=1000000) :
 Calls Tryz.prog 237 #[.string s,.int .i64 p] w (NextPost w (nextT s p)):=by
 have HT:=iH hT;have hn:nextT s p=⟨0,⟨#[]⟩,0,p,2⟩:=by unfold nextT;rw[if_neg h3,if_neg h4,if_neg h7,if_neg h6]
 have HN:=iH hn;have q3:(kindAt s p == 3)=false:=by simpa using h3
 have q4:(kindAt s p == 4)=false:=by simpa using h4
 have q7:(kindAt s p == 7)=false:=by simpa using h7
 have q6:(kindAt s p == 6)=false:=by simpa using h6
 clear hT hn h3 h4 h7 h6;go_enter Tryz.func237,Tryz.ntmps237;go_wp2_with fail;refine(kindAt_any s p _ (HT.out.below ((((Below.refl _ w).alloc (Nat.le_refl _) _).alloc (by simp) _)) HT.out.1)).mono ?_;rintro e w' ⟨rfl,rfl⟩;generalize kindAt s p=k at *;go_wp2_with fail;refine bodyPost_ret (v:=.tuple #[.agg #[.int .i64 0,.string ⟨#[]⟩,.int .i64 0,.int .i64 p],.int .i64 2]) (by simp[results,Tryz.results237,go_sem]) rfl ⟨by rw[HN.out];rfl,?_⟩;exact(((Below.refl _ w).alloc (Nat.le_refl _) _).alloc (by simp) _)
theorem numE_nonneg {s:ByteArray} {p n:Nat} (h:∀i,i<n->kindAt s (p+i)=4):∀k,k<=n->0<=numE s p k:=by
 intro k hk
 induction k with
 | zero=>simp[numE]
 | succ k ih =>
   have h1:=ih (by omega);obtain⟨hi,h2,_⟩:=kind_dig (h k (by omega));have:byteAt s (p+k)=(s[p+k].toNat:Int):=by simp[byteAt,hi]
   simp only[numE];split <;> omega
theorem wrap_u8 {x:Int} (h0:0<=x) (h1:x<256):IntKind.u8.wrap x=x:=by
 have e:IntKind.u8.wrap x=x % 256:=rfl;rw[e];omega
theorem next_num_any (s:ByteArray) (p:Nat) (w:World) (hT:Tab w) (h0:kindAt s p=4) (hl:p<s.size) (hs:s.size<=1000000) :
 Calls Tryz.prog 237 #[.string s,.int .i64 p] w (NextPost w (nextT s p)):=by
 have HT:=iH hT;have H0:=iH h0;have hn:nextT s p=(if 1099511627776<numE s p (runEnd digB s (p+1)-p) then⟨1,⟨#[]⟩,numE s p (runEnd digB s (p+1)-p),p,4⟩ else⟨1,s.extract p (runEnd digB s (p+1)),numE s p (runEnd digB s (p+1)-p),p,0⟩):=by unfold nextT;rw[if_neg (by omega),if_pos h0]
 have hE:=runEnd_bd digB s (p+1) hl;have hA:∀i,i<runEnd digB s (p+1)-p->kindAt s (p+i)=4:=fun i hi=>by
  by_cases e:i=0
  ·subst e;exact h0
  ·have:=runEnd_in (f:=digB) (s:=s) (j:=p+1) (i:=p+i) (by omega) (by omega);simpa[digB]using this
 have HN:=iH hn;obtain⟨E,hEe⟩:∃E,E=runEnd digB s (p+1):=⟨_,rfl⟩;rw[<- hEe]at HN hE hA;have HE:=iH hEe;have HA:=iH hA;clear hT h0 hn hEe hA;go_enter Tryz.func237,Tryz.ntmps237;go_wp2_with fail;refine(kindAt_any s p _ (HT.out.below ((((Below.refl _ w).alloc (Nat.le_refl _) _).alloc (by simp) _)) HT.out.1)).mono ?_;rintro e w' ⟨rfl,rfl⟩;rw[H0.out];go_wp2_with fail
 go_loop [7] (fun e=>∃j:Nat,p+1<=j∧j<=s.size∧runEnd digB s j=E∧e=.int .i64 j) (fun e=>s.size-(intOf e).toNat)
 case atStart=>exact⟨p+1,Nat.le_refl _,hl,HE.out.symm,by go_num⟩
 case round =>
  obtain⟨j,hj1,hj2,hR,rfl⟩:=hrel;have HR:=iH hR;clear hR;cases hwb:digB (kindAt s j)
  ·have q1:(kindAt s j == 4)=false:=hwb;have hjE:E=j:=by rw[<- HR.out,runEnd_stop hwb]
   subst hjE;clear hwb;have B0:Below w.heap.size w ((w.alloc (.cells #[.int .i64 0,.string ⟨#[]⟩,.int .i64 0,.int .i64 0] 64)).alloc (.cells #[.int .i64 1,.string ⟨#[]⟩,.int .i64 0,.int .i64 p] 64)):=((Below.refl _ w).alloc (Nat.le_refl _) _).alloc (by simp) _;have K0:=(Bk.new w 64 [.int .i64 0,.string ⟨#[]⟩,.int .i64 0,.int .i64 0]).alloc (.cells #[.int .i64 1,.string ⟨#[]⟩,.int .i64 0,.int .i64 p] 64);have K1:=Bk.new (w.alloc (.cells #[.int .i64 0,.string ⟨#[]⟩,.int .i64 0,.int .i64 0] 64)) 64 [.int .i64 1,.string ⟨#[]⟩,.int .i64 0,.int .i64 p];rw[World.size_alloc]at K1;have HB0:=iH B0;have HK0:=iH K0;have HK1:=iH K1;clear B0 K0 K1;go_wp2_with fail;refine(kindAt_any s E _ (HT.out.below ((((Below.refl _ w).alloc (Nat.le_refl _) _).alloc (by simp) _)) HT.out.1)).mono ?_;rintro e w' ⟨rfl,rfl⟩;generalize kindAt s E=kk at *;go_wp2_with fail;go_loopw [9] (fun i wr=>∃k:Nat,p<=k∧k<=E∧i=.int .i64 (k:Int)∧numE s p (k-p)<=1099511627776∧Bk wr w.heap.size 64 [.int .i64 0,.string ⟨#[]⟩,.int .i64 0,.int .i64 0]∧Bk wr (w.heap.size+1) 64 [.int .i64 1,.string ⟨#[]⟩,.int .i64 (numE s p (k-p)),.int .i64 p]∧Below w.heap.size w wr) (fun i _=>E-(intOf i).toNat)
   case atStart=>exact⟨p,Nat.le_refl _,by omega,rfl,by simp[numE],by exact HK0.out,by rw[Nat.sub_self];exact HK1.out,HB0.out⟩
   case round =>
    obtain⟨k,hkp,hk,rfl,hM,k0,k1,hb⟩:=hrel;clear HK0 HK1 HB0;have HB:=iH hb;have HK0:=iH k0;have HK1:=iH k1;have hN0:=numE_nonneg HA.out (k-p) (by omega);clear hb k0 k1;by_cases hlt:k<E
    ·have ek:p+(k-p)=k:=by omega
     have hk4:kindAt s k=4:=by have:=HA.out (k-p) (by omega);rwa [ek]at this
     obtain⟨hi,d0,d1⟩:=kind_dig hk4;clear hk4;have hby:byteAt s k=(s[k].toNat:Int):=by simp[byteAt,hi]
     have HS:Hid (numE s p (k+1-p)=numE s p (k-p)*10+((s[k].toNat:Int)-48)):=by
      show numE s p (k+1-p)=_;rw[show k+1-p=(k-p)+1 by omega];simp only[numE];rw[if_neg (by omega),ek,hby]
     have HSt:=iH (fun h=>numE_stays (s:=s) (p:=p) (k:=k+1-p) h (E-p) (by omega));clear hby ek;generalize numE s p (k-p)=N at *;have g1:IntKind.i64.wrap (N*10)=N*10:=IntWalk.i64_in _ (by omega);have hd0:(48:Int)<=(s[k].toNat:Int):=by omega
     have hd1:(s[k].toNat:Int)<=57:=by omega
     obtain⟨N2,hN2⟩:∃N2,N2=N*10+((s[k].toNat:Int)-48):=⟨_,rfl⟩;rw[<- hN2]at HS;have hN2a:0<=N2:=by omega
     have hN2b:N2<=10995116277770:=by omega
     have g2:IntKind.i64.wrap (N*10+((s[k].toNat:Int)-48))=N2:=by rw[hN2];exact IntWalk.i64_in _ (by omega)
     have g3:IntKind.u8.wrap ((s[k].toNat:Int)-48)=(s[k].toNat:Int)-48:=wrap_u8 (by omega) (by omega);have g4:IntKind.i64.wrap ((s[k].toNat:Int)-48)=(s[k].toNat:Int)-48:=IntWalk.i64_in _ (by omega);have HN2:=iH hN2;clear hN2;have c1:=HK1.out.k2;have f1:wr.frozen? ⟨w.heap.size+1,2,none⟩=false:=HK1.out.frozen 2;have l1:w.heap.size+1<wr.heap.size:=HK1.out.lt;have hx0:(0:Int)<=(k:Int):=by omega
     have hx1:(k:Int)<(s.size:Int):=by omega
     go_wp2_with fail;go_still_tail 10,(by kernel_rfl);change wpList _ _ _ _ _ wr.drew;have HK0':=iH HK0.out.drew;have HK1':=iH (HK1.out.drew.set 2 (.int .i64 N2));have HK2':=iH HK1.out.drew;have HB':=iH HB.out.drew;clear c1 f1 l1 HK0 HK1 HB;generalize wr.drew=V at *;have c1:=HK2'.out.k2;have f1:V.frozen? ⟨w.heap.size+1,2,none⟩=false:=HK2'.out.frozen 2;have l1:w.heap.size+1<V.heap.size:=HK2'.out.lt;have HK0'':=iH (HK0'.out.far (p:=⟨w.heap.size+1,2,none⟩) (by simp) (.int .i64 N2));have HB'':=iH (HB'.out.setCell (p:=⟨w.heap.size+1,2,none⟩) (by simp) (.int .i64 N2));simp only[List.set_cons_succ,List.set_cons_zero]at HK1';by_cases hbig:1099511627776<N2
     ·have HF:Hid (nextT s p=⟨1,⟨#[]⟩,N2,p,4⟩):=by
       show nextT s p=_;have:=HSt.out (by rw[HS.out];exact hbig);rw[HN.out,this,HS.out,if_pos hbig]
      have t0:=HK2'.out.k0;have t1:=HK2'.out.k1;have t3:=HK2'.out.k3;have r0:=HK0'.out.k0;have r1:=HK0'.out.k1;have r2:=HK0'.out.k2;have r3:=HK0'.out.k3;have f0:V.frozen? ⟨w.heap.size,0,none⟩=false:=HK0'.out.frozen 0;have f1:V.frozen? ⟨w.heap.size,1,none⟩=false:=HK0'.out.frozen 1;have f2:V.frozen? ⟨w.heap.size,2,none⟩=false:=HK0'.out.frozen 2;have f3:V.frozen? ⟨w.heap.size,3,none⟩=false:=HK0'.out.frozen 3;have l0:w.heap.size<V.heap.size:=HK0'.out.lt;have HK3:=iH ((((HK0''.out.set 0 (.int .i64 1)).set 1 (.string ⟨#[]⟩)).set 2 (.int .i64 N2)).set 3 (.int .i64 p));simp only[List.set_cons_succ,List.set_cons_zero]at HK3;have HB3:Hid (Below w.heap.size w (((((V.setCell ⟨w.heap.size+1,2,none⟩ (.int .i64 N2)).setCell ⟨w.heap.size,0,none⟩ (.int .i64 1)).setCell ⟨w.heap.size,1,none⟩ (.string ⟨#[]⟩)).setCell ⟨w.heap.size,2,none⟩ (.int .i64 N2)).setCell ⟨w.heap.size,3,none⟩ (.int .i64 p))):=(((HB''.out.setCell (by simp) _).setCell (by simp) _).setCell (by simp) _).setCell (by simp) _;go_wp2_with fail;clear r0 r1 r2 r3 f0 f1 f2 f3 l0 t0 t1 t3;generalize(((((V.setCell ⟨w.heap.size+1,2,none⟩ (.int .i64 N2)).setCell ⟨w.heap.size,0,none⟩ (.int .i64 1)).setCell ⟨w.heap.size,1,none⟩ (.string ⟨#[]⟩)).setCell ⟨w.heap.size,2,none⟩ (.int .i64 N2)).setCell ⟨w.heap.size,3,none⟩ (.int .i64 p))=V3 at *;have r0:=HK3.out.k0;have r1:=HK3.out.k1;have r2:=HK3.out.k2;have r3:=HK3.out.k3;exact bodyPost_ret (v:=.tuple #[.agg #[.int .i64 1,.string ⟨#[]⟩,.int .i64 N2,.int .i64 p],.int .i64 4]) (by simp[results,Tryz.results237,go_sem,r0,r1,r2,r3]) rfl ⟨by rw[HF.out];rfl,HB3.out⟩
     ·clear HK0' HB';go_wp2_with fail;go_roundw
      case rel=>exact⟨k+1,by omega,by omega,by go_num,by rw[HS.out];omega,HK0''.out,by rw[HS.out];exact HK1'.out,HB''.out⟩
      case measure=>simp[intOf];omega
    ·obtain rfl:k=E:=by omega
     generalize numE s p (k-p)=N at *;have HF:Hid (nextT s p=⟨1,s.extract p k,N,p,0⟩):=by
      show nextT s p=_;rw[HN.out,if_neg (by omega)]
     have t0:=HK1.out.k0;have t1:=HK1.out.k1;have t2:=HK1.out.k2;have t3:=HK1.out.k3;have tf:wr.frozen? ⟨w.heap.size+1,1,none⟩=false:=HK1.out.frozen 1;have l1:w.heap.size+1<wr.heap.size:=HK1.out.lt;have r0:=HK0.out.k0;have r1:=HK0.out.k1;have r2:=HK0.out.k2;have r3:=HK0.out.k3;have f0:wr.frozen? ⟨w.heap.size,0,none⟩=false:=HK0.out.frozen 0;have f1:wr.frozen? ⟨w.heap.size,1,none⟩=false:=HK0.out.frozen 1;have f2:wr.frozen? ⟨w.heap.size,2,none⟩=false:=HK0.out.frozen 2;have f3:wr.frozen? ⟨w.heap.size,3,none⟩=false:=HK0.out.frozen 3;have l0:w.heap.size<wr.heap.size:=HK0.out.lt;go_wp2_with fail;have HK3:=iH (((((HK0.out.far (p:=⟨w.heap.size+1,1,none⟩) (by simp) (.string (s.extract p k))).set 0 (.int .i64 1)).set 1 (.string (s.extract p k))).set 2 (.int .i64 N)).set 3 (.int .i64 p));simp only[List.set_cons_succ,List.set_cons_zero]at HK3;have HB3:Hid (Below w.heap.size w (((((wr.setCell ⟨w.heap.size+1,1,none⟩ (.string (s.extract p k))).setCell ⟨w.heap.size,0,none⟩ (.int .i64 1)).setCell ⟨w.heap.size,1,none⟩ (.string (s.extract p k))).setCell ⟨w.heap.size,2,none⟩ (.int .i64 N)).setCell ⟨w.heap.size,3,none⟩ (.int .i64 p))):=((((HB.out.setCell (by simp) _).setCell (by simp) _).setCell (by simp) _).setCell (by simp) _).setCell (by simp) _;clear r0 r1 r2 r3 f0 f1 f2 f3 l0 t0 t1 t2 t3;generalize(((((wr.setCell ⟨w.heap.size+1,1,none⟩ (.string (s.extract p k))).setCell ⟨w.heap.size,0,none⟩ (.int .i64 1)).setCell ⟨w.heap.size,1,none⟩ (.string (s.extract p k))).setCell ⟨w.heap.size,2,none⟩ (.int .i64 N)).setCell ⟨w.heap.size,3,none⟩ (.int .i64 p))=V3 at *;have r0:=HK3.out.k0;have r1:=HK3.out.k1;have r2:=HK3.out.k2;have r3:=HK3.out.k3;exact bodyPost_ret (v:=.tuple #[.agg #[.int .i64 1,.string (s.extract p k),.int .i64 N,.int .i64 p],.int .i64 0]) (by simp[results,Tryz.results237,go_sem,r0,r1,r2,r3]) rfl ⟨by rw[HF.out];rfl,HB3.out⟩
  ·have hk4:kindAt s j=4:=by simpa[digB]using hwb
   obtain⟨hlt,_,_⟩:=kind_dig hk4;have HR2:=iH ((runEnd_go hlt hwb).symm.trans HR.out);clear hwb;go_wp2_with fail;refine(kindAt_any s j _ (HT.out.below ((((Below.refl _ w).alloc (Nat.le_refl _) _).alloc (by simp) _)) HT.out.1)).mono ?_;rintro e w' ⟨rfl,rfl⟩;rw[hk4];go_wp2_with fail
   go_round
   case rel=>exact⟨j+1,by omega,by omega,HR2.out,by go_num⟩
   case measure=>simp[intOf];omega
theorem next_any (s:ByteArray) (p:Nat) (w:World) (hT:Tab w) (hl:p<s.size) (hs:s.size<=1000000):Calls Tryz.prog 237 #[.string s,.int .i64 p] w (NextPost w (nextT s p)):=by
 by_cases h3:kindAt s p=3
 ·exact next_word_any s p w hT h3 hl hs
 by_cases h4:kindAt s p=4
 ·exact next_num_any s p w hT h4 hl hs
 by_cases h7:kindAt s p=7
 ·exact next_sym_any s p w hT h7 hl hs
 by_cases h6:kindAt s p=6
 ·exact next_minus_any s p w hT h6 hl hs
 exact next_none_any s p w hT h3 h4 h7 h6 hl hs
theorem nextT_size {s:ByteArray} {p:Nat} (hp:p<s.size):p+(nextT s p).text.size<=s.size∧((nextT s p).err=0->0<(nextT s p).text.size):=by
 have hE:=runEnd_bd wordB s (p+1) hp;have hD:=runEnd_bd digB s (p+1) hp;have ex:∀q,p<=q->q<=s.size->(s.extract p q).size=q-p:=fun q _ h2=>by rw[ByteArray.size_extract];omega
 have e0:(⟨#[]⟩:ByteArray).size=0:=rfl;unfold nextT;split
 ·split
  ·exact⟨by show p+0<=s.size;omega,fun h=>by cases h⟩
  ·rw[ex _ (by omega) hE.2];omega
 split
 ·split
  ·exact⟨by show p+0<=s.size;omega,fun h=>by cases h⟩
  ·simp only[];rw[ex _ (by omega) hD.2];omega
 split
 ·rw[ex _ (by omega) (by omega)];omega
 split
 ·split
  ·rw[ex _ (by omega) (by omega)];omega
  ·exact⟨by show p+0<=s.size;omega,fun h=>by cases h⟩
 ·exact⟨by show p+0<=s.size;omega,fun h=>by cases h⟩
def toksFrom (s:ByteArray) (p:Nat):List Tok :=
 if h:p<s.size then
  if(nextT s p).err=0 then nextT s p :: (if p<skipS s (p+(nextT s p).text.size) then toksFrom s (skipS s (p+(nextT s p).text.size)) else[])
  else[nextT s p]
 else[]
termination_by s.size-p
decreasing_by omega
def sMin (s:ByteArray) (p:Nat):Nat:=min (skipS s p) s.size
theorem sMin_eq {s:ByteArray} {p:Nat} (hp:p<=s.size):sMin s p=skipS s p:=by
 have:=skipS_bd s p hp;unfold sMin;omega
theorem toks_lx (s:ByteArray) (p:Nat):Lx (sMin s) (nextT s) s.size p (toksFrom s p):=by
 induction hm:s.size-p using Nat.strongRecOn generalizing p with
 | _ m ih =>
   unfold toksFrom;split
   ·rename_i h
    split
    ·rename_i he
     obtain⟨h1,h2⟩:=nextT_size h;have h3:=skipS_bd s (p+(nextT s p).text.size) h1;have h4:=h2 he;rw[if_pos (by omega)];refine .step p _ h he ?_ ?_
     ·rw[sMin_eq h1];omega
     ·rw[sMin_eq h1];exact ih (s.size-skipS s (p+(nextT s p).text.size)) (by omega) _ rfl
    ·rename_i he
     exact .err p h he
   ·exact .done p (by omega)
theorem toks_len (s:ByteArray) (p:Nat):(toksFrom s p).length<=s.size-p:=by
 induction hm:s.size-p using Nat.strongRecOn generalizing p with
 | _ m ih =>
   unfold toksFrom;split
   ·rename_i h
    split
    ·rename_i he
     obtain⟨h1,h2⟩:=nextT_size h;have h3:=skipS_bd s (p+(nextT s p).text.size) h1;have h4:=h2 he;rw[if_pos (by omega)];have:=ih (s.size-skipS s (p+(nextT s p).text.size)) (by omega) _ rfl;simp only[List.length_cons];omega
    ·simp only[List.length_cons,List.length_nil];omega
   ·simp
def toks (s:ByteArray):List Tok:=toksFrom s (skipS s 0)
theorem tokens_all (s:ByteArray) (hs:s.size<=8192) (w:World) (hT:Tab w):Calls Tryz.prog 30 #[.string s] w (TokPost w (toks s)):=by
 refine tokens_any s hs (sMin s) (nextT s) (fun p w hp hT=>?_) (fun p w hp hT=>?_) (fun p=>?_) (fun p hp=>(nextT_size hp).1) (toks s) ?_ ?_ w hT
 ·rw[sMin_eq hp];exact skip_any s p w hp (by omega) hT
 ·exact next_any s p w hT hp (by omega)
 ·unfold sMin;omega
 ·have:=toks_len s (skipS s 0);show(toksFrom s (skipS s 0)).length<=8192;omega
 ·rw[sMin_eq (Nat.zero_le _)];exact toks_lx s _
theorem toksFrom_err {s:ByteArray} {p:Nat} (h:p<s.size) (he:(nextT s p).err≠0):toksFrom s p=[nextT s p]:=by
 unfold toksFrom;rw[dif_pos h,if_neg he]
theorem toksFrom_go {s:ByteArray} {p:Nat} (h:p<s.size) (he:(nextT s p).err=0):toksFrom s p=nextT s p :: toksFrom s (skipS s (p+(nextT s p).text.size)):=by
 conv=>lhs;unfold toksFrom
 rw[dif_pos h,if_pos he];obtain⟨h1,h2⟩:=nextT_size h;have h3:=skipS_bd s (p+(nextT s p).text.size) h1;have h4:=h2 he;rw[if_pos (by omega)]
theorem toksFrom_end {s:ByteArray} {p:Nat} (h:s.size<=p):toksFrom s p=[]:=by
 unfold toksFrom;rw[dif_neg (by omega)]
set_option linter.unusedVariables false
set_option linter.unusedSimpArgs false
theorem bytes_eq {s t:ByteArray} (h:s.data.toList=t.data.toList):s=t:=by
 cases s;cases t;simp only[ByteArray.mk.injEq];exact Array.toList_inj.1 h
def fitG (s:ByteArray):Bool:=match toks s with
 | [t]=>decide (t.err=0) && decide (t.kind=0) && decide (t.text=s)
 | _=>false
theorem toks_last {s:ByteArray} {p:Nat}:∀ {init:List Tok} {last:Tok},init ++ [last] <+: toksFrom s p->last.err≠0->(∀t∈init,t.err=0)->init ++ [last]=toksFrom s p:=by
 induction hm:s.size-p using Nat.strongRecOn generalizing p with
 | _ m ih =>
   intro init last hp hl hi;by_cases h:p<s.size
   ·by_cases he:(nextT s p).err=0
    ·rw[toksFrom_go h he]at hp⊢;obtain⟨h1,h2⟩:=nextT_size h;have h3:=skipS_bd s (p+(nextT s p).text.size) h1;have h4:=h2 he;cases init with
     | nil =>
       have:=hp;simp only[List.nil_append]at this;obtain⟨t,ht⟩:=this;simp only[List.singleton_append,List.cons.injEq]at ht;rw[ht.1]at hl;exact absurd he hl
     | cons a init =>
       obtain⟨t,ht⟩:=hp;simp only[List.cons_append,List.cons.injEq]at ht;obtain⟨rfl,ht⟩:=ht;have:=ih (s.size-skipS s (p+(nextT s p).text.size)) (by omega) (p:=skipS s (p+(nextT s p).text.size)) rfl (init:=init) (last:=last) ⟨t,ht⟩ hl (fun t ht=>hi t (by simp[ht]));rw[List.cons_append,this]
    ·rw[toksFrom_err h he]at hp⊢;have:=hp.length_le;simp at this;subst this;obtain⟨t,ht⟩:=hp;simp at ht;rw[ht.1];rfl
   ·rw[toksFrom_end (by omega)]at hp;have:=hp.length_le;simp at this
theorem fitG_err {s:ByteArray} {init:List Tok} {last:Tok} (hp:init ++ [last] <+: toks s) (hl:last.err≠0) (hi:∀t∈init,t.err=0):fitG s=false:=by
 have h:=toks_last hp hl hi;unfold fitG;unfold toks;rw[<- h];cases init with
 | nil=>simp[hl]
 | cons a init=>cases init <;> rfl
theorem fits_any (s:ByteArray) (hs:s.size<=8192) (w:World) (hT:Tab w) :
 Calls Tryz.prog 260 #[.string s] w fun e w'=>e=.returned (.bool (fitG s))∧Below w.heap.size w w':=by
 have Ht:=iH (tokens_all s hs w hT);have hG:fitG s=match toks s with | [t]=>decide (t.err=0) && decide (t.kind=0) && decide (t.text=s) | _=>false:=rfl
 have HE:=iH (fun init last=>fitG_err (s:=s) (init:=init) (last:=last));generalize fitG s=G at *;generalize toks s=T at *;have HG:=iH hG;clear hG hT;go_enter Tryz.func260,Tryz.ntmps260;go_wp2_with fail;refine Ht.out.mono ?_;rintro e w' (⟨he,v,rfl,hown,hB⟩|⟨init,last,hp,hi,hl,rfl,hB⟩)
 ·clear Ht HE
  match T,HG,he,hown with
  | [], HG, he, hown =>
    obtain⟨A,c,rfl,hr,-,-⟩:=row_form hown;have Hf:Hid (G=false):=HG;clear HG he hown hr;go_wp2;go_ret;exact⟨by rw[Hf.out];rfl,hB⟩
  | [t], HG, he, hown =>
    have het:=he t (List.mem_singleton.2 rfl);obtain⟨g,c,rfl⟩:∃g c,v=.slice (some ⟨g,0,none⟩) 1 c:=by
     rcases hown.2 with ⟨_,h0⟩|⟨g,cap,cur,rfl,_⟩
     ·simp at h0
     ·exact⟨_,_,rfl⟩
    have c0:=hown.cellAt 0 (by decide);have c1:=hown.cellAt 1 (by decide);obtain⟨tk,tt,tn,ta,te⟩:=t;simp[kcells,Tok.cells]at c0 c1;have hg:=HG.out;simp only at hg het;subst het;by_cases hk:tk=0
    ·subst hk;by_cases htt:tt=s
     ·have Hf:Hid (G=true):=by show G=true;rw[hg];simp[htt]
      subst htt;clear HG he hown hg;go_wp2;go_ret;exact⟨by rw[Hf.out];rfl,hB⟩
     ·have Hf:Hid (G=false):=by show G=false;rw[hg];simp[htt]
      have q2:(tt.toList == s.toList)=false:=by
       simp only[beq_eq_false_iff_ne,ne_eq,ByteArray.toList_eq];exact fun e=>htt (bytes_eq e)
      have q1:(tt == s)=false:=by rw[beq_toListBytes];exact q2
      clear HG he hown hg htt;go_wp2;go_ret;exact⟨by rw[Hf.out];rfl,hB⟩
    ·have Hf:Hid (G=false):=by show G=false;rw[hg];simp[hk]
     have q1:(tk == 0)=false:=by simpa using hk
     clear HG he hown hg;go_wp2;go_ret;exact⟨by rw[Hf.out];rfl,hB⟩
  | a :: b :: l, HG, he, hown =>
    obtain⟨A,c,rfl,hr,-,-⟩:=row_form hown;have Hf:Hid (G=false):=HG;have q:(((a :: b :: l).length:Int) == 1)=false:=by simp;omega
    have q2:((a :: b :: l).length == 1)=false:=by simp
    clear HG he hown hr;generalize(a :: b :: l).length=n at *;go_wp2;go_ret;exact⟨by rw[Hf.out];rfl,hB⟩
 ·have Hf:=iH (HE.out init last hp hl hi);have hl2:(last.err == 0)=false:=by simpa using hl
  clear hl hp hi Ht HE HG;go_wp2;go_ret;exact⟨by rw[Hf.out];rfl,hB⟩
end Go.Proofs.YtiecjoijnkghbaaGreatDoor
