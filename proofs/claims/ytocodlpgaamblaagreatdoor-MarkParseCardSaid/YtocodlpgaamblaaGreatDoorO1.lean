/- Contracts of Around and Pick: what they return; the world is left alone. The contract of SameInts. The contract of areUnits. Plain laws of counterparts: what is valid, what becomes of a bag, and what is left of it. The contract of tos: a copy of counterparts. The contract of Held: numbers of units made from numbers. The contract of Tos: counterparts made from numbers. Plain laws for Convert's walk, blocks that are known whole, and the contract of Convert where it refuses its arguments. The contract of Convert. Plain laws for VersionConserves. Rows for VersionConserves' first loop; the contract of Convert at small numbers. The table of the kinds of bytes, and the contract of lexer.kindAt. Contracts of lexer.skip and lexer.next where a word or nothing stands. The iterator of package lexer: which tokens it yields, for whatever the contracts of skip and next are. The contract of lexer.Tokens, for whatever the contracts of skip and next are. The contract of catalog.fits on short names that are words, or begin with a byte of no kind, or are empty. Items: their cells; the contracts of the tests of package catalog on an item, and of every on items. Maps with strings as keys; the contracts of differ on items and of version.names. catalog.Valid on a catalog of good items and nothing else; version.names. The contract of version.names. What version.New computes, and its memory. -/
import Derived.Test.YtocodlpgaamblaaGreatDoorProg
import Derived.WalkKit
import Derived.WalkSpells
import Derived.WalkLawsBesides
import Derived.Lib.Hide
import Derived.BigQuiet
import Derived.Maps.AppendAt
import Derived.StillTailTactics
import Derived.Deep.QuietTactic
import Derived.Outline
import Derived.Deep.RegionHeld3
import Derived.Deep.AppendLies
import Derived.Laws.OwnMore
import Derived.Deep.DeepCutAuto
import Derived.Deep.RegionWith
import Derived.RangeFuncNested
import Derived.RangeFuncBound
import Derived.RangeFuncCalls
import Derived.RangeFuncLeaves
import Derived.Shelf.Abstract
import Derived.Shelf.RegionOpen
import Derived.OwnWalkIn
import Derived.TacticsInMore
import Derived.LoopNIn
import Derived.LoopIn
import Derived.Maps.OwnIn
import Derived.Maps.Own
import Derived.Maps.OwnOps
import Derived.Maps.OwnSet
import Derived.Laws.EntriesVeiled
import Derived.Carry
set_option linter.unusedVariables false
set_option linter.unusedSimpArgs false
set_option maxRecDepth 100000
set_option maxHeartbeats 2000000
open Go.RowKit
namespace Go.Proofs.YtocodlpgaamblaaGreatDoor
theorem iH{p:Prop}(h:p):Hid p:=Lib.hid h
theorem Pa{α:Type}{l:List α}{i:Nat}{a:α}:l.toArray.setIfInBounds i a=(l.set i a).toArray:=by simp
theorem Pb{α:Type}{a b:α}{l:List α}:(a::l).set 0 b=b::l:=rfl
theorem Pc{α:Type}{a b:α}{l:List α}{i:Nat}:(a::l).set (i+1) b=a::l.set i b:=rfl
section
open Go.Shelf
set_option linter.unusedVariables false
set_option linter.unusedSimpArgs false
def Row (w:World) (B:Nat) (A:Option Addr) (xs:List Value):Prop :=
 xs=[]∨∃b off,A=some ⟨b,off,none⟩∧b<B∧∀j u,xs[j]? = some u->w.cell? ⟨b,off+j,none⟩=some u
theorem Row.keep {w w':World} {B:Nat} {A:Option Addr} {xs:List Value} (h:Row w B A xs) (hk:∀p:Addr,p.block<B->w'.cell? p=w.cell? p):Row w' B A xs:=by
 rcases h with rfl|⟨b,off,rfl,hb,hc⟩
 ·exact .inl rfl
 ·exact .inr ⟨b,off,rfl,hb,fun j u hu=>(hk _ hb).trans (hc j u hu)⟩
theorem Row.below {w w':World} {B:Nat} {A:Option Addr} {xs:List Value} (h:Row w B A xs) (hb:Below B w w'):Row w' B A xs:=h.keep fun _ hp=>hb.cell hp
theorem Row.more {w:World} {B B':Nat} {A:Option Addr} {xs:List Value} (h:Row w B A xs) (hB:B<=B'):Row w B' A xs:=by
 rcases h with rfl|⟨b,off,rfl,hb,hc⟩
 ·exact .inl rfl
 ·exact .inr ⟨b,off,rfl,by omega,hc⟩
theorem Row.at_ {w:World} {B:Nat} {A:Option Addr} {xs:List Value} (h:Row w B A xs) (k:Nat) (hk:k<xs.length) :
 ∃b off,A=some ⟨b,off,none⟩∧b<B∧∀j u,xs[j]? = some u->w.cell? ⟨b,off+j,none⟩=some u:=by
 rcases h with rfl|h
 ·simp at hk
 ·exact h
def ints (zs:List Int):List Value:=zs.map (Value.int .i64)
theorem ints_at (zs:List Int) (k:Nat) (hk:k<zs.length):(ints zs)[k]? = some (.int .i64 (zs[k]?.getD 0)):=by
 simp[ints,hk]
@[simp] theorem ints_length (zs : List Int) : (ints zs).length = zs.length := by simp [ints]
def Wf (zs:List Int):Prop:=∀z∈zs,-9223372036854775808<=z∧z<=9223372036854775807
theorem Wf.at_ {zs:List Int} (h:Wf zs) (k:Nat) : -9223372036854775808<=zs[k]?.getD 0∧zs[k]?.getD 0<=9223372036854775807:=by
 by_cases hk:k<zs.length
 ·simpa[hk]using h _ (List.getElem_mem hk)
 ·simp[List.getElem?_eq_none (Nat.le_of_not_lt hk)]
def around (n m:Int):Int:=(if n<0 then -(n+1) else n) % m
theorem around_neg (n m:Int) (hn:n<0) : -(n+1).tmod m=around n m:=by
 rw[<- Int.neg_tmod,Int.tmod_eq_emod_of_nonneg (by omega),around,if_pos hn]
theorem around_pos (n m:Int) (hn:¬ n<0):n % m=around n m:=by rw[around,if_neg hn]
theorem around_lo (n m:Int) (hm:1<=m):0<=around n m:=Int.emod_nonneg _ (by omega)
theorem around_hi (n m:Int) (hm:1<=m):around n m<m:=Int.emod_lt_of_pos _ (by omega)
theorem around_any (n m:Int) (w:World) (h0 : -9223372036854775808<=n) (h1:n<=9223372036854775807) (hm:1<=m) (hm2:m<=9223372036854775807) :
 Calls Tryz.prog 12 #[.int .i64 n,.int .i64 m] w fun e w'=>e=.returned (.int .i64 (around n m))∧w=w':=by
 by_cases hn:n<0
 ·go_enter Tryz.func12,Tryz.ntmps12;go_wp2;go_ret;exact⟨by rw[<- around_neg n m hn];rfl,rfl⟩
 ·go_enter Tryz.func12,Tryz.ntmps12;go_wp2;go_ret;exact⟨by rw[<- around_pos n m (by omega)];rfl,rfl⟩
def pick (zs:List Int) (i m:Int):Int:=if i<0∨(zs.length:Int)<=i then 0 else around (zs[i.toNat]?.getD 0) m
theorem pick_lo (zs:List Int) (i m:Int) (hm:1<=m):0<=pick zs i m:=by
 unfold pick;split
 ·omega
 ·exact around_lo _ _ hm
theorem pick_hi (zs:List Int) (i m:Int) (hm:1<=m):pick zs i m<m:=by
 unfold pick;split
 ·omega
 ·exact around_hi _ _ hm
theorem pick_any (A:Option Addr) (n c:Nat) (zs:List Int) (B:Nat) (i m:Int) (w:World) (hr:Row w B A (ints zs)) (hn:n=zs.length) (hw:Wf zs)
 (h0 : -9223372036854775808<=i) (h1:i<=9223372036854775807) (hm:1<=m) (hm2:m<=9223372036854775807) :
 Calls Tryz.prog 66 #[.slice A n c,.int .i64 i,.int .i64 m] w fun e w'=>e=.returned (.int .i64 (pick zs i m))∧w=w':=by
 by_cases hi:i<0
 ·go_enter Tryz.func66,Tryz.ntmps66;go_wp2;go_ret;exact⟨by simp[pick,hi],rfl⟩
 ·by_cases hi2:(n:Int)<=i
  ·have hp:pick zs i m=0:=by unfold pick;rw[if_pos (.inr (by omega))]
   have Hp:=iH hp;clear hp hn;go_enter Tryz.func66,Tryz.ntmps66;go_wp2;go_ret;exact⟨by rw[Hp.out];rfl,rfl⟩
  ·obtain⟨k,rfl⟩:=Int.eq_ofNat_of_zero_le (show 0<=i by omega);have hk:k<zs.length:=by omega
   have hp:pick zs k m=around (zs[k]?.getD 0) m:=by
    unfold pick;rw[if_neg (by omega)];simp
   have Hp:=iH hp;obtain⟨b,off,rfl,hb,hc⟩:=hr.at_ k (by simpa using hk);have hcell:=hc k _ (ints_at zs k hk);have hz:=hw.at_ k;have hk2:k<n:=by omega
   clear hp hn hc hk;generalize zs[k]?.getD 0=z at hcell hz Hp;go_enter Tryz.func66,Tryz.ntmps66;go_wp2_with fail;refine(around_any _ _ _ (by omega) (by omega) hm hm2).mono ?_;rintro e w' ⟨rfl,rfl⟩;go_wp2;go_ret;exact⟨by rw[Hp.out];rfl,rfl⟩
theorem bel_drewN {B:Nat} {a w:World} (h:Below B a w) (n:Nat):Below B a (w.drewN n):=⟨h.os,h.tape,h.output,h.size,h.block⟩
theorem row_of_owns {W:World} {base:Nat} {e:TypeId} {size n:Nat} {v:Value} {xs:List Value} (h:W.ownsRow base e size v n xs):∃A c,v=.slice A n c∧Row W W.heap.size A xs:=by
 obtain⟨hl,h⟩:=h;rcases h with ⟨rfl,rfl⟩|⟨g,cap,cur,rfl,hb,hh,hn,hm,hs,ht⟩
 ·exact⟨none,0,rfl,.inl (List.eq_nil_of_length_eq_zero (by simpa using hl))⟩
 ·refine⟨_,_,rfl,.inr ⟨g,0,rfl,(Array.getElem?_eq_some_iff.1 hh).1,fun j u hu=>?_⟩⟩;have hj:j<xs.length:=(List.getElem?_eq_some_iff.1 hu).1;rw[<- ht]at hu;have hu2:cur.toList[j]? = some u:=by
   rw[List.getElem?_take]at hu;split at hu
   ·exact hu
   ·cases hu
  simp only[World.cell?,hh,Nat.zero_add];simpa using hu2
theorem row_base {W:World} {base:Nat} {e:TypeId} {size n:Nat} {v:Value} {xs:List Value} (h:W.ownsRow base e size v n xs):∀g,v.ownBlock=some g->base<=g:=by
 intro g he;rcases h.2 with ⟨rfl,_⟩|⟨g',cap,cur,rfl,hb,_⟩
 ·simp[Value.ownBlock]at he
 ·have:g'=g:=by simpa[Value.ownBlock]using he
  omega
structure IntsV (w : World) (A : Option Addr) (n : Nat) (zs : List Int) : Prop where
 row:Row w w.heap.size A (ints zs)
 len:n=zs.length
 wf:Wf zs
theorem IntsV.below {w w':World} {A:Option Addr} {n:Nat} {zs:List Int} (h:IntsV w A n zs) (hb:Below w.heap.size w w'):IntsV w' A n zs:=⟨(h.row.below hb).more hb.size,h.len,h.wf⟩
theorem IntsV.pick {w:World} {A:Option Addr} {n:Nat} (c:Nat) {zs:List Int} (h:IntsV w A n zs) (i m:Int) (h0 : -9223372036854775808<=i) (h1:i<=9223372036854775807) (hm:1<=m) (hm2:m<=9223372036854775807) :
 Calls Tryz.prog 66 #[.slice A n c,.int .i64 i,.int .i64 m] w fun e w'=>e=.returned (.int .i64 (pick zs i m))∧w=w':=pick_any A n c zs _ i m w h.row h.len h.wf h0 h1 hm hm2
theorem new1 (w:World) (t:TypeId) (a:Value):∀j u,([a]:List Value)[j]? = some u->(w.alloc (.cells #[a] t)).cell? ((⟨w.heap.size,0,none⟩:Addr).add j)=some u:=by
 intro j u hj
 match j,hj with
 | 0,hj=>simp at hj;subst hj;simp[Addr.add]
 | j+1,hj=>simp at hj
section
def Bk (w:World) (g:Nat) (t:TypeId) (xs:List Value):Prop:=w.heap[g]? = some (.cells xs.toArray t (0,0))
section
variable {w w' : World} {g : Nat} {t : TypeId} {xs : List Value}
theorem Bk.lt (h:Bk w g t xs):g<w.heap.size:=(Array.getElem?_eq_some_iff.1 h).1
theorem Bk.cell (h:Bk w g t xs) (k:Nat):w.cell? ⟨g,k,none⟩=xs[k]?:=by
 unfold Bk at h;simp[World.cell?,h]
theorem Bk.frozen (h:Bk w g t xs) (k:Nat):w.frozen? ⟨g,k,none⟩=false:=by
 unfold Bk at h;simp[World.frozen?,h]
theorem Bk.new (w:World) (t:TypeId) (xs:List Value):Bk (w.alloc (.cells xs.toArray t)) w.heap.size t xs:=heap_alloc_new w _
theorem Bk.drew (h:Bk w g t xs):Bk w.drew g t xs:=h
theorem Bk.drewN (h:Bk w g t xs) (n:Nat):Bk (w.drewN n) g t xs:=h
theorem Bk.alloc (h:Bk w g t xs) (o:Obj):Bk (w.alloc o) g t xs:=(Below.heap_alloc w o g h.lt).trans h
theorem Bk.set (h:Bk w g t xs) (k:Nat) (u:Value):Bk (w.setCell ⟨g,k,none⟩ u) g t (xs.set k u):=by
 unfold Bk at h⊢;simp[World.setCell,Array.getElem?_modify,h]
theorem Bk.far (h:Bk w g t xs) {p:Addr} (hp:g≠p.block) (u:Value):Bk (w.setCell p u) g t xs:=(Below.heap_setCell w p u g hp).trans h
theorem Bk.below {B:Nat} (h:Bk w g t xs) (hb:Below B w w') (hg:g<B):Bk w' g t xs:=(hb.block g hg).trans h
theorem Bk.grown {row:Option Nat} (h:Bk w g t xs) (hb:w.grownBy w' row) (hg:some g≠row):Bk w' g t xs:=(hb.block g h.lt hg).trans h
theorem Bk.row (h:Bk w g t xs):Row w w.heap.size (some ⟨g,0,none⟩) xs:=.inr ⟨g,0,rfl,h.lt,fun j u hu=>by rw[Nat.zero_add];exact(h.cell j).trans hu⟩
end
theorem Bk.k0{w:World}{g:Nat}{t:TypeId}{x0:Value}{xs:List Value}(h:Bk w g t (x0::xs)):w.cell? ⟨g,0,none⟩=some x0:=h.cell 0
theorem Bk.k1{w:World}{g:Nat}{t:TypeId}{x0 x1:Value}{xs:List Value}(h:Bk w g t (x0::x1::xs)):w.cell? ⟨g,1,none⟩=some x1:=h.cell 1
theorem Bk.k2{w:World}{g:Nat}{t:TypeId}{x0 x1 x2:Value}{xs:List Value}(h:Bk w g t (x0::x1::x2::xs)):w.cell? ⟨g,2,none⟩=some x2:=h.cell 2
theorem Bk.k3{w:World}{g:Nat}{t:TypeId}{x0 x1 x2 x3:Value}{xs:List Value}(h:Bk w g t (x0::x1::x2::x3::xs)):w.cell? ⟨g,3,none⟩=some x3:=h.cell 3
theorem Bk.k4{w:World}{g:Nat}{t:TypeId}{x0 x1 x2 x3 x4:Value}{xs:List Value}(h:Bk w g t (x0::x1::x2::x3::x4::xs)):w.cell? ⟨g,4,none⟩=some x4:=h.cell 4
theorem Bk.k5{w:World}{g:Nat}{t:TypeId}{x0 x1 x2 x3 x4 x5:Value}{xs:List Value}(h:Bk w g t (x0::x1::x2::x3::x4::x5::xs)):w.cell? ⟨g,5,none⟩=some x5:=h.cell 5
theorem Bk.k6{w:World}{g:Nat}{t:TypeId}{x0 x1 x2 x3 x4 x5 x6:Value}{xs:List Value}(h:Bk w g t (x0::x1::x2::x3::x4::x5::x6::xs)):w.cell? ⟨g,6,none⟩=some x6:=h.cell 6
theorem Bk.k7{w:World}{g:Nat}{t:TypeId}{x0 x1 x2 x3 x4 x5 x6 x7:Value}{xs:List Value}(h:Bk w g t (x0::x1::x2::x3::x4::x5::x6::x7::xs)):w.cell? ⟨g,7,none⟩=some x7:=h.cell 7
theorem Bk.k8{w:World}{g:Nat}{t:TypeId}{x0 x1 x2 x3 x4 x5 x6 x7 x8:Value}{xs:List Value}(h:Bk w g t (x0::x1::x2::x3::x4::x5::x6::x7::x8::xs)):w.cell? ⟨g,8,none⟩=some x8:=h.cell 8
theorem Bk.p2{w:World}{g:Nat}{t:TypeId}{x0 x1:Value}{xs:List Value}(h:Bk w g t (x0::x1::xs)):w.cell? ⟨g,0,none⟩=some x0∧w.cell? ⟨g,1,none⟩=some x1∧g<w.heap.size:=⟨h.cell 0,h.cell 1,h.lt⟩
theorem Bk.p3{w:World}{g:Nat}{t:TypeId}{x0 x1 x2:Value}{xs:List Value}(h:Bk w g t (x0::x1::x2::xs)):w.cell? ⟨g,0,none⟩=some x0∧w.cell? ⟨g,1,none⟩=some x1∧w.cell? ⟨g,2,none⟩=some x2∧g<w.heap.size:=⟨h.cell 0,h.cell 1,h.cell 2,h.lt⟩
theorem Bk.p4{w:World}{g:Nat}{t:TypeId}{x0 x1 x2 x3:Value}{xs:List Value}(h:Bk w g t (x0::x1::x2::x3::xs)):w.cell? ⟨g,0,none⟩=some x0∧w.cell? ⟨g,1,none⟩=some x1∧w.cell? ⟨g,2,none⟩=some x2∧w.cell? ⟨g,3,none⟩=some x3∧g<w.heap.size:=⟨h.cell 0,h.cell 1,h.cell 2,h.cell 3,h.lt⟩
theorem Bk.p5{w:World}{g:Nat}{t:TypeId}{x0 x1 x2 x3 x4:Value}{xs:List Value}(h:Bk w g t (x0::x1::x2::x3::x4::xs)):w.cell? ⟨g,0,none⟩=some x0∧w.cell? ⟨g,1,none⟩=some x1∧w.cell? ⟨g,2,none⟩=some x2∧w.cell? ⟨g,3,none⟩=some x3∧w.cell? ⟨g,4,none⟩=some x4∧g<w.heap.size:=⟨h.cell 0,h.cell 1,h.cell 2,h.cell 3,h.cell 4,h.lt⟩
theorem Bk.p6{w:World}{g:Nat}{t:TypeId}{x0 x1 x2 x3 x4 x5:Value}{xs:List Value}(h:Bk w g t (x0::x1::x2::x3::x4::x5::xs)):w.cell? ⟨g,0,none⟩=some x0∧w.cell? ⟨g,1,none⟩=some x1∧w.cell? ⟨g,2,none⟩=some x2∧w.cell? ⟨g,3,none⟩=some x3∧w.cell? ⟨g,4,none⟩=some x4∧w.cell? ⟨g,5,none⟩=some x5∧g<w.heap.size:=⟨h.cell 0,h.cell 1,h.cell 2,h.cell 3,h.cell 4,h.cell 5,h.lt⟩
theorem Bk.p7{w:World}{g:Nat}{t:TypeId}{x0 x1 x2 x3 x4 x5 x6:Value}{xs:List Value}(h:Bk w g t (x0::x1::x2::x3::x4::x5::x6::xs)):w.cell? ⟨g,0,none⟩=some x0∧w.cell? ⟨g,1,none⟩=some x1∧w.cell? ⟨g,2,none⟩=some x2∧w.cell? ⟨g,3,none⟩=some x3∧w.cell? ⟨g,4,none⟩=some x4∧w.cell? ⟨g,5,none⟩=some x5∧w.cell? ⟨g,6,none⟩=some x6∧g<w.heap.size:=⟨h.cell 0,h.cell 1,h.cell 2,h.cell 3,h.cell 4,h.cell 5,h.cell 6,h.lt⟩
theorem Bk.p8{w:World}{g:Nat}{t:TypeId}{x0 x1 x2 x3 x4 x5 x6 x7:Value}{xs:List Value}(h:Bk w g t (x0::x1::x2::x3::x4::x5::x6::x7::xs)):w.cell? ⟨g,0,none⟩=some x0∧w.cell? ⟨g,1,none⟩=some x1∧w.cell? ⟨g,2,none⟩=some x2∧w.cell? ⟨g,3,none⟩=some x3∧w.cell? ⟨g,4,none⟩=some x4∧w.cell? ⟨g,5,none⟩=some x5∧w.cell? ⟨g,6,none⟩=some x6∧w.cell? ⟨g,7,none⟩=some x7∧g<w.heap.size:=⟨h.cell 0,h.cell 1,h.cell 2,h.cell 3,h.cell 4,h.cell 5,h.cell 6,h.cell 7,h.lt⟩
theorem Bk.p9{w:World}{g:Nat}{t:TypeId}{x0 x1 x2 x3 x4 x5 x6 x7 x8:Value}{xs:List Value}(h:Bk w g t (x0::x1::x2::x3::x4::x5::x6::x7::x8::xs)):w.cell? ⟨g,0,none⟩=some x0∧w.cell? ⟨g,1,none⟩=some x1∧w.cell? ⟨g,2,none⟩=some x2∧w.cell? ⟨g,3,none⟩=some x3∧w.cell? ⟨g,4,none⟩=some x4∧w.cell? ⟨g,5,none⟩=some x5∧w.cell? ⟨g,6,none⟩=some x6∧w.cell? ⟨g,7,none⟩=some x7∧w.cell? ⟨g,8,none⟩=some x8∧g<w.heap.size:=⟨h.cell 0,h.cell 1,h.cell 2,h.cell 3,h.cell 4,h.cell 5,h.cell 6,h.cell 7,h.cell 8,h.lt⟩
theorem Bk.p10{w:World}{g:Nat}{t:TypeId}{x0 x1 x2 x3 x4 x5 x6 x7 x8 x9:Value}{xs:List Value}(h:Bk w g t (x0::x1::x2::x3::x4::x5::x6::x7::x8::x9::xs)):w.cell? ⟨g,0,none⟩=some x0∧w.cell? ⟨g,1,none⟩=some x1∧w.cell? ⟨g,2,none⟩=some x2∧w.cell? ⟨g,3,none⟩=some x3∧w.cell? ⟨g,4,none⟩=some x4∧w.cell? ⟨g,5,none⟩=some x5∧w.cell? ⟨g,6,none⟩=some x6∧w.cell? ⟨g,7,none⟩=some x7∧w.cell? ⟨g,8,none⟩=some x8∧w.cell? ⟨g,9,none⟩=some x9∧g<w.heap.size:=⟨h.cell 0,h.cell 1,h.cell 2,h.cell 3,h.cell 4,h.cell 5,h.cell 6,h.cell 7,h.cell 8,h.cell 9,h.lt⟩
theorem Bk.p11{w:World}{g:Nat}{t:TypeId}{x0 x1 x2 x3 x4 x5 x6 x7 x8 x9 x10:Value}{xs:List Value}(h:Bk w g t (x0::x1::x2::x3::x4::x5::x6::x7::x8::x9::x10::xs)):w.cell? ⟨g,0,none⟩=some x0∧w.cell? ⟨g,1,none⟩=some x1∧w.cell? ⟨g,2,none⟩=some x2∧w.cell? ⟨g,3,none⟩=some x3∧w.cell? ⟨g,4,none⟩=some x4∧w.cell? ⟨g,5,none⟩=some x5∧w.cell? ⟨g,6,none⟩=some x6∧w.cell? ⟨g,7,none⟩=some x7∧w.cell? ⟨g,8,none⟩=some x8∧w.cell? ⟨g,9,none⟩=some x9∧w.cell? ⟨g,10,none⟩=some x10∧g<w.heap.size:=⟨h.cell 0,h.cell 1,h.cell 2,h.cell 3,h.cell 4,h.cell 5,h.cell 6,h.cell 7,h.cell 8,h.cell 9,h.cell 10,h.lt⟩
theorem Row.alloc {w:World} {A:Option Addr} {xs:List Value} (h:Row w w.heap.size A xs) (o:Obj):Row (w.alloc o) (w.alloc o).heap.size A xs :=
 (h.below ((Below.refl _ w).alloc (Nat.le_refl _) o)).more (by simp)
end
section
section
variable {w0 W : World} {g m : Nat} {v : Value} {now left : List Int}
theorem grown_setCell (W:World) (g j:Nat) (u:Value):W.grownBy (W.setCell ⟨g,j,none⟩ u) (some g) :=
 ⟨rfl,rfl,rfl,by simp[World.setCell],fun i _ hi=>Below.heap_setCell _ _ _ _ (fun e=>hi (by rw[e]))⟩
end
end
def ftab (K:Nat) (f:Nat->Int):List Int:=(List.range K).map f
@[simp] theorem ftab_length (K : Nat) (f : Nat -> Int) : (ftab K f).length = K := by simp [ftab]
section
theorem row_form {W:World} {base:Nat} {e:TypeId} {size n:Nat} {v:Value} {xs:List Value} (h:W.ownsRow base e size v n xs):∃A c,v=.slice A n c∧Row W W.heap.size A xs∧(A=none->n=0∧c=0)∧∀a,A=some a->v.ownBlock=some a.block:=by
 obtain⟨hl,h⟩:=h;rcases h with ⟨rfl,rfl⟩|⟨g,cap,cur,rfl,hb,hh,hn,hm,hs,ht⟩
 ·exact⟨none,0,rfl,.inl (List.eq_nil_of_length_eq_zero (by simpa using hl)),(fun _=>⟨rfl,rfl⟩),(fun a e=>by cases e)⟩
 ·obtain⟨A,c,hv,hr⟩:=row_of_owns (W:=W) (base:=base) (e:=e) (size:=size) (n:=n) (v:=.slice (some ⟨g,0,none⟩) n cap) (xs:=xs) ⟨hl,.inr ⟨g,cap,cur,rfl,hb,hh,hn,hm,hs,ht⟩⟩;cases hv;exact⟨_,_,rfl,hr,(fun e=>by cases e),(fun a e=>by cases e;rfl)⟩
structure L1 (w2 w3 W : World) (va vp vr : Value) (K k : Nat) (al pa re : List Int) : Prop where
 all:W.ownsRow w2.heap.size 3 1 va K (ints al)
 alt:∀g,va.ownBlock=some g->g<w3.heap.size
 op:W.ownsRow w3.heap.size 3 1 vp k (ints pa)
 or_:W.ownsRow w3.heap.size 3 1 vr k (ints re)
 ap:∀g,vp.ownBlock=some g->vr.ownBlock≠some g
 below:Below w2.heap.size w2 W
 le:w2.heap.size<=w3.heap.size
 le3:w3.heap.size<=W.heap.size
section
variable {w2 w3 W : World} {va vp vr : Value} {K k : Nat} {al pa re : List Int}
theorem L1.drewN (h:L1 w2 w3 W va vp vr K k al pa re) (n:Nat):L1 w2 w3 (W.drewN n) va vp vr K k al pa re:=⟨h.all,h.alt,h.op,h.or_,h.ap,bel_drewN h.below n,h.le,h.le3⟩
end
end
def kindL:List Int:=[0,0,0,0,0,0,0,0,0,1,1,0,0,0,0,0,0,0,0,0,0,0,0,0,0,0,0,0,0,0,0,0,1,0,0,2,0,0,0,0,7,7,0,7,7,6,7,0,4,4,4,4,4,4,4,4,4,4,7,7,7,7,7,0,0,0,0,0,0,0,0,0,0,0,0,0,0,0,0,0,0,0,0,0,0,0,0,0,0,0,0,0,0,0,0,5,0,3,3,3,3,3,3,3,3,3,3,3,3,3,3,3,3,3,3,3,3,3,3,3,3,3,3,7,0,7,0,0]
def kindOf (i:Nat):Int:=kindL[i]?.getD 0
theorem kindOf_bd (i:Nat):0<=kindOf i∧kindOf i<=7:=by
 unfold kindOf;by_cases h:i<128
 ·have:∀j:Fin 128,0<=kindL[j.val]?.getD 0∧kindL[j.val]?.getD 0<=7:=by decide +kernel
  exact this ⟨i,h⟩
 ·rw[List.getElem?_eq_none (by simp[kindL];omega)];simp
def Tab (w:World):Prop:=2<=w.heap.size∧∀i,i<128->w.cell? ⟨1,i,none⟩=some (.int .u8 (kindOf i))
theorem Tab.below {B:Nat} {w w':World} (h:Tab w) (hb:Below B w w') (hB:2<=B):Tab w' :=
 ⟨Nat.le_trans h.1 hb.size,fun i hi=>(hb.cell (p:=⟨1,i,none⟩) (by simp;omega)).trans (h.2 i hi)⟩
def kindAt (s:ByteArray) (i:Nat):Int:=if h:i<s.size then(if s[i].toNat<128 then kindOf s[i].toNat else 0) else 0
theorem kindAt_any (s:ByteArray) (i:Nat) (w:World) (hT:Tab w) :
 Calls Tryz.prog 151 #[.string s,.int .i64 i] w fun e w'=>e=.returned (.int .u8 (kindAt s i))∧w=w':=by
 by_cases hlt:i<s.size
 ·have hbd:=s[i].toNat_lt;by_cases hc:s[i].toNat<128
  ·have hcell:=hT.2 s[i].toNat hc;have Hk:Hid (kindAt s i=kindOf s[i].toNat):=by show kindAt s i=_;simp[kindAt,hlt,hc]
   generalize kindOf s[i].toNat=k at hcell Hk;go_enter Tryz.func151,Tryz.ntmps151;go_wp2;go_ret;exact⟨by rw[Hk.out];rfl,rfl⟩
  ·have Hk:Hid (kindAt s i=0):=by show kindAt s i=_;simp[kindAt,hlt,hc]
   go_enter Tryz.func151,Tryz.ntmps151;go_wp2;go_ret;exact⟨by rw[Hk.out];rfl,rfl⟩
 ·have Hk:Hid (kindAt s i=0):=by show kindAt s i=_;simp[kindAt,hlt]
  go_enter Tryz.func151,Tryz.ntmps151;go_wp2;go_ret;exact⟨by rw[Hk.out];rfl,rfl⟩
def wordB (k:Int):Bool:=(k == 3) || (k == 4) || (k == 5)
section
attribute [local go_sem] Oper.semAt_some
structure Tok where
 kind:Int
 text:ByteArray
 num:Int
 at_:Int
 err:Int
def Tok.val (t:Tok):Value:=.agg #[.int .i64 t.kind,.string t.text,.int .i64 t.num,.int .i64 t.at_]
abbrev tokEncs (t:Tok):Array Value:=#[.agg #[.int .i64 t.kind,.string t.text,.int .i64 t.num,.int .i64 t.at_],.int .i64 t.err]
inductive Lx (S : Nat -> Nat) (N : Nat -> Tok) (size : Nat) : Nat -> List Tok -> Prop
 | done (p:Nat) (h:size<=p):Lx S N size p []
 | err (p:Nat) (h:p<size) (he:(N p).err≠0):Lx S N size p [N p]
 | step (p:Nat) (rest:List Tok) (h:p<size) (he:(N p).err=0) (hp:p<S (p+(N p).text.size)) (hr:Lx S N size (S (p+(N p).text.size)) rest):Lx S N size p (N p :: rest)
def SkipOk (s:ByteArray) (S:Nat->Nat):Prop:=∀(p:Nat) (w:World),p<=s.size->Tab w->Calls Tryz.prog 139 #[.string s,.int .i64 p] w fun e w'=>e=.returned (.int .i64 (S p))∧w=w'
def NextOk (s:ByteArray) (N:Nat->Tok):Prop:=∀(p:Nat) (w:World),p<s.size->Tab w->Calls Tryz.prog 140 #[.string s,.int .i64 p] w fun e w'=>e=.returned (.tuple #[(N p).val,.int .i64 (N p).err])∧Below w.heap.size w w'
def Gd (Bt:Nat) (W:World):Prop:=∃v,W.cell? ⟨Bt,0,none⟩=some v∧∀g,v.ownBlock=some g->g<W.heap.size
def Prot (Bt:Nat) (W:World) (g:Nat):Prop:=(∃cs t fr,W.heap[g]? = some (.cells cs t fr))∧g≠Bt∧∀v,W.cell? ⟨Bt,0,none⟩=some v->v.ownBlock≠some g
def KpT (n₀ n₁ Bt:Nat) (W W':World):Prop :=
 Below n₀ W W'∧(Gd Bt W->Gd Bt W'∧∀g,n₁<=g->Prot Bt W g->W'.heap[g]? = W.heap[g]? ∧ Prot Bt W' g)
theorem KpT.trans {n₀ n₁ Bt:Nat} {A B C:World} (h:KpT n₀ n₁ Bt A B) (k:KpT n₀ n₁ Bt B C):KpT n₀ n₁ Bt A C :=
 ⟨h.1.trans k.1,fun hG=>by
  obtain⟨g1,p1⟩:=h.2 hG
  obtain⟨g2,p2⟩:=k.2 g1
  exact⟨g2,fun g hg hp=>by
   obtain⟨e1,q1⟩:=p1 g hg hp
   obtain⟨e2,q2⟩:=p2 g hg q1
   exact⟨e2.trans e1,q2⟩⟩⟩
theorem Gd.lt {Bt:Nat} {W:World} (h:Gd Bt W):Bt<W.heap.size:=by
 obtain⟨v,hv,_⟩:=h;rcases Nat.lt_or_ge Bt W.heap.size with h|h
 ·exact h
 ·simp[World.cell?,Array.getElem?_eq_none h]at hv
theorem Gd.grow {Bt:Nat} {W W':World} (h:Gd Bt W) (hb:Below W.heap.size W W'):Gd Bt W':=by
 have hlt:=h.lt;obtain⟨v,hv,hg⟩:=h;exact⟨v,(hb.cell (p:=⟨Bt,0,none⟩) hlt).trans hv,fun g e=>Nat.lt_of_lt_of_le (hg g e) hb.size⟩
theorem KpT.grow {n₀ n₁ Bt:Nat} {W W':World} (hb:Below W.heap.size W W') (hn:n₀<=W.heap.size):KpT n₀ n₁ Bt W W' :=
 ⟨hb.mono hn,fun hG=>⟨hG.grow hb,fun g _ hp=>by
  obtain⟨⟨cs,t,fr,hc⟩,hne,hv⟩:=hp
  have hlt:g<W.heap.size:=(Array.getElem?_eq_some_iff.1 hc).1
  have he:=hb.block g hlt
  exact⟨he,⟨cs,t,fr,he.trans hc⟩,hne,fun v hv'=>hv v ((hb.cell (p:=⟨Bt,0,none⟩) hG.lt).symm.trans hv')⟩⟩⟩
theorem KpT.put {n₀ n₁ Bt N:Nat} (hn:n₀<=N) (hB:Bt<N) (W:World) (l:Nat) (o o':Obj) (hl:N<=l) (ho:W.heap[l]? = some o) (hc:o.isCells=false):KpT n₀ n₁ Bt W (W.putObj l o'):=by
 have hcell:(W.putObj l o').cell? ⟨Bt,0,none⟩=W.cell? ⟨Bt,0,none⟩:=World.cell?_of_block (World.putObj_heap_other (by show Bt≠l;omega));refine⟨⟨rfl,rfl,rfl,by simp,fun k hk=>World.putObj_heap_other (by omega)⟩,fun hG=>⟨?_,fun g _ hp=>?_⟩⟩
 ·obtain⟨v,hv,hg⟩:=hG;exact⟨v,hcell.trans hv,fun g e=>by simpa using hg g e⟩
 ·obtain⟨⟨cs,t,fr,hcs⟩,hne,hv⟩:=hp;have hgl:g≠l:=by
   rintro rfl;rw[ho]at hcs;cases hcs;cases hc
  have he:(W.putObj l o').heap[g]? = W.heap[g]?:=World.putObj_heap_other hgl;exact⟨he,⟨cs,t,fr,he.trans hcs⟩,hne,fun v hv'=>hv v (hcell.symm.trans hv')⟩
theorem Prot.new {Bt:Nat} {W:World} (h:Gd Bt W) (cs:Array Value) (t:TypeId):Prot Bt (W.alloc (.cells cs t)) W.heap.size:=by
 refine⟨⟨cs,t,(0,0),World.alloc_heap_new W _⟩,by have:=h.lt;omega,fun v hv e=>?_⟩;obtain⟨v0,hv0,hg⟩:=h;have hlt:Bt<W.heap.size:=Gd.lt ⟨v0,hv0,hg⟩;have:(W.alloc (.cells cs t)).cell? ⟨Bt,0,none⟩=W.cell? ⟨Bt,0,none⟩:=World.cell?_alloc_lt W _ _ hlt;rw[this,hv0]at hv;cases hv;have:=hg _ e;omega
theorem iter_in (s:ByteArray) (hs:s.size<=8192) (S:Nat->Nat) (N:Nat->Tok) (hS:SkipOk s S) (hN:NextOk s N) (hSle:∀p,S p<=s.size) (hNle:∀p,p<s.size->p+(N p).text.size<=s.size)
 (n:Nat) (l Bn n₀ n₁ Bt:Nat) (hBn:n₁<=Bn) (h3:2<=n₀) (xs:List Tok) (hx:Lx S N s.size (S 0) xs) (J Jx:List Tok->World->Prop) (B:Nat) (hJ:AbidesFrom B J)
 (hY:∀pre x W,J pre W->pre.length<xs.length->YieldAt Fence.wide (n-1) Tryz.prog l (tokEncs x) W fun e W' =>
  (e=.returned (.bool true)∧J (pre ++ [x]) W'∧KpT n₀ n₁ Bt W W')∨(e=.returned (.bool false)∧Jx (pre ++ [x]) W'))
 (W:World) (hn0:n₀<=W.heap.size) (hn1:n₁<=W.heap.size) (hG:Gd Bt W) (hPB:Prot Bt W Bn) (hT:Tab W) (hc:W.cell? ⟨Bn,0,none⟩=some (.string s)) (h0:J [] W) :
 CallsIn Fence.wide n Tryz.prog 138 #[.func (.yield l) #[] #[],.pointer (some ⟨Bn,0,none⟩)] W fun e W'=>(∃v,e=.returned v) ∧
  ((∃ys,ys=xs∧J ys W')∨(∃pre,pre <+: xs∧Jx pre W')):=by
 refine callsIn_of_wp Tryz.func138 rfl trivial ?_ rfl;simp only[Tryz.ntmps138,List.size_toArray,List.length_cons,List.length_nil,Nat.reduceAdd,Nat.reduceSub,Array.replicate_succ,Array.replicate_zero,List.push_toArray,List.append_toArray,List.nil_append,List.cons_append];have HS:=iH hS;have HN:=iH hN;have HY:=iH hY;have HT:=iH hT;clear hS hN hY hT
 gi_wp2_with fail
 refine⟨trivial,(fun h=>by cases h),(callsIn_wide.2 (HS.out 0 W (Nat.zero_le _) HT.out)).mono ?_⟩;rintro e w' ⟨rfl,rfl⟩
 gi_wp2_with fail
 gi_loopw [3] (fun p wr=>∃(pre rest:List Tok) (q:Nat),p=.int .i64 q∧q<=s.size∧xs=pre ++ rest∧Lx S N s.size q rest∧J pre wr∧Below n₀ W wr∧Gd Bt wr∧Prot Bt wr Bn∧wr.heap[Bn]? = W.heap[Bn]?)
  (fun p _=>s.size-(intOf p).toNat)
 case atStart=>exact⟨[],xs,S 0,rfl,hSle 0,rfl,hx,h0,Below.refl _ _,hG,hPB,rfl⟩
 case round =>
  obtain⟨pre,rest,q,rfl,hq,hxs,hl,hJs,hb,hGr,hPr,hsame⟩:=hrel;have Hxs:=iH hxs;clear hxs;have hcw:wr.cell? ⟨Bn,0,none⟩=some (.string s):=(World.cell?_of_block (w:=W) (a:=⟨Bn,0,none⟩) hsame).trans hc;have HPr:=iH hPr;have Hsame:=iH hsame;clear hPr hsame;have HTw:=iH (HT.out.below hb h3);by_cases hlt:q<s.size
  ·gi_wp2_with fail
   refine⟨trivial,(fun h=>by cases h),(callsIn_wide.2 (HN.out q wr hlt HTw.out)).mono ?_⟩;rintro e w1 ⟨rfl,hb1⟩;obtain⟨t,ht⟩:∃t,t=N q:=⟨_,rfl⟩;have hle:q+t.text.size<=s.size:=by rw[ht];exact hNle q hlt
   have hlen:pre.length<xs.length:=by
    rw[Hxs.out];cases hl with
    | done _ h=>omega
    | err _ h=>simp
    | step _ _ h=>simp
   have hJ1:J pre (w1.alloc (.cells #[.int .i64 t.kind,.string t.text,.int .i64 t.num,.int .i64 t.at_] 186)) :=
    hJ pre wr _ none hJs ⟨hb1.os,hb1.tape,hb1.output,Nat.le_trans hb1.size (by simp),fun i hi _=>(Below.heap_alloc _ _ _ (Nat.lt_of_lt_of_le hi hb1.size)).trans (hb1.block i hi)⟩ (fun r e=>by cases e)
   have hG1:Gd Bt w1:=hGr.grow hb1;have hP1:=Prot.new hG1 #[.int .i64 t.kind,.string t.text,.int .i64 t.num,.int .i64 t.at_] 186;have hG2:Gd Bt (w1.alloc (.cells #[.int .i64 t.kind,.string t.text,.int .i64 t.num,.int .i64 t.at_] 186)):=hG1.grow ((Below.refl _ _).alloc (Nat.le_refl _) _);obtain⟨fn,tmps,assign,body,hy,hR⟩:=HY.out pre t _ hJ1 hlen;have HR:=iH hR;have Ht:=iH ht;have hsz1:=hb1.size;have hszr:=hb.size;rw[<- ht];have Hl:=iH hl;have HP1:=iH hP1;have HG2:=iH hG2;clear hR ht hl hP1 hG2 hG1 hJ1;unfold Tok.val;obtain⟨kd,tx,nu,at_,er⟩:=t;dsimp only at *
   gi_wp2
   refine⟨(fun h=>by cases h),HR.out.mono ?_⟩;rintro e W3 (⟨rfl,hJ3,hk3⟩|⟨rfl,hJx3⟩)
   ·obtain⟨hk0,hk4⟩:=hk3;obtain⟨hG3,hpr⟩:=hk4 HG2.out;have hbox:=(hpr _ (by omega) HP1.out).1;have hct:W3.cell? ⟨w1.heap.size,1,none⟩=some (.string tx):=(World.cell?_of_block (w:=w1.alloc (.cells #[.int .i64 kd,.string tx,.int .i64 nu,.int .i64 at_] 186)) hbox).trans (by simp);have hb3:Below n₀ wr W3:=((hb1.mono (by omega)).alloc (by omega) _).trans hk0;have hKg:KpT n₀ n₁ Bt wr (w1.alloc (.cells #[.int .i64 kd,.string tx,.int .i64 nu,.int .i64 at_] 186)) :=
     KpT.grow ((hb1.alloc hsz1 _)) (by omega)
    obtain⟨es1,ps1⟩:=(hKg.2 hGr).2 Bn hBn HPr.out;obtain⟨es2,ps2⟩:=hpr Bn hBn ps1;have Hsame3:=iH ((es2.trans es1).trans Hsame.out);have HPr3:=iH ps2;have hcs:W3.cell? ⟨Bn,0,none⟩=some (.string s):=(World.cell?_of_block (w:=W) (a:=⟨Bn,0,none⟩) Hsame3.out).trans hc;clear es1 ps1 es2 ps2 hKg;have HT3:=iH (HTw.out.below hb3 h3);clear hbox hpr hk4 hy HR HP1 HG2;by_cases her:er=0
    ·have hstep:∃rest',rest=(⟨kd,tx,nu,at_,er⟩:Tok) :: rest'∧q<S (q+tx.size)∧Lx S N s.size (S (q+tx.size)) rest':=by
      have hNq:=Ht.out;cases Hl.out with
      | done _ h=>omega
      | err _ h he=>rw[<- hNq]at he;exact absurd her he
      | step _ r h he hp hr=>rw[<- hNq]at hp hr⊢;exact⟨r,rfl,hp,hr⟩
     obtain⟨rest',rfl,hp',hr'⟩:=hstep;subst her;have HJ3:=iH hJ3;clear hJ3 hJs Hl Ht
     gi_wp2_with fail
     refine⟨trivial,(fun h=>by cases h),(callsIn_wide.2 (HS.out (q+tx.size) W3 hle HT3.out)).mono ?_⟩;rintro e w' ⟨rfl,rfl⟩
     gi_wp2_with fail
     go_roundw
     case rel=>exact⟨pre ++ [⟨kd,tx,nu,at_,0⟩],rest',S (q+tx.size),rfl,hSle _,by rw[Hxs.out];simp,hr',HJ3.out,hb.trans hb3,hG3,HPr3.out,Hsame3.out⟩
     case measure=>have:=hSle (q+tx.size);simp[intOf];omega
    ·have hone:rest=[(⟨kd,tx,nu,at_,er⟩:Tok)]:=by
      have hNq:=Ht.out;cases Hl.out with
      | done _ h=>omega
      | err _ h he=>rw[<- hNq]
      | step _ r h he hp hr=>rw[<- hNq]at he;exact absurd he her
     have Hone:=iH hone;have her2:(er != 0)=true:=by simpa using her
     have HJ3:=iH hJ3;clear hJ3 hJs Hl Ht hone her
     gi_wp2
     refine bodyPost_ret (results_none rfl _ _ _) rfl ?_;exact⟨⟨_,rfl⟩,.inl ⟨_,by rw[Hxs.out,Hone.out],HJ3.out⟩⟩
   ·have hpre:pre ++ [(⟨kd,tx,nu,at_,er⟩:Tok)] <+: xs:=by
     have hNq:=Ht.out;rw[Hxs.out];cases Hl.out with
     | done _ h=>omega
     | err _ h he=>rw[<- hNq];exact List.prefix_refl _
     | step _ r h he hp hr=>rw[<- hNq];exact⟨r,by simp⟩
    have Hpre:=iH hpre;have HJx:=iH hJx3;clear hpre hJx3
    gi_wp2
    refine bodyPost_ret (results_none rfl _ _ _) rfl ?_;exact⟨⟨_,rfl⟩,.inr ⟨_,Hpre.out,HJx.out⟩⟩
  ·obtain rfl:rest=[]:=by
    cases hl with
    | done _ h=>rfl
    | err _ h=>omega
    | step _ _ h=>omega
   gi_wp2
   go_end0
   exact⟨⟨_,rfl⟩,.inl ⟨pre,by rw[Hxs.out];simp,hJs⟩⟩
theorem iter_stops (s:ByteArray) (hs:s.size<=8192) (S:Nat->Nat) (N:Nat->Tok) (hS:SkipOk s S) (hN:NextOk s N) (hSle:∀p,S p<=s.size) (hNle:∀p,p<s.size->p+(N p).text.size<=s.size)
 (n:Nat) (Bn n₀ n₁ Bt:Nat) (hBn:n₁<=Bn) (h3:2<=n₀) (xs:List Tok) (hx:Lx S N s.size (S 0) xs)
 (w:World) (hn0:n₀<=w.heap.size) (hn1:n₁<=w.heap.size) (hG:Gd Bt w) (hPB:Prot Bt w Bn) (hT:Tab w) (hc:w.cell? ⟨Bn,0,none⟩=some (.string s)) :
 SeqStopsK Fence.wide n Tryz.prog 138 #[.pointer (some ⟨Bn,0,none⟩)] tokEncs (KpT n₀ n₁ Bt) (fun ys=>ys=xs) (fun pre=>pre <+: xs) xs.length w:=fun l J Jx W hW hJ _ hY h0 =>
 iter_in s hs S N hS hN hSle hNle n l Bn n₀ n₁ Bt hBn h3 xs hx J Jx W.heap.size hJ hY W (Nat.le_trans hn0 hW.size) (Nat.le_trans hn1 hW.size) (hG.grow hW) (((KpT.grow (n₀:=n₀) (n₁:=n₁) hW hn0).2 hG).2 Bn hBn hPB).2
  (hT.below hW (by omega)) ((World.cell?_of_block (w:=w) (a:=⟨Bn,0,none⟩) (((KpT.grow (n₀:=n₀) (n₁:=n₁) hW hn0).2 hG).2 Bn hBn hPB).1).trans hc) h0
end
section
attribute [local go_sem] Oper.semAt_some
def Tok.cells (t:Tok):List Value:=[.int .i64 t.kind,.string t.text,.int .i64 t.num,.int .i64 t.at_]
def kcells (l:List Tok):List Value:=l.flatMap Tok.cells
theorem kcells_snoc (l:List Tok) (t:Tok):kcells (l ++ [t])=kcells l ++ t.cells:=by simp[kcells]
def TokPost (w:World) (xs:List Tok) (e:Ending) (w':World):Prop :=
 ((∀t∈xs,t.err=0)∧∃v,e=.returned (.tuple #[v,.int .i64 0,.int .i64 0])∧w'.ownsRow w.heap.size 186 4 v xs.length (kcells xs)∧Below w.heap.size w w') ∨
 (∃init last,init ++ [last] <+: xs∧(∀t∈init,t.err=0)∧last.err≠0∧e=.returned (.tuple #[.slice none 0 0,.int .i64 last.at_,.int .i64 last.err])∧Below w.heap.size w w')
theorem all_in (n:Nat) (s:ByteArray) (w:World) :
 CallsIn Fence.wide n Tryz.prog 129 #[.string s] w fun e w'=>e=.returned (.func (.func 138) #[] #[.pointer (some ⟨w.heap.size,0,none⟩)])∧w'=w.alloc (.cells #[.string s] 9):=by
 refine callsIn_of_wp Tryz.func129 rfl trivial ?_ rfl;simp only[Tryz.ntmps129,List.size_toArray,List.length_cons,List.length_nil,Nat.reduceAdd,Nat.reduceSub,Array.replicate_succ,Array.replicate_zero,List.push_toArray,List.append_toArray,List.nil_append,List.cons_append]
 gi_wp2
 go_ret;exact⟨rfl,rfl⟩
theorem boxed_keep {X Y:World} {row:Option Nat} {B:Nat} {t:TypeId} {v:Value} (h:Boxed X B t v) (hg:X.grownBy Y row) (hr:∀r,row=some r->∃o:Obj,X.heap[r]? = some o∧o.isCells=false):Boxed Y B t v :=
 boxed_own B t (fun _:Unit=>v) () X Y row h hg hr
theorem stop_close (pre:List Tok) (x:Tok) (w W:World) (B:Nat) (v0 v1 v2:Value) (he:∀t∈pre,t.err=0) (hx0:¬ x.err=0)
 (c0:Boxed W w.heap.size 172 v0) (c1:Boxed W (w.heap.size+1) 3 v1) (c2:Boxed W (w.heap.size+2) 30 v2) (hB:Below w.heap.size w W) :
 KeepsFrom B W (((W.setCell ⟨w.heap.size,0,none⟩ (.slice none 0 0)).setCell ⟨w.heap.size+1,0,none⟩ (.int .i64 x.at_)).setCell ⟨w.heap.size+2,0,none⟩ (.int .i64 x.err)).drew ∧
 ((∃ init last, pre ++ [x] = init ++ [last] ∧ (∀ t ∈ init, t.err = 0) ∧ last.err ≠ 0 ∧
   Boxed (((W.setCell ⟨w.heap.size,0,none⟩ (.slice none 0 0)).setCell ⟨w.heap.size+1,0,none⟩ (.int .i64 x.at_)).setCell ⟨w.heap.size+2,0,none⟩ (.int .i64 x.err)).drew w.heap.size 172 (.slice none 0 0) ∧
   Boxed (((W.setCell ⟨w.heap.size,0,none⟩ (.slice none 0 0)).setCell ⟨w.heap.size+1,0,none⟩ (.int .i64 x.at_)).setCell ⟨w.heap.size+2,0,none⟩ (.int .i64 x.err)).drew (w.heap.size+1) 3 (.int .i64 last.at_) ∧
   Boxed (((W.setCell ⟨w.heap.size,0,none⟩ (.slice none 0 0)).setCell ⟨w.heap.size+1,0,none⟩ (.int .i64 x.at_)).setCell ⟨w.heap.size+2,0,none⟩ (.int .i64 x.err)).drew (w.heap.size+2) 30 (.int .i64 last.err)) ∧
  Below w.heap.size w (((W.setCell ⟨w.heap.size,0,none⟩ (.slice none 0 0)).setCell ⟨w.heap.size+1,0,none⟩ (.int .i64 x.at_)).setCell ⟨w.heap.size+2,0,none⟩ (.int .i64 x.err)).drew):=by
 have d0:Boxed (W.setCell ⟨w.heap.size,0,none⟩ (.slice none 0 0)) w.heap.size 172 (.slice none 0 0):=c0.set _;have d1:Boxed ((W.setCell ⟨w.heap.size,0,none⟩ (.slice none 0 0)).setCell ⟨w.heap.size+1,0,none⟩ (.int .i64 x.at_)) (w.heap.size+1) 3 (.int .i64 x.at_):=(c1.other (by omega) _).set _;refine⟨(((KeepsOthers.setCell _ _ _).trans (KeepsOthers.setCell _ _ _)).trans ((KeepsOthers.setCell _ _ _).trans (KeepsOthers.drew _))).from _,⟨pre,x,rfl,he,hx0,?_,?_,?_⟩,?_⟩
 ·exact(d0.other (by omega) _).other (by omega) _
 ·exact d1.other (by omega) _
 ·exact((c2.other (by omega) _).other (by omega) _).set _
 ·exact(((hB.setCell (p:=⟨w.heap.size,0,none⟩) (Nat.le_refl _) _).setCell (p:=⟨w.heap.size+1,0,none⟩) (by simp) _).setCell (p:=⟨w.heap.size+2,0,none⟩) (by simp) _).drew
theorem app_close {w W w1:World} {B:Nat} {v v' v0 v1 v2:Value} {k:Nat} {xs ys:List Value} {tmp:Obj} (c0:Boxed W w.heap.size 172 v0) (c1:Boxed W (w.heap.size+1) 3 v1) (c2:Boxed W (w.heap.size+2) 30 v2)
 (c3:Boxed W (w.heap.size+3) 172 v) (hrow:W.ownsRow w.heap.size 186 4 v k xs) (hB:Below w.heap.size w W) (hown':w1.ownsRow w.heap.size 186 4 v' (k+1) ys) (hgrow:(W.alloc tmp).grownBy w1 v.ownBlock)
 (hloc:v'.ownBlock=v.ownBlock∨v'.ownBlock=some (W.heap.size+1)) :
 Boxed w1 (w.heap.size+3) 172 v∧KeepsFrom B W (w1.setCell ⟨w.heap.size+3,0,none⟩ v')∧KpT w.heap.size (w.heap.size+4) (w.heap.size+3) W (w1.setCell ⟨w.heap.size+3,0,none⟩ v') ∧
 (Boxed (w1.setCell ⟨w.heap.size+3,0,none⟩ v') w.heap.size 172 v0∧Boxed (w1.setCell ⟨w.heap.size+3,0,none⟩ v') (w.heap.size+1) 3 v1∧Boxed (w1.setCell ⟨w.heap.size+3,0,none⟩ v') (w.heap.size+2) 30 v2) ∧
 (Boxed (w1.setCell ⟨w.heap.size+3,0,none⟩ v') (w.heap.size+3) 172 v'∧(w1.setCell ⟨w.heap.size+3,0,none⟩ v').ownsRow w.heap.size 186 4 v' (k+1) ys)∧Below w.heap.size w (w1.setCell ⟨w.heap.size+3,0,none⟩ v'):=by
 obtain⟨e1,e2,e3,e4,e5⟩:=c3.appended (by decide) hrow hB.size (by omega) hown' hgrow;refine⟨e1,e4.from _,⟨e5,fun hG=>⟨?_,fun g hg hp=>?_⟩⟩,⟨?_,?_,?_⟩,⟨e2,e3⟩,hB.trans e5⟩
 ·refine⟨v',e2.cell,fun g e=>?_⟩;rcases e3.2 with ⟨_,h⟩|⟨g',cap,cur,hv,_,hb,_⟩
  ·omega
  ·rw[hv]at e;simp[Value.ownBlock]at e;subst e;exact(Array.getElem?_eq_some_iff.1 hb).1
 ·obtain⟨⟨cs,t,fr,hcs⟩,hne,hv⟩:=hp;have hlt:g<W.heap.size:=(Array.getElem?_eq_some_iff.1 hcs).1;have hng:v.ownBlock≠some g:=hv v c3.cell;have he:(w1.setCell ⟨w.heap.size+3,0,none⟩ v').heap[g]? = W.heap[g]?:=by
   rw[Below.heap_setCell w1 _ _ g hne,hgrow.block g (by simp;omega) (fun e=>hng e.symm),Below.heap_alloc W tmp g hlt]
  refine⟨he,⟨cs,t,fr,he.trans hcs⟩,hne,fun u hu e=>?_⟩;rw[e2.cell]at hu;cases hu;rcases hloc with h|h
  ·rw[h]at e;exact hng e
  ·rw[h]at e;cases e;omega
 ·exact((c0.alloc tmp).kept hgrow (c0.not_row (by decide) hrow)).other (by omega) _
 ·exact((c1.alloc tmp).kept hgrow (c1.not_row (by decide) hrow)).other (by omega) _
 ·exact((c2.alloc tmp).kept hgrow (c2.not_row (by decide) hrow)).other (by omega) _
theorem done_close {w W:World} {D:Nat} {v v0 v1 v2:Value} {k:Nat} {xs:List Value} (c0:Boxed W w.heap.size 172 v0) (c1:Boxed W (w.heap.size+1) 3 v1) (c2:Boxed W (w.heap.size+2) 30 v2)
 (hrow:W.ownsRow w.heap.size 186 4 v k xs) (hB:Below w.heap.size w W) (hD:w.heap.size+5<=D) (hK:W.heap[D]? = some (.deferred (some []))) :
 (((W.setCell ⟨w.heap.size,0,none⟩ v).setCell ⟨w.heap.size+1,0,none⟩ (.int .i64 0)).setCell ⟨w.heap.size+2,0,none⟩ (.int .i64 0)).heap[D]? = some (.deferred (some [])) ∧
 ((((W.setCell ⟨w.heap.size,0,none⟩ v).setCell ⟨w.heap.size+1,0,none⟩ (.int .i64 0)).setCell ⟨w.heap.size+2,0,none⟩ (.int .i64 0)).putObj D (.deferred none)).cell? ⟨w.heap.size,0,none⟩=some v ∧
 ((((W.setCell ⟨w.heap.size,0,none⟩ v).setCell ⟨w.heap.size+1,0,none⟩ (.int .i64 0)).setCell ⟨w.heap.size+2,0,none⟩ (.int .i64 0)).putObj D (.deferred none)).cell? ⟨w.heap.size+1,0,none⟩=some (.int .i64 0) ∧
 ((((W.setCell ⟨w.heap.size,0,none⟩ v).setCell ⟨w.heap.size+1,0,none⟩ (.int .i64 0)).setCell ⟨w.heap.size+2,0,none⟩ (.int .i64 0)).putObj D (.deferred none)).cell? ⟨w.heap.size+2,0,none⟩=some (.int .i64 0) ∧
 ((((W.setCell ⟨w.heap.size,0,none⟩ v).setCell ⟨w.heap.size+1,0,none⟩ (.int .i64 0)).setCell ⟨w.heap.size+2,0,none⟩ (.int .i64 0)).putObj D (.deferred none)).ownsRow w.heap.size 186 4 v k xs ∧
 Below w.heap.size w ((((W.setCell ⟨w.heap.size,0,none⟩ v).setCell ⟨w.heap.size+1,0,none⟩ (.int .i64 0)).setCell ⟨w.heap.size+2,0,none⟩ (.int .i64 0)).putObj D (.deferred none)):=by
 have d0:Boxed (W.setCell ⟨w.heap.size,0,none⟩ v) w.heap.size 172 v:=c0.set _;have d1:Boxed ((W.setCell ⟨w.heap.size,0,none⟩ v).setCell ⟨w.heap.size+1,0,none⟩ (.int .i64 0)) (w.heap.size+1) 3 (.int .i64 0):=(c1.other (by omega) _).set _;have d2:Boxed (((W.setCell ⟨w.heap.size,0,none⟩ v).setCell ⟨w.heap.size+1,0,none⟩ (.int .i64 0)).setCell ⟨w.heap.size+2,0,none⟩ (.int .i64 0)) (w.heap.size+2) 30 (.int .i64 0):=((c2.other (by omega) _).other (by omega) _).set _;have hk:(((W.setCell ⟨w.heap.size,0,none⟩ v).setCell ⟨w.heap.size+1,0,none⟩ (.int .i64 0)).setCell ⟨w.heap.size+2,0,none⟩ (.int .i64 0)).heap[D]? = some (.deferred (some [])) :=
  (((KeepsOthers.setCell _ _ _).trans (KeepsOthers.setCell _ _ _)).trans (KeepsOthers.setCell _ _ _)).same D _ hK rfl
 have r0:(W.setCell ⟨w.heap.size,0,none⟩ v).ownsRow w.heap.size 186 4 v k xs:=hrow.kept (grownBy_setCell' W _ v) (.inr (c0.not_row (by decide) hrow).symm);have r1:=r0.kept (grownBy_setCell' _ (w.heap.size+1) (.int .i64 0)) (.inr ((c1.other (by omega) v).not_row (by decide) r0).symm);have r2:=r1.kept (grownBy_setCell' _ (w.heap.size+2) (.int .i64 0)) (.inr (((c2.other (by omega) v).other (by omega) _).not_row (by decide) r1).symm);have hp:=grownBy_putObj' (((W.setCell ⟨w.heap.size,0,none⟩ v).setCell ⟨w.heap.size+1,0,none⟩ (.int .i64 0)).setCell ⟨w.heap.size+2,0,none⟩ (.int .i64 0)) D (.deferred none);refine⟨hk,(((d0.other (by omega) _).other (by omega) _).kept hp (by simp;omega)).cell,((d1.other (by omega) _).kept hp (by simp;omega)).cell,(d2.kept hp (by simp;omega)).cell,ownsRow_putObj r2 _ hk rfl,?_⟩;refine(((hB.setCell (p:=⟨w.heap.size,0,none⟩) (Nat.le_refl _) v).setCell (p:=⟨w.heap.size+1,0,none⟩) (by simp) (.int .i64 0)).setCell (p:=⟨w.heap.size+2,0,none⟩) (by simp) (.int .i64 0)).trans ?_;exact⟨rfl,rfl,rfl,by simp,fun j hj=>World.putObj_heap_other (by omega)⟩
theorem info186:(Tryz.prog.info? 186).map (fun i=>(i.zero,i.size,i.bytes))=some (some (.agg #[.int .i64 0,.string ⟨#[]⟩,.int .i64 0,.int .i64 0]),4,40):=by kernel_rfl
theorem tokens_any (s:ByteArray) (hs:s.size<=8192) (S:Nat->Nat) (N:Nat->Tok) (hS:SkipOk s S) (hN:NextOk s N) (hSle:∀p,S p<=s.size) (hNle:∀p,p<s.size->p+(N p).text.size<=s.size)
 (xs:List Tok) (hlen:xs.length<=8192) (hx:Lx S N s.size (S 0) xs) (w:World) (hT:Tab w) :
 Calls Tryz.prog 110 #[.string s] w (TokPost w xs):=by
 refine(callsIn_wide (n:=5)).1 ?_;obtain⟨i0,hi,hz0,hz1,hz2⟩:=info_parts info186;have HS:=iH hS;have HN:=iH hN;have HT:=iH hT;clear hS hN hT;have hd:decide ((8192:Int)<(s.size:Int))=false:=by simp;omega
 refine callsIn_of_wp_marks Tryz.func110 rfl trivial ?_ rfl;simp only[Tryz.ntmps110,List.size_toArray,List.length_cons,List.length_nil,Nat.reduceAdd,Nat.reduceSub,Array.replicate_succ,Array.replicate_zero,List.push_toArray,List.append_toArray,List.nil_append,List.cons_append]
 gi_wp2_with fail
 refine⟨trivial,(all_in _ s _).mono ?_⟩;rintro e w' ⟨rfl,rfl⟩
 gi_wp2_with fail
 obtain⟨n,hn⟩:∃n,n=w.heap.size:=⟨_,rfl⟩;obtain⟨W0,hW0⟩:∃W0,((((w.alloc (.cells #[.slice none 0 0] 172)).alloc (.cells #[.int .i64 0] 3)).alloc (.cells #[.int .i64 0] 30)).alloc (.cells #[.slice none 0 0] 172)).alloc (.cells #[.string s] 9)=W0:=⟨_,rfl⟩;have hB0:Below w.heap.size w W0:=by
  rw[<- hW0];exact((((((Below.refl _ w).alloc (Nat.le_refl _) _).alloc (by simp) _).alloc (by simp;omega) _).alloc (by simp;omega) _).alloc (by simp;omega) _)
 have hsz:W0.heap.size=w.heap.size+5:=by rw[<- hW0];simp
 have b0:Boxed W0 w.heap.size 172 (.slice none 0 0):=by rw[<- hW0];exact((((Boxed.new w 172 (.slice none 0 0)).alloc _).alloc _).alloc _).alloc _
 have b1:Boxed W0 (w.heap.size+1) 3 (.int .i64 0):=by
  rw[<- hW0];have:=Boxed.new (w.alloc (.cells #[.slice none 0 0] 172)) 3 (.int .i64 0);rw[World.size_alloc]at this;exact((this.alloc _).alloc _).alloc _
 have b2:Boxed W0 (w.heap.size+2) 30 (.int .i64 0):=by
  rw[<- hW0];have:=Boxed.new ((w.alloc (.cells #[.slice none 0 0] 172)).alloc (.cells #[.int .i64 0] 3)) 30 (.int .i64 0);rw[World.size_alloc,World.size_alloc]at this;exact(this.alloc _).alloc _
 have b3:Boxed W0 (w.heap.size+3) 172 (.slice none 0 0):=by
  rw[<- hW0];have:=Boxed.new (((w.alloc (.cells #[.slice none 0 0] 172)).alloc (.cells #[.int .i64 0] 3)).alloc (.cells #[.int .i64 0] 30)) 172 (.slice none 0 0);rw[World.size_alloc,World.size_alloc,World.size_alloc]at this;exact this.alloc _
 have b4:Boxed W0 (w.heap.size+4) 9 (.string s):=by
  rw[<- hW0];have:=Boxed.new ((((w.alloc (.cells #[.slice none 0 0] 172)).alloc (.cells #[.int .i64 0] 3)).alloc (.cells #[.int .i64 0] 30)).alloc (.cells #[.slice none 0 0] 172)) 9 (.string s);rw[World.size_alloc,World.size_alloc,World.size_alloc,World.size_alloc]at this;exact this
 have hG0:Gd (w.heap.size+3) W0:=⟨_,b3.cell,fun g e=>by simp[Value.ownBlock]at e⟩;have hP0:Prot (w.heap.size+3) W0 (w.heap.size+4):=⟨⟨_,_,_,b4⟩,by omega,fun v hv e=>by rw[b3.cell]at hv;cases hv;simp[Value.ownBlock]at e⟩;rw[hW0];refine wpIn_rangeFunc_ownH rfl (by omega) (gf:=138) (lb:=#[.pointer (some ⟨w.heap.size+4,0,none⟩)]) rfl trivial (enters_of Tryz.func138 (by kernel_rfl) rfl)
  (iter_stops s hs S N HS.out HN.out hSle hNle 4 (w.heap.size+4) w.heap.size (w.heap.size+4) (w.heap.size+3) (Nat.le_refl _) HT.out.1 xs hx W0 (by omega) (by omega) hG0 hP0 (HT.out.below hB0 HT.out.1) b4.cell)
  (fun h k=>KpT.trans h k) (fun W l o o' hl ho hc _=>KpT.put (N:=W0.heap.size) (by omega) (by omega) W l o o' hl ho hc) (Below.refl _ _) (fun _=>rfl)
  (fun pre W=>((∀t∈pre,t.err=0)∧(Boxed W w.heap.size 172 (.slice none 0 0)∧Boxed W (w.heap.size+1) 3 (.int .i64 0)∧Boxed W (w.heap.size+2) 30 (.int .i64 0))) ∧
   (∃v,Boxed W (w.heap.size+3) 172 v∧W.ownsRow w.heap.size 186 4 v pre.length (kcells pre)∧True)∧Below w.heap.size w W)
  (fun c pre W=>(c=.ret∧∃init last,pre=init ++ [last]∧(∀t∈init,t.err=0)∧last.err≠0∧Boxed W w.heap.size 172 (.slice none 0 0)∧Boxed W (w.heap.size+1) 3 (.int .i64 last.at_)∧Boxed W (w.heap.size+2) 30 (.int .i64 last.err))∧Below w.heap.size w W)
  (OwnFrom.and (OwnFrom.and (ownFrom_pure _ _) (OwnFrom.and (Own.from (boxed_own _ _ _) _) (OwnFrom.and (Own.from (boxed_own _ _ _) _) (Own.from (boxed_own _ _ _) _))))
   (OwnFrom.and (Own.from (holdsRow_own w.heap.size (w.heap.size+3) 172 186 4 (fun pre=>pre.length) (fun pre=>kcells pre) (fun _ _=>True)) _) (ownFrom_below (Nat.le_refl _) (by omega))))
  ?hIx
  ⟨⟨by simp,b0,b1,b2⟩,⟨_,b3,World.ownsRow_nil _ _ _ _,trivial⟩,hB0⟩
  (fun x a' W=>∃Bx,W.heap[Bx]? = some (.cells #[.int .i64 x.kind,.string x.text,.int .i64 x.num,.int .i64 x.at_] 186 (0,0)) ∧
   a'={ tmps:=#[.string s,undef,.pointer (some ⟨w.heap.size,0,none⟩),.pointer (some ⟨w.heap.size+1,0,none⟩),.pointer (some ⟨w.heap.size+2,0,none⟩),.pointer (some ⟨w.heap.size+3,0,none⟩),.pointer (some ⟨Bx,0,none⟩),.int .i64 x.err,.string s,.int .i64 s.size,.bool false,.string s,.func (.func 138) #[] #[.pointer (some ⟨w.heap.size+4,0,none⟩)],.agg #[.int .i64 x.kind,.string x.text,.int .i64 x.num,.int .i64 x.at_],.int .i64 x.err,undef,undef,undef,undef,undef,undef,undef,undef,undef,undef],defers:=[] })
  ?hAx ?assign ?body ?done ?stop
 case hIx =>
  rintro c pre X Y row ⟨⟨hc,init,last,hp,h1,h2,h3,h4,h5⟩,hb⟩ hg hr;refine⟨⟨hc,init,last,hp,h1,h2,boxed_keep h3 hg (fun r e=>(hr r e).2),boxed_keep h4 hg (fun r e=>(hr r e).2),boxed_keep h5 hg (fun r e=>(hr r e).2)⟩,?_⟩;exact ownFrom_below (β:=Unit) (Nat.le_refl _) (by omega) () X Y row hb hg hr
 case hAx =>
  rintro x a' u X Y row ⟨Bx,hbx,ha⟩ hg hr;refine⟨Bx,(hg.block Bx (Array.getElem?_eq_some_iff.1 hbx).1 (fun e=>?_)).trans hbx,ha⟩;obtain⟨_,o,ho,hc⟩:=hr Bx e.symm;rw[hbx]at ho;cases ho;cases hc
 case assign =>
  rintro l pre x W K ⟨⟨he,c0,c1,c2⟩,⟨v,c3,hrow,_⟩,hB⟩ hK;have hBs:=hB.size
  gi_wp2
  exact hK _ _ ((KeepsOthers.alloc _ _).from _) (KpT.grow ((Below.refl _ W).alloc (Nat.le_refl _) _) hBs) ⟨⟨he,c0.alloc _,c1.alloc _,c2.alloc _⟩,⟨v,c3.alloc _,hrow.alloc _,trivial⟩,hB.alloc hBs _⟩ ⟨W.heap.size,World.alloc_heap_new W _,rfl⟩
 case body =>
  rintro l pre x a' W hl _ ⟨⟨he,c0,c1,c2⟩,⟨v,c3,hrow,_⟩,hB⟩ ⟨Bx,hbx,rfl⟩ hlt;have hBs:=hB.size;have x0:W.cell? ⟨Bx,0,none⟩=some (.int .i64 x.kind):=by simp[World.cell?,hbx]
  have x1:W.cell? ⟨Bx,1,none⟩=some (.string x.text):=by simp[World.cell?,hbx]
  have x2:W.cell? ⟨Bx,2,none⟩=some (.int .i64 x.num):=by simp[World.cell?,hbx]
  have x3:W.cell? ⟨Bx,3,none⟩=some (.int .i64 x.at_):=by simp[World.cell?,hbx]
  have y0:=c0.cell;have y1:=c1.cell;have y2:=c2.cell;have y3:=c3.cell;have z0:=c0.frozen;have z1:=c1.frozen;have z2:=c2.frozen;have z3:=c3.frozen;by_cases hx0:x.err=0
  ·have hx1:(x.err != 0)=false:=by simpa using hx0
   have Hx0:=iH hx0;clear hx0
   gi_wp2_with (gi_at_builtin;refine wpListIn_append_own_at _ rfl _ _ 172 rfl w.heap.size 186 i0 (.agg #[.int .i64 0,.string ⟨#[]⟩,.int .i64 0,.int .i64 0]) 4 40 Tryz.underlying172 hi hz0 hz1 hz2 rfl (by decide) v pre.length (kcells pre) rfl (hrow.alloc _) ⟨W.heap.size,0,none⟩ 1 1 x.cells rfl rfl ?c1 ?c2 ?c3 ?c4 ?c5 ?_)
   case c1 =>
    intro j u hj
    match j,hj with
    | 0,hj=>simp[Tok.cells]at hj;subst hj;simp[Addr.add]
    | 1,hj=>simp[Tok.cells]at hj;subst hj;simp[Addr.add]
    | 2,hj=>simp[Tok.cells]at hj;subst hj;simp[Addr.add]
    | 3,hj=>simp[Tok.cells]at hj;subst hj;simp[Addr.add]
    | j+4,hj=>simp[Tok.cells]at hj
   case c2 =>
    intro u hu;simp only[Tok.cells,List.mem_cons,List.not_mem_nil,or_false]at hu;rcases hu with rfl|rfl|rfl|rfl <;> rfl
   case c3=>unfold maxLen;omega
   case c4=>omega
   case c5=>simp;omega
   intro v' w1 hown' hgrow _ hloc;obtain⟨g',cap',rfl⟩:=ownsRow_succ hown';obtain⟨e1,e2,e3,e4,e5,e6⟩:=app_close (B:=W0.heap.size) c0 c1 c2 c3 hrow hB hown' hgrow hloc;have hc1:=e1.cell;have hf1:=e1.frozen
   gi_wp2
   refine⟨e2,e3,⟨?_,e4⟩,⟨_,e5.1,by rw[List.length_append,kcells_snoc];exact e5.2,trivial⟩,e6⟩;intro t ht;rcases List.mem_append.1 ht with h|h
   ·exact he t h
   ·simp at h;subst h;exact Hx0.out
  ·have hx1:(x.err != 0)=true:=by simpa using hx0
   have n0:Bx≠w.heap.size:=fun e=>by rw[e]at hbx;rw[show W.heap[w.heap.size]? = _ from c0]at hbx;simp at hbx
   have n1:Bx≠w.heap.size+1:=fun e=>by rw[e]at hbx;rw[show W.heap[w.heap.size+1]? = _ from c1]at hbx;simp at hbx
   have n2:Bx≠w.heap.size+2:=fun e=>by rw[e]at hbx;rw[show W.heap[w.heap.size+2]? = _ from c2]at hbx;simp at hbx
   have fin:=iH (stop_close pre x w W W0.heap.size (.slice none 0 0) (.int .i64 0) (.int .i64 0) he hx0 c0 c1 c2 hB)
   gi_wp2
   gi_region
   all_goals gi_wp2
   all_goals exact⟨fin.out.1,⟨rfl,fin.out.2.1⟩,fin.out.2.2⟩
 case done =>
  rintro D ys W hD rfl ⟨⟨he,c0,c1,c2⟩,⟨v,c3,hrow,_⟩,hB⟩ hK;have y0:=c0.cell;have y1:=c1.cell;have y2:=c2.cell;have y3:=c3.cell;have z0:=c0.frozen;have z1:=c1.frozen;have z2:=c2.frozen;have hex:∃A n c,v=.slice A n c:=by
   rcases hrow.2 with ⟨rfl,_⟩|⟨g,cap,cur,rfl,_⟩
   ·exact⟨_,_,_,rfl⟩
   ·exact⟨_,_,_,rfl⟩
  obtain⟨A,nn,c,rfl⟩:=hex;have fin:=iH (done_close (D:=D) c0 c1 c2 hrow hB (by omega) hK)
  gi_wp2
  obtain⟨k1,k2,k3,k4,k5,k6⟩:=fin.out;refine⟨by simp,.inl ⟨_,_,rfl,run_takeDeferred k1,?_⟩⟩;exact⟨.tuple #[.slice A nn c,.int .i64 0,.int .i64 0],by simp[results,Tryz.results110,go_sem,k2,k3,k4],.inl ⟨he,_,rfl,k5,k6⟩⟩
 case stop =>
  rintro D c pre W hD hpre ⟨⟨rfl,init,last,hp,h1,h2,c0,c1,c2⟩,hB⟩ hK
  gi_wp2
  have hq:=grownBy_putObj' W D (.deferred none);have k2:=(c0.kept hq (by simp;omega)).cell;have k3:=(c1.kept hq (by simp;omega)).cell;have k4:=(c2.kept hq (by simp;omega)).cell;refine⟨by simp,.inl ⟨_,_,rfl,run_takeDeferred hK,?_⟩⟩;exact⟨.tuple #[.slice none 0 0,.int .i64 last.at_,.int .i64 last.err],by simp[results,Tryz.results110,go_sem,k2,k3,k4],
   .inr ⟨init,last,by rw[<- hp];exact hpre,h1,h2,rfl,hB.trans ⟨rfl,rfl,rfl,by simp,fun j hj=>World.putObj_heap_other (by omega)⟩⟩⟩
end
structure PlainName (s : ByteArray) : Prop where
 len:s.size<=16
 each:∀p,p<s.size->(kindAt s p=3∧∀i,p<=i->i<s.size->wordB (kindAt s i)=true)∨kindAt s p=0
structure It where
 name:ByteArray
 object:Bool
 mixed:Bool
 coin:Bool
 wear:Int
 bnd:Int
 level:Int
def It.none:It:=⟨⟨#[]⟩,false,false,false,0,0,0⟩
abbrev It.cells (t:It):List Value:=[.string t.name,.bool t.object,.bool t.mixed,.bool t.coin,.int .i64 t.wear,.int .i64 t.bnd,.int .i64 t.level]
abbrev It.val (t:It):Value:=.agg #[.string t.name,.bool t.object,.bool t.mixed,.bool t.coin,.int .i64 t.wear,.int .i64 t.bnd,.int .i64 t.level]
def itAt (l:List It) (k:Nat):It:=l[k]?.getD It.none
def icells (l:List It):List Value:=l.flatMap It.cells
theorem icells_cons (t:It) (l:List It):icells (t :: l)=t.cells ++ icells l:=by simp[icells]
theorem icells_snoc (l:List It) (t:It):icells (l ++ [t])=icells l ++ t.cells:=by simp[icells]
theorem icells_length (l:List It):(icells l).length=l.length*7:=by
 induction l with
 | nil=>rfl
 | cons t l ih=>rw[icells_cons,List.length_append,ih];simp;omega
theorem icells_get (l:List It) (k r:Nat) (h:k<l.length) (hr:r<7):(icells l)[k*7+r]? = (itAt l k).cells[r]?:=by
 induction l generalizing k with
 | nil=>simp at h
 | cons t l ih =>
   rw[icells_cons];cases k with
   | zero=>rw[List.getElem?_append_left (by simp;omega)];simp[itAt]
   | succ k =>
     rw[List.getElem?_append_right (by simp;omega)];have e:(k+1)*7+r-t.cells.length=k*7+r:=by simp;omega
     rw[e,ih k (by simpa using h)];simp[itAt]
structure ItemsV (w : World) (A : Option Addr) (n : Nat) (l : List It) : Prop where
 row:Row w w.heap.size A (icells l)
 len:n=l.length
 small:n<=1000000
 name:∀t∈l,PlainName t.name
theorem ItemsV.below {w w':World} {A:Option Addr} {n:Nat} {l:List It} (h:ItemsV w A n l) (hb:Below w.heap.size w w'):ItemsV w' A n l:=⟨(h.row.below hb).more hb.size,h.len,h.small,h.name⟩
theorem ItemsV.at_ {w:World} {A:Option Addr} {n:Nat} {l:List It} (h:ItemsV w A n l) (k:Nat) (hk:k<n):∃b off,A=some ⟨b,off,none⟩∧b<w.heap.size ∧
 w.cell? ⟨b,off+k*7,none⟩=some (.string (itAt l k).name)∧w.cell? ⟨b,off+k*7+1,none⟩=some (.bool (itAt l k).object)∧w.cell? ⟨b,off+k*7+2,none⟩=some (.bool (itAt l k).mixed) ∧
 w.cell? ⟨b,off+k*7+3,none⟩=some (.bool (itAt l k).coin)∧w.cell? ⟨b,off+k*7+4,none⟩=some (.int .i64 (itAt l k).wear)∧w.cell? ⟨b,off+k*7+5,none⟩=some (.int .i64 (itAt l k).bnd)∧w.cell? ⟨b,off+k*7+6,none⟩=some (.int .i64 (itAt l k).level):=by
 have hl:k<l.length:=by have:=h.len;omega
 obtain⟨b,off,hA,hb,hc⟩:=h.row.at_ 0 (by rw[icells_length];omega);have g:=fun r hr=>icells_get l k r hl hr
 refine⟨b,off,hA,hb,?_,?_,?_,?_,?_,?_,?_⟩
 ·exact hc _ _ (g 0 (by omega))
 ·rw[Nat.add_assoc];exact hc _ _ (g 1 (by omega))
 ·rw[Nat.add_assoc];exact hc _ _ (g 2 (by omega))
 ·rw[Nat.add_assoc];exact hc _ _ (g 3 (by omega))
 ·rw[Nat.add_assoc];exact hc _ _ (g 4 (by omega))
 ·rw[Nat.add_assoc];exact hc _ _ (g 5 (by omega))
 ·rw[Nat.add_assoc];exact hc _ _ (g 6 (by omega))
def itFormedB (t:It):Bool:=if t.object then(!t.mixed && !t.coin && decide (0<=t.bnd) && decide (t.bnd<=2)) else(t.wear == 0 && t.bnd == 0 && t.level == 0)
def itRangeB (t:It):Bool:=(!t.object || (decide (1<=t.wear) && decide (t.wear<=1048576))) && decide (0<=t.level) && decide (t.level<=100)
theorem grown_of_below {a w:World} (h:Below a.heap.size a w) (row:Option Nat):a.grownBy w row:=⟨h.os,h.tape,h.output,h.size,fun i hi _=>h.block i hi⟩
theorem key_str {s:ByteArray} (h:s.size<=maxLen):keyOf Tryz.prog 9 (.string s)=some (.string s.data.toList):=WideMaps.keyOf_string_mk Tryz.underlying9 h
theorem keyLit (l:List UInt8):WideAt.IsKeyLit (.string l):=by simp[WideAt.IsKeyLit]
theorem bytes_inj {s t:ByteArray} (h:s.data.toList=t.data.toList):s=t:=by
 cases s;cases t;simp only[ByteArray.mk.injEq];exact Array.toList_inj.1 h
structure Sl where
 A:Option Addr
 n:Nat
 c:Nat
abbrev Sl.v (s:Sl):Value:=.slice s.A s.n s.c
abbrev catS (i r t x:Sl):Value:=.agg #[.slice i.A i.n i.c,.slice r.A r.n r.c,.slice t.A t.n t.c,.slice x.A x.n x.c]
abbrev catSL (i r t x:Sl):List Value:=[.slice i.A i.n i.c,.slice r.A r.n r.c,.slice t.A t.n t.c,.slice x.A x.n x.c]
abbrev catSO (i r t x:Sl):Obj:=.cells #[.slice i.A i.n i.c,.slice r.A r.n r.c,.slice t.A t.n t.c,.slice x.A x.n x.c] 28
end
end Go.Proofs.YtocodlpgaamblaaGreatDoor
