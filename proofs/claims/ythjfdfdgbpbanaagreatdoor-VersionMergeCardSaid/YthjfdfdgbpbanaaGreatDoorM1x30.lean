/- version.Merge on any two catalogs. -/
import Derived.Test.YthjfdfdgbpbanaaGreatDoorM1x1
import Derived.Test.YthjfdfdgbpbanaaGreatDoorM1x7
import Derived.Test.YthjfdfdgbpbanaaGreatDoorM1x8
import Derived.Test.YthjfdfdgbpbanaaGreatDoorM1x11
import Derived.Test.YthjfdfdgbpbanaaGreatDoorM1x13
import Derived.Test.YthjfdfdgbpbanaaGreatDoorM1x14
import Derived.Test.YthjfdfdgbpbanaaGreatDoorM1x17
import Derived.Test.YthjfdfdgbpbanaaGreatDoorM1x29
import Derived.Deep.MidRow
import Derived.StillTailTactics
set_option linter.unusedVariables false
set_option linter.unusedSimpArgs false
open Go.RowKit
namespace Go.Proofs.YthjfdfdgbpbanaaGreatDoor
section
structure MgB (w W : World) (a b : CatM) (bo bn : Nat) (v : Value) (its : List It) : Prop where
 mo:MapI W bo a.si.n (idxTo a.items a.si.n)
 mn:MapI W bn b.si.n (idxTo b.items b.si.n)
 b1:Bk W w.heap.size 28 (catSL a.si a.sr a.st a.sx)
 b2:Bk W (w.heap.size+1) 28 (catSL b.si b.sr b.st b.sx)
 b3:Bk W (w.heap.size+2) 28 [.slice none 0 0,.slice none 0 0,.slice none 0 0,.slice none 0 0]
 own:W.ownsRow (w.heap.size+3) 89 7 v its.length (icells its)
 below:Below w.heap.size w W
section
variable {w W W' : World} {a b : CatM} {bo bn : Nat} {v : Value} {its : List It}
theorem MgB.grow (h:MgB w W a b bo bn v its) (hb:Below W.heap.size W W'):MgB w W' a b bo bn v its :=
 ⟨h.mo.below hb,h.mn.below hb,h.b1.below hb h.b1.lt,h.b2.below hb h.b2.lt,h.b3.below hb h.b3.lt,h.own.kept (grown_of_below hb none) (by cases v.ownBlock <;> simp),h.below.trans (hb.mono h.below.size)⟩
theorem MapI.ne_rowB {b n:Nat} {M:ByteArray→Option Nat} {base e size m:Nat} {u:Value} {xs:List Value} (h:MapI W b n M) (ho:W.ownsRow base e size u m xs):some b≠u.ownBlock:=by
 intro e1;obtain⟨D,⟨es,clock,hh,_⟩,_⟩:=h;rcases ho.2 with ⟨rfl,_⟩|⟨g,cap,cur,rfl,_,hg,_⟩
 ·simp[Value.ownBlock]at e1
 ·simp[Value.ownBlock]at e1;subst e1;rw[hh]at hg;cases hg
/-- Whatever is done to the row alone. -/
theorem MgB.turn {its':List It} {v':Value} (h:MgB w W a b bo bn v its) (hg:W.grownBy W' v.ownBlock) (ho:W'.ownsRow (w.heap.size+3) 89 7 v' its'.length (icells its')):MgB w W' a b bo bn v' its':=by
 have hr:=row_base h.own;refine⟨h.mo.kept hg (h.mo.ne_rowB h.own),h.mn.kept hg (h.mn.ne_rowB h.own),h.b1.grown hg ?_,h.b2.grown hg ?_,h.b3.grown hg ?_,ho,h.below.grown hg h.below.size (fun g e=>by have:=hr g e;omega)⟩
 ·intro e;have:=hr _ e.symm;omega
 ·intro e;have:=hr _ e.symm;omega
 ·intro e;have:=hr _ e.symm;omega
theorem MgB.setIt {g cap:Nat} (h:MgB w W a b bo bn (.slice (some ⟨g,0,none⟩) its.length cap) its) (k:Nat) (t:It) (hk:k<its.length) :
 MgB w (((((((W.setCell ⟨g,k*7,none⟩ (.string t.name)).setCell ⟨g,k*7+1,none⟩ (.bool t.object)).setCell ⟨g,k*7+2,none⟩ (.bool t.mixed)).setCell ⟨g,k*7+3,none⟩ (.bool t.coin)).setCell ⟨g,k*7+4,none⟩ (.int .i64 t.wear)).setCell ⟨g,k*7+5,none⟩ (.int .i64 t.bnd)).setCell ⟨g,k*7+6,none⟩ (.int .i64 t.level)) a b bo bn (.slice (some ⟨g,0,none⟩) its.length cap) (its.set k t):=by
 have hr:=row_base h.own g rfl;have o7:=(((((((h.own.stored (k*7) (.string t.name)).1.stored (k*7+1) (.bool t.object)).1.stored (k*7+2) (.bool t.mixed)).1.stored (k*7+3) (.bool t.coin)).1.stored (k*7+4) (.int .i64 t.wear)).1.stored (k*7+5) (.int .i64 t.bnd)).1.stored (k*7+6) (.int .i64 t.level)).1;rw[← icells_set its k t hk]at o7;have hl:(its.set k t).length=its.length:=by simp
 refine⟨?_,?_,?_,?_,?_,by rw[hl];exact o7,?_⟩
 ·have hne:some bo≠some g:=h.mo.ne_rowB h.own;exact((((((h.mo.kept (grown_setCell W g _ _) hne).kept (grown_setCell _ g _ _) hne).kept (grown_setCell _ g _ _) hne).kept (grown_setCell _ g _ _) hne).kept (grown_setCell _ g _ _) hne).kept (grown_setCell _ g _ _) hne).kept (grown_setCell _ g _ _) hne
 ·have hne:some bn≠some g:=h.mn.ne_rowB h.own;exact((((((h.mn.kept (grown_setCell W g _ _) hne).kept (grown_setCell _ g _ _) hne).kept (grown_setCell _ g _ _) hne).kept (grown_setCell _ g _ _) hne).kept (grown_setCell _ g _ _) hne).kept (grown_setCell _ g _ _) hne).kept (grown_setCell _ g _ _) hne
 ·have hne:w.heap.size≠g:=by omega
  exact((((((h.b1.far hne _).far hne _).far hne _).far hne _).far hne _).far hne _).far hne _
 ·have hne:w.heap.size+1≠g:=by omega
  exact((((((h.b2.far hne _).far hne _).far hne _).far hne _).far hne _).far hne _).far hne _
 ·have hne:w.heap.size+2≠g:=by omega
  exact((((((h.b3.far hne _).far hne _).far hne _).far hne _).far hne _).far hne _).far hne _
 ·have hle:w.heap.size≤g:=by omega
  exact((((((h.below.setCell (p:=⟨g,_,none⟩) hle _).setCell (p:=⟨g,_,none⟩) hle _).setCell (p:=⟨g,_,none⟩) hle _).setCell (p:=⟨g,_,none⟩) hle _).setCell (p:=⟨g,_,none⟩) hle _).setCell (p:=⟨g,_,none⟩) hle _).setCell (p:=⟨g,_,none⟩) hle _
end
theorem MgB.setP {w W:World} {a b:CatM} {bo bn:Nat} {v:Value} {its:List It} {g t:Nat} {xs:List Value} (h:MgB w W a b bo bn v its) (hk:Bk W g t xs) (ht:89≠t) (hg:w.heap.size+3≤g) (j:Nat) (u:Value):MgB w (W.setCell ⟨g,j,none⟩ u) a b bo bn v its:=by
 have gr:=grown_setCell W g j u;exact⟨h.mo.kept gr (fun e=>h.mo.ne_bk hk (Option.some.inj e)),h.mn.kept gr (fun e=>h.mn.ne_bk hk (Option.some.inj e)),h.b1.far (by simp;omega) _,h.b2.far (by simp;omega) _,h.b3.far (by simp;omega) _,h.own.kept gr (.inr (row_neP h.own hk ht)),h.below.setCell (by simp;omega) _⟩
def placeOf (lo ln:List It) (k:Nat):Int:=match idxTo lo lo.length (itAt ln k).name with | some a=>(a:Int) | none=>((lo.length+(newTo lo ln k).length:Nat):Int)
def mgErr (lo ln:List It):Nat→Int
 | 0=>0
 | k+1=>if mgErr lo ln k≠0 then mgErr lo ln k else keepErr ln (itAt lo k)
/-- The new places of the new version's items. -/
def placeL (lo ln:List It):List Int:=(List.range ln.length).map (placeOf lo ln)
def mgE (a b:CatM):Int :=
 if codeBoth a b≠0 then codeBoth a b else if mgErr a.items b.items a.items.length≠0 then 9 else if 64<(mergeL a.items b.items b.items.length).length then 4 else 0
def cat0:CatM:=⟨[],[],[],[],sz0,sz0,sz0,sz0⟩
def mgC (a b:CatM):CatM :=
 if mgE a b≠0 then cat0 else mvC (placeL a.items b.items) (mergeL a.items b.items b.items.length).length { b with items:=mergeL a.items b.items b.items.length }
def MgQ (w:World) (a b:CatM) (e:Ending) (w':World):Prop:=∃m:CatM,e=.returned (.tuple #[m.val,.int .i64 (mgE a b)])∧m.Ok w'∧m.core=(mgC a b).core∧Below w.heap.size w w'
theorem cat0_ok (W:World):cat0.Ok W:=⟨⟨.inl rfl,rfl,by simp[cat0,sz0],by simp[cat0]⟩,⟨.inl rfl,rfl,by simp[cat0,sz0],by simp[cat0]⟩,⟨.inl rfl,rfl,by simp[cat0,sz0],by simp[cat0]⟩,⟨.inl rfl,rfl,by simp[cat0,sz0],by simp[cat0]⟩⟩
theorem MgQ.bad {w w':World} {a b:CatM} {q:Int} (h:mgE a b=q) (hq:q≠0) (hb:Below w.heap.size w w'):MgQ w a b (.returned (.tuple #[.agg #[.slice none 0 0,.slice none 0 0,.slice none 0 0,.slice none 0 0],.int .i64 q])) w' :=
 ⟨cat0,by rw[h];rfl,cat0_ok _,by rw[mgC,if_pos (by rw[h];exact hq)],hb⟩
theorem mgErr_stay (lo ln:List It) {k:Nat} (h:mgErr lo ln k≠0):∀d,mgErr lo ln (k+d)=mgErr lo ln k:=by
 intro d
 induction d with
 | zero=>rfl
 | succ d ih =>
   show mgErr lo ln (k+d+1)=_;simp only[mgErr,ih,if_pos h]
theorem mgE_type {a b:CatM} (hq:codeBoth a b=0) {k:Nat} (hk:k<a.items.length) (h0:mgErr a.items b.items k=0) (h:keepErr b.items (itAt a.items k)≠0):mgE a b=9:=by
 have h1:mgErr a.items b.items (k+1)≠0:=by simp only[mgErr,h0];simpa using h
 have h2:=mgErr_stay a.items b.items h1 (a.items.length-(k+1));rw[show k+1+(a.items.length-(k+1))=a.items.length by omega]at h2;simp only[mgE,hq,h2];simp[h1]
theorem mgE_good {a b:CatM} (hq:codeBoth a b=0) (h0:mgErr a.items b.items a.items.length=0):mgE a b=if 64<(mergeL a.items b.items b.items.length).length then 4 else 0:=by
 simp only[mgE,hq,h0];simp
theorem placeOf_range (lo ln:List It) (k:Nat) (hk:k<ln.length):0≤placeOf lo ln k∧placeOf lo ln k<((mergeL lo ln ln.length).length:Int):=by
 have hl:(mergeL lo ln ln.length).length=lo.length+(newTo lo ln ln.length).length:=by simp[mergeL]
 have hmono:∀d j,(newTo lo ln j).length≤(newTo lo ln (j+d)).length:=by
  intro d j
  induction d with
  | zero=>exact Nat.le_refl _
  | succ d ih =>
    refine Nat.le_trans ih ?_;show _≤(newTo lo ln (j+d+1)).length;simp only[newTo];split
    ·exact Nat.le_refl _
    ·simp
 unfold placeOf;cases hx:idxTo lo lo.length (itAt ln k).name with
 | some x =>
   have:=(idxTo_lt hx).1;rw[hl];refine⟨by simp,?_⟩;show(x:Int)<_;omega
 | none =>
   have h2:=hmono (ln.length-(k+1)) (k+1);rw[show k+1+(ln.length-(k+1))=ln.length by omega]at h2;have h3:(newTo lo ln (k+1)).length=(newTo lo ln k).length+1:=by simp[newTo,hx]
   rw[hl];show(0:Int)≤((lo.length+(newTo lo ln k).length:Nat):Int)∧((lo.length+(newTo lo ln k).length:Nat):Int)<_;omega
theorem placeL_len (lo ln:List It):(placeL lo ln).length=ln.length:=by simp[placeL]
theorem placeL_pos (lo ln:List It):∀x∈placeL lo ln,0≤x∧x<((mergeL lo ln ln.length).length:Int):=by
 intro x hx;obtain⟨k,hk,rfl⟩:=List.mem_map.1 hx;exact placeOf_range lo ln k (List.mem_range.1 hk)
theorem placeL_eq {lo ln:List It} {pl:List Int} (hl:pl.length=ln.length) (h:∀i,i<ln.length→wAt pl i=placeOf lo ln i):pl=placeL lo ln:=by
 apply List.ext_getElem
 ·rw[hl,placeL_len]
 ·intro i h1 h2;have:=h i (by omega);simp only[wAt,List.getElem?_eq_getElem h1,Option.getD_some]at this;rw[this];simp[placeL]
theorem itAt_mem2 {l:List It} {k:Nat} (h:k<l.length):itAt l k∈l:=by simp[itAt,h]
theorem mergeL_names {lo ln:List It} (h1:∀t∈lo,t.name.size≤8192) (h2:∀t∈ln,t.name.size≤8192):∀t∈mergeL lo ln ln.length,t.name.size≤8192:=by
 intro t ht;rcases List.mem_append.1 ht with ht|ht
 ·obtain⟨i,hi,rfl⟩:=List.mem_map.1 ht;have hi':=List.mem_range.1 hi;rw[if_pos hi'];unfold mergeIt;split
  ·rename_i x hx
   exact h2 _ (itAt_mem2 (idxTo_lt hx).1)
  ·exact h1 _ (itAt_mem2 hi')
 ·have key:∀k,k≤ln.length→∀t∈newTo lo ln k,t∈ln:=by
   intro k
   induction k with
   | zero=>intro _ t h;simp[newTo]at h
   | succ k ih =>
     intro hk t h;simp only[newTo]at h;split at h
     ·exact ih (by omega) t h
     ·rcases List.mem_append.1 h with h | h
      ·exact ih (by omega) t h
      ·rw[List.mem_singleton.1 h];exact itAt_mem2 (by omega)
  exact h2 t (key _ (Nat.le_refl _) t ht)
set_option maxRecDepth 100000 in
set_option maxHeartbeats 8000000 in
theorem Merge_any {w : World} {a b : CatM} (ha : a.Ok w) (hb : b.Ok w) (hT : Tab w) (hsh : ∀ x ∈ allL b, x.2.length ≤ 12) (h64 : codeC b = 0 → b.items.length ≤ 64) (hrg : codeC b = 0 → ∀ x ∈ allL b, ∀ p ∈ x.2, 0 ≤ p.1 ∧ p.1 < (b.items.length : Int)) :
 Calls Tryz.prog 18 #[a.val,b.val] w (MgQ w a b):=by
 obtain⟨i0,hi,hz0,hz1,hz2⟩:=info_parts info89h;obtain⟨lo,ra,ta,xa,⟨Ao,no,co⟩,⟨Ar,arn,arc⟩,⟨At,atn,atc⟩,⟨Ax,axn,axc⟩⟩:=a;obtain⟨ln,rb,tb,xb,⟨Bo,nx,cx⟩,⟨Br,brn,brc⟩,⟨Bt,btn,btc⟩,⟨Bx,bxn,bxc⟩⟩:=b;have Ho:=Lib.hid ha.items.itsR;have Hn:=Lib.hid hb.items.itsR;have Hbk:=Lib.hid hb;have Hak:=Lib.hid ha;have Hlo:=Lib.hid Ho.out.len;have Hln:=Lib.hid Hn.out.len;have sno:no≤100000:=ha.items.small;have snx:nx≤100000:=hb.items.small;have hb0:Below w.heap.size w (((w.alloc (.cells #[.slice Ao no co,.slice Ar arn arc,.slice At atn atc,.slice Ax axn axc] 28)).alloc (.cells #[.slice Bo nx cx,.slice Br brn brc,.slice Bt btn btc,.slice Bx bxn bxc] 28)).alloc (.cells #[.slice none 0 0,.slice none 0 0,.slice none 0 0,.slice none 0 0] 28)):=(((Below.refl _ _).alloc (Nat.le_refl _) _).alloc (by simp) _).alloc (by simp;omega) _;have k0:=((Bk.new w 28 [.slice Ao no co,.slice Ar arn arc,.slice At atn atc,.slice Ax axn axc]).alloc (.cells #[.slice Bo nx cx,.slice Br brn brc,.slice Bt btn btc,.slice Bx bxn bxc] 28)).alloc (.cells #[.slice none 0 0,.slice none 0 0,.slice none 0 0,.slice none 0 0] 28);have k0':=(Bk.new (w.alloc (.cells #[.slice Ao no co,.slice Ar arn arc,.slice At atn atc,.slice Ax axn axc] 28)) 28 [.slice Bo nx cx,.slice Br brn brc,.slice Bt btn btc,.slice Bx bxn bxc]).alloc (.cells #[.slice none 0 0,.slice none 0 0,.slice none 0 0,.slice none 0 0] 28);have k0'':=Bk.new ((w.alloc (.cells #[.slice Ao no co,.slice Ar arn arc,.slice At atn atc,.slice Ax axn axc] 28)).alloc (.cells #[.slice Bo nx cx,.slice Br brn brc,.slice Bt btn btc,.slice Bx bxn bxc] 28)) 28 [.slice none 0 0,.slice none 0 0,.slice none 0 0,.slice none 0 0];rw[World.size_alloc]at k0';rw[World.size_alloc,World.size_alloc]at k0'';have HV:=Lib.hid (both_cat (ha.below hb0) (hb.below hb0) (hT.below hb0 hT.1));have HBad:Hid (∀(q:Int) (w':World),mgE ⟨lo,ra,ta,xa,⟨Ao,no,co⟩,⟨Ar,arn,arc⟩,⟨At,atn,atc⟩,⟨Ax,axn,axc⟩⟩ ⟨ln,rb,tb,xb,⟨Bo,nx,cx⟩,⟨Br,brn,brc⟩,⟨Bt,btn,btc⟩,⟨Bx,bxn,bxc⟩⟩=q→q≠0→Below w.heap.size w w'→MgQ w ⟨lo,ra,ta,xa,⟨Ao,no,co⟩,⟨Ar,arn,arc⟩,⟨At,atn,atc⟩,⟨Ax,axn,axc⟩⟩ ⟨ln,rb,tb,xb,⟨Bo,nx,cx⟩,⟨Br,brn,brc⟩,⟨Bt,btn,btc⟩,⟨Bx,bxn,bxc⟩⟩ (.returned (.tuple #[.agg #[.slice none 0 0,.slice none 0 0,.slice none 0 0,.slice none 0 0],.int .i64 q])) w'):=fun q w' h1 h2 h3=>MgQ.bad h1 h2 h3
 have HGd:Hid (codeBoth ⟨lo,ra,ta,xa,⟨Ao,no,co⟩,⟨Ar,arn,arc⟩,⟨At,atn,atc⟩,⟨Ax,axn,axc⟩⟩ ⟨ln,rb,tb,xb,⟨Bo,nx,cx⟩,⟨Br,brn,brc⟩,⟨Bt,btn,btc⟩,⟨Bx,bxn,bxc⟩⟩=0→mgErr lo ln lo.length=0→mgE ⟨lo,ra,ta,xa,⟨Ao,no,co⟩,⟨Ar,arn,arc⟩,⟨At,atn,atc⟩,⟨Ax,axn,axc⟩⟩ ⟨ln,rb,tb,xb,⟨Bo,nx,cx⟩,⟨Br,brn,brc⟩,⟨Bt,btn,btc⟩,⟨Bx,bxn,bxc⟩⟩=if 64<(mergeL lo ln ln.length).length then 4 else 0):=fun h1 h2=>mgE_good h1 h2
 have HTy:Hid (codeBoth ⟨lo,ra,ta,xa,⟨Ao,no,co⟩,⟨Ar,arn,arc⟩,⟨At,atn,atc⟩,⟨Ax,axn,axc⟩⟩ ⟨ln,rb,tb,xb,⟨Bo,nx,cx⟩,⟨Br,brn,brc⟩,⟨Bt,btn,btc⟩,⟨Bx,bxn,bxc⟩⟩=0→∀k,k<lo.length→mgErr lo ln k=0→keepErr ln (itAt lo k)≠0→mgE ⟨lo,ra,ta,xa,⟨Ao,no,co⟩,⟨Ar,arn,arc⟩,⟨At,atn,atc⟩,⟨Ax,axn,axc⟩⟩ ⟨ln,rb,tb,xb,⟨Bo,nx,cx⟩,⟨Br,brn,brc⟩,⟨Bt,btn,btc⟩,⟨Bx,bxn,bxc⟩⟩=9):=fun h1 k h2 h3 h4=>mgE_type h1 h2 h3 h4
 have HBt:Hid (codeBoth ⟨lo,ra,ta,xa,⟨Ao,no,co⟩,⟨Ar,arn,arc⟩,⟨At,atn,atc⟩,⟨Ax,axn,axc⟩⟩ ⟨ln,rb,tb,xb,⟨Bo,nx,cx⟩,⟨Br,brn,brc⟩,⟨Bt,btn,btc⟩,⟨Bx,bxn,bxc⟩⟩≠0→mgE ⟨lo,ra,ta,xa,⟨Ao,no,co⟩,⟨Ar,arn,arc⟩,⟨At,atn,atc⟩,⟨Ax,axn,axc⟩⟩ ⟨ln,rb,tb,xb,⟨Bo,nx,cx⟩,⟨Br,brn,brc⟩,⟨Bt,btn,btc⟩,⟨Bx,bxn,bxc⟩⟩=codeBoth ⟨lo,ra,ta,xa,⟨Ao,no,co⟩,⟨Ar,arn,arc⟩,⟨At,atn,atc⟩,⟨Ax,axn,axc⟩⟩ ⟨ln,rb,tb,xb,⟨Bo,nx,cx⟩,⟨Br,brn,brc⟩,⟨Bt,btn,btc⟩,⟨Bx,bxn,bxc⟩⟩):=fun h=>by simp only[mgE,if_pos h]
 have HSh:Hid (codeBoth ⟨lo,ra,ta,xa,⟨Ao,no,co⟩,⟨Ar,arn,arc⟩,⟨At,atn,atc⟩,⟨Ax,axn,axc⟩⟩ ⟨ln,rb,tb,xb,⟨Bo,nx,cx⟩,⟨Br,brn,brc⟩,⟨Bt,btn,btc⟩,⟨Bx,bxn,bxc⟩⟩=0→∀x∈allL ⟨ln,rb,tb,xb,⟨Bo,nx,cx⟩,⟨Br,brn,brc⟩,⟨Bt,btn,btc⟩,⟨Bx,bxn,bxc⟩⟩,x.2.length≤12∧∀p∈x.2,0≤p.1∧p.1<(nx:Int)):=fun h x hx=>⟨hsh x hx,by have h2:=hrg (codeBoth_zero h).2 x hx;rw[show(nx:Int)=(ln.length:Int) from congrArg Nat.cast Hln.out];exact h2⟩
 have HMc:Hid (mgE ⟨lo,ra,ta,xa,⟨Ao,no,co⟩,⟨Ar,arn,arc⟩,⟨At,atn,atc⟩,⟨Ax,axn,axc⟩⟩ ⟨ln,rb,tb,xb,⟨Bo,nx,cx⟩,⟨Br,brn,brc⟩,⟨Bt,btn,btc⟩,⟨Bx,bxn,bxc⟩⟩=0→mgC ⟨lo,ra,ta,xa,⟨Ao,no,co⟩,⟨Ar,arn,arc⟩,⟨At,atn,atc⟩,⟨Ax,axn,axc⟩⟩ ⟨ln,rb,tb,xb,⟨Bo,nx,cx⟩,⟨Br,brn,brc⟩,⟨Bt,btn,btc⟩,⟨Bx,bxn,bxc⟩⟩=mvC (placeL lo ln) (mergeL lo ln ln.length).length { (⟨ln,rb,tb,xb,⟨Bo,nx,cx⟩,⟨Br,brn,brc⟩,⟨Bt,btn,btc⟩,⟨Bx,bxn,bxc⟩⟩:CatM)with items:=mergeL lo ln ln.length }):=fun h=>by rw[mgC,if_neg (by rw[h];decide)]
 have H64:Hid (codeBoth ⟨lo,ra,ta,xa,⟨Ao,no,co⟩,⟨Ar,arn,arc⟩,⟨At,atn,atc⟩,⟨Ax,axn,axc⟩⟩ ⟨ln,rb,tb,xb,⟨Bo,nx,cx⟩,⟨Br,brn,brc⟩,⟨Bt,btn,btc⟩,⟨Bx,bxn,bxc⟩⟩=0→nx≤64):=fun h=>by have e:nx=ln.length:=Hln.out;rw[e];exact h64 (codeBoth_zero h).2
 have HK0:=Lib.hid k0;have HK0':=Lib.hid k0';have HK0'':=Lib.hid k0'';clear k0 k0' k0'' ha hb hT hsh hrg h64;obtain⟨E,hE⟩:∃E,mgE ⟨lo,ra,ta,xa,⟨Ao,no,co⟩,⟨Ar,arn,arc⟩,⟨At,atn,atc⟩,⟨Ax,axn,axc⟩⟩ ⟨ln,rb,tb,xb,⟨Bo,nx,cx⟩,⟨Br,brn,brc⟩,⟨Bt,btn,btc⟩,⟨Bx,bxn,bxc⟩⟩=E:=⟨_,rfl⟩;obtain⟨Q,hQ⟩:∃Q,codeBoth ⟨lo,ra,ta,xa,⟨Ao,no,co⟩,⟨Ar,arn,arc⟩,⟨At,atn,atc⟩,⟨Ax,axn,axc⟩⟩ ⟨ln,rb,tb,xb,⟨Bo,nx,cx⟩,⟨Br,brn,brc⟩,⟨Bt,btn,btc⟩,⟨Bx,bxn,bxc⟩⟩=Q:=⟨_,rfl⟩;rw[hQ]at HV;have HE:=Lib.hid hE;have HQ:=Lib.hid hQ;clear hE hQ;go_enter Tryz.func18,Tryz.ntmps18;go_wp2_with fail;(with_reducible refine HV.out.mono ?_);rintro e w1 ⟨rfl,hb1⟩;have K1:=Lib.hid (HK0.out.below hb1 (by simp;omega));have K2:=Lib.hid (HK0'.out.below hb1 (by simp));have K3:=Lib.hid (HK0''.out.below hb1 (by simp));have G1:Below w.heap.size w w1:=hb0.trans (hb1.mono (by simp;omega));clear hb1 hb0 HK0 HK0' HK0'' HV;by_cases hq:Q=0
 case neg =>
  have d1:(Q != 0)=true:=by simpa using hq
  have HF:=Lib.hid (fun w' h=>HBad.out Q w' (by rw[HBt.out (by rw[HQ.out];exact hq),HQ.out]) hq h);have d:=fun q=>K3.out.cell q
  have d0:w1.cell? ⟨w.heap.size+1+1,0,none⟩=some (.slice none 0 0):=K3.out.cell 0;have d1:w1.cell? ⟨w.heap.size+1+1,1,none⟩=some (.slice none 0 0):=K3.out.cell 1;have d2:w1.cell? ⟨w.heap.size+1+1,2,none⟩=some (.slice none 0 0):=K3.out.cell 2;have d3:w1.cell? ⟨w.heap.size+1+1,3,none⟩=some (.slice none 0 0):=K3.out.cell 3;have f0:w1.frozen? ⟨w.heap.size+1+1,0,none⟩=false:=K3.out.frozen 0;have f1:w1.frozen? ⟨w.heap.size+1+1,1,none⟩=false:=K3.out.frozen 1;have f2:w1.frozen? ⟨w.heap.size+1+1,2,none⟩=false:=K3.out.frozen 2;have f3:w1.frozen? ⟨w.heap.size+1+1,3,none⟩=false:=K3.out.frozen 3;have lz:w.heap.size+1+1<w1.heap.size:=K3.out.lt;clear d HGd HTy HBt HSh HMc hq;go_wp2_with fail;have q4:=(((K3.out.set 0 (.slice none 0 0)).set 1 (.slice none 0 0)).set 2 (.slice none 0 0)).set 3 (.slice none 0 0);have r0:=q4.cell 0;have r1:=q4.cell 1;have r2:=q4.cell 2;have r3:=q4.cell 3;refine bodyPost_ret (v:=.tuple #[.agg #[.slice none 0 0,.slice none 0 0,.slice none 0 0,.slice none 0 0],.int .i64 Q]) (by simp[results,Tryz.results18,go_sem,r0,r1,r2,r3]) rfl (HF.out _ ?_);exact(((G1.setCell (p:=⟨w.heap.size+2,0,none⟩) (by simp) _).setCell (p:=⟨w.heap.size+2,1,none⟩) (by simp) _).setCell (p:=⟨w.heap.size+2,2,none⟩) (by simp) _).setCell (p:=⟨w.heap.size+2,3,none⟩) (by simp) _
 case pos =>
 subst hq;have N1:Hid (∀W:World,Below w1.heap.size w1 W→Calls Tryz.prog 44 #[.agg #[.slice Ao no co,.slice Ar arn arc,.slice At atn atc,.slice Ax axn axc]] W (NamesPost W lo no)):=fun W hW=>names_any2 (i:=⟨Ao,no,co⟩) (r:=⟨Ar,arn,arc⟩) (t:=⟨At,atn,atc⟩) (x:=⟨Ax,axn,axc⟩) (Ho.out.below (G1.trans (hW.mono G1.size)))
 have N2:Hid (∀W:World,Below w1.heap.size w1 W→Calls Tryz.prog 44 #[.agg #[.slice Bo nx cx,.slice Br brn brc,.slice Bt btn btc,.slice Bx bxn bxc]] W (NamesPost W ln nx)):=fun W hW=>names_any2 (i:=⟨Bo,nx,cx⟩) (r:=⟨Br,brn,brc⟩) (t:=⟨Bt,btn,btc⟩) (x:=⟨Bx,bxn,bxc⟩) (Hn.out.below (G1.trans (hW.mono G1.size)))
 have HC:Hid (∀U:World,Below w1.heap.size w1 U→(U.cell? ⟨w.heap.size,0,none⟩=some (.slice Ao no co)∧U.cell? ⟨w.heap.size,1,none⟩=some (.slice Ar arn arc)∧U.cell? ⟨w.heap.size,2,none⟩=some (.slice At atn atc)∧U.cell? ⟨w.heap.size,3,none⟩=some (.slice Ax axn axc))∧(U.cell? ⟨w.heap.size+1,0,none⟩=some (.slice Bo nx cx)∧U.cell? ⟨w.heap.size+1,1,none⟩=some (.slice Br brn brc)∧U.cell? ⟨w.heap.size+1,2,none⟩=some (.slice Bt btn btc)∧U.cell? ⟨w.heap.size+1,3,none⟩=some (.slice Bx bxn bxc))):=fun U hU=>by
  have q1:=K1.out.below hU K1.out.lt;have q2:=K2.out.below hU K2.out.lt;exact⟨⟨q1.cell 0,q1.cell 1,q1.cell 2,q1.cell 3⟩,q2.cell 0,q2.cell 1,q2.cell 2,q2.cell 3⟩
 obtain⟨⟨p0,p1,p2,p3⟩,r0,r1,r2,r3⟩:=HC.out w1 (Below.refl _ _);go_wp2_with fail;go_cut [7,8] (fun a b wx=>∃bo bn,a=.map (some bo)∧b=.map (some bn)∧MapI wx bo no (idxTo lo no)∧MapI wx bn nx (idxTo ln nx)∧Below w1.heap.size w1 wx)
 case first =>
  go_region_with (first
   | (go_at_call 44;(with_reducible refine(N1.out _ ?_).mono ?_);(first | exact(Below.refl _ _).drew | exact GB);rintro e wA ⟨b,rfl,hm,hge,hba⟩;(first | (have GC:=GB.trans (hba.mono GB.size);have hm1:=hm;have hm2:=hmB.below hba) | (have GA:=(Below.refl w1.heap.size w1).drew.trans hba;have hmA:=hm;obtain⟨⟨p0,p1,p2,p3⟩,r0,r1,r2,r3⟩:=HC.out _ GA)))
   | (go_at_call 44;(with_reducible refine(N2.out _ ?_).mono ?_);(first | exact(Below.refl _ _).drew | exact GA);rintro e wA ⟨b,rfl,hm,hge,hba⟩;(first | (have GC:=GA.trans (hba.mono GA.size);have hm2:=hm;have hm1:=hmA.below hba) | (have GB:=(Below.refl w1.heap.size w1).drew.trans hba;have hmB:=hm;obtain⟨⟨p0,p1,p2,p3⟩,r0,r1,r2,r3⟩:=HC.out _ GB))))
  all_goals (try go_wp2_with fail)
  all_goals go_meet
  all_goals exact⟨_,_,rfl,rfl,hm1,hm2,GC⟩
 case rest =>
  obtain⟨bo,bn,rfl,rfl,hm1,hm2,hbc⟩:=hcut;obtain⟨⟨q0,q1,q2,q3⟩,q4,q5,q6,q7⟩:=HC.out _ hbc;have G2:=G1.trans (hbc.mono G1.size);have KC:=Lib.hid (clone_its (s:=⟨Ao,no,co⟩) (Hak.out.items.below G2));have K1':=Lib.hid (K1.out.below hbc K1.out.lt);have K2':=Lib.hid (K2.out.below hbc K2.out.lt);have K3':=Lib.hid (K3.out.below hbc K3.out.lt);have HM1:=Lib.hid hm1;have HM2:=Lib.hid hm2;clear hm1 hm2 hbc p0 p1 p2 p3 r0 r1 r2 r3 N1 N2 HC K1 K2 K3 G1;go_wp2_with fail;refine KC.out.mono ?_;rintro e wB ⟨s1,rfl,hoB,hn1,hbB⟩;obtain⟨Ai,ni,ci⟩:=s1;dsimp only at hoB hn1⊢;have hn2:no=ni:=by rw[hn1];exact Hlo.out
  subst hn2;have hs3:w.heap.size+3≤wc.heap.size:=K3'.out.lt;have S0:MgB w wB ⟨lo,ra,ta,xa,⟨Ao,no,co⟩,⟨Ar,arn,arc⟩,⟨At,atn,atc⟩,⟨Ax,axn,axc⟩⟩ ⟨ln,rb,tb,xb,⟨Bo,nx,cx⟩,⟨Br,brn,brc⟩,⟨Bt,btn,btc⟩,⟨Bx,bxn,bxc⟩⟩ bo bn (.slice Ai no ci) (mergeTo lo ln 0) :=
   ⟨HM1.out.below hbB,HM2.out.below hbB,K1'.out.below hbB K1'.out.lt,K2'.out.below hbB K2'.out.lt,K3'.out.below hbB K3'.out.lt,by rw[mergeTo_zero,← hn1];exact⟨hoB.1,hoB.2.imp id fun⟨g,cap,cur,h1,h2,h3⟩=>⟨g,cap,cur,h1,by omega,h3⟩⟩,G2.trans (hbB.mono G2.size)⟩
  have HS0:=Lib.hid S0;clear S0 hoB hbB KC K1' K2' K3' HM1 HM2 q0 q1 q2 q3 q4 q5 q6 q7 G2 hs3 hn1;go_wp2_with fail;go_loopw [35] (fun i wr=>∃k:Nat,k≤no∧i=.int .i64 k∧mgErr lo ln k=0∧MgB w wr ⟨lo,ra,ta,xa,⟨Ao,no,co⟩,⟨Ar,arn,arc⟩,⟨At,atn,atc⟩,⟨Ax,axn,axc⟩⟩ ⟨ln,rb,tb,xb,⟨Bo,nx,cx⟩,⟨Br,brn,brc⟩,⟨Bt,btn,btc⟩,⟨Bx,bxn,bxc⟩⟩ bo bn (.slice Ai no ci) (mergeTo lo ln k)) (fun i _=>no-(intOf i).toNat)
  case atStart=>exact⟨0,Nat.zero_le _,rfl,rfl,HS0.out⟩
  case round =>
   obtain⟨k,hk,rfl,h0,hA⟩:=hrel;have HA:=Lib.hid hA;have H0:=Lib.hid h0;clear hA HS0 h0;by_cases hlt:k<no
   ·have hkl:k<lo.length:=by have:=Hlo.out;omega
    have hlen:(mergeTo lo ln k).length=no:=by simp[Hlo.out]
    have hown:=HA.out.own;rw[hlen]at hown;obtain⟨gi,cap,hv⟩:=row_some hown (by omega);cases hv;have hit:itAt (mergeTo lo ln k) k=itAt lo k:=by rw[itAt_merge _ _ _ _ hkl,if_neg (by omega)]
    have gc:=fun r (hr:r<7)=>(hown.cellAt (k*7+r) (by omega)).trans (icells_get (mergeTo lo ln k) k r (by rw[hlen];exact hlt) hr)
    rw[hit]at gc;have c0:wr.cell? ⟨gi,k*7,none⟩=some (.string (itAt lo k).name):=gc 0 (by omega);have c1:wr.cell? ⟨gi,k*7+1,none⟩=some (.bool (itAt lo k).object):=gc 1 (by omega);have c2:wr.cell? ⟨gi,k*7+2,none⟩=some (.bool (itAt lo k).mixed):=gc 2 (by omega);have c3:wr.cell? ⟨gi,k*7+3,none⟩=some (.bool (itAt lo k).coin):=gc 3 (by omega);have c4:wr.cell? ⟨gi,k*7+4,none⟩=some (.int .i64 (itAt lo k).wear):=gc 4 (by omega);have c5:wr.cell? ⟨gi,k*7+5,none⟩=some (.int .i64 (itAt lo k).bnd):=gc 5 (by omega);have c6:wr.cell? ⟨gi,k*7+6,none⟩=some (.int .i64 (itAt lo k).level):=gc 6 (by omega);have hgi:gi<wr.heap.size:=(hown.lt gi rfl).2;have hpm:=size_max (Ho.out.name _ (itAt_mem hkl));have HA1:=Lib.hid (HA.out.grow ((Below.refl _ wr).alloc (Nat.le_refl _) (.cells #[.string (itAt lo k).name,.bool (itAt lo k).object,.bool (itAt lo k).mixed,.bool (itAt lo k).coin,.int .i64 (itAt lo k).wear,.int .i64 (itAt lo k).bnd,.int .i64 (itAt lo k).level] 89)));have HX:=Lib.hid (Bk.new wr 89 [.string (itAt lo k).name,.bool (itAt lo k).object,.bool (itAt lo k).mixed,.bool (itAt lo k).coin,.int .i64 (itAt lo k).wear,.int .i64 (itAt lo k).bnd,.int .i64 (itAt lo k).level]);have lk:=HA1.out.mn.look hpm;have Hsk:=Lib.hid (mergeTo_skip lo ln k hkl);have Hse:=Lib.hid (mergeTo_set lo ln k hkl);have Hmi:Hid (mergeIt ln (itAt lo k)=match idxTo ln nx (itAt lo k).name with | some b=>itAt ln b | none=>itAt lo k):=by show mergeIt ln (itAt lo k)=_;rw[Hln.out];rfl
    have Hke:Hid (keepErr ln (itAt lo k)=match idxTo ln nx (itAt lo k).name with | some b=>if alikeB (itAt lo k) (itAt ln b)=false then 9 else 0 | none=>0):=by show _=_;rw[Hln.out];rfl
    have Hnx:Hid (keepErr ln (itAt lo k)=0→mgErr lo ln (k+1)=0):=fun h=>by simp only[mgErr,H0.out];simpa using h
    have Hty:Hid (keepErr ln (itAt lo k)≠0→E=9):=fun h=>HE.out.symm.trans (HTy.out HQ.out k hkl H0.out h)
    have Hlen:=Lib.hid hlen;have k0:(0:Int)≤(k:Int):=by omega
    have k1:(k:Int)<(no:Int):=by omega
    clear hkl hlen hown hit gc HA H0;generalize itAt lo k=ta at *;cases hb:idxTo ln nx ta.name with
    | none =>
      rw[hb]at lk Hmi Hke;dsimp only at Hmi Hke;have Hs2:=Lib.hid (Hsk.out Hmi.out);have Hn2:=Lib.hid (Hnx.out Hke.out);simp only[Option.isSome_none,Option.getD_none]at lk;obtain⟨n1,o1,m1,c1',w1',b1,l1⟩:=ta;dsimp only at *;clear hb Hke Hse Hsk Hmi Hnx Hty;go_wp2_with fail;go_roundw
      case rel=>exact⟨k+1,by omega,by go_num,Hn2.out,by rw[← Hs2.out];exact HA1.out⟩
      case measure=>simp[intOf];omega
    | some b' =>
      have hb1:=(idxTo_lt hb).1;rw[hb]at lk Hmi Hke;dsimp only at Hmi Hke;rw[Hmi.out]at Hse;simp only[Option.isSome_some,Option.getD_some]at lk;have AK:=Lib.hid (fun U:World=>alike_any ta (itAt ln b') U);have i2:(0:Int)≤(b':Int):=by omega
      have i3:(b':Int)<(nx:Int):=by omega
      obtain⟨bp,op,hax,hbp,pc0,pc1,pc2,pc3,pc4,pc5,pc6⟩:=(Hn.out.below HA1.out.below).at_ b' hb1;subst hax;have p0:=HA1.out.b2.cell 0;generalize hal:alikeB ta (itAt ln b')=al at *;clear hb Hsk Hmi hal;generalize itAt ln b'=tb at *;obtain⟨n1,o1,m1,c1',w1',b1,l1⟩:=ta;obtain⟨n2,o2,m2,c2',w2',b2,l2⟩:=tb;dsimp only at *;have x0:=HX.out.cell 0;have x1:=HX.out.cell 1;have x2:=HX.out.cell 2;have x3:=HX.out.cell 3;have x4:=HX.out.cell 4;have x5:=HX.out.cell 5;have x6:=HX.out.cell 6;go_wp2_with fail;generalize wr.alloc (.cells #[.string n1,.bool o1,.bool m1,.bool c1',.int .i64 w1',.int .i64 b1,.int .i64 l1] 89)=W at *;clear c0 c1 c2 c3 c4 c5 c6 hgi lk;generalize wr.heap.size=gx at *;go_still_tail 6,(by kernel_rfl);change wpList _ _ _ _ _ W.drew;go_wp2_with fail;refine(AK.out _).mono ?_;rintro e wA ⟨rfl,hbA⟩;have BA:Below W.heap.size W wA:=(Below.refl W.heap.size W).drew.trans hbA;have HA3:=Lib.hid (HA1.out.grow BA);cases al with
      | false =>
        have hE9:E=9:=Hty.out (by rw[Hke.out];decide);have HF:=Lib.hid (fun w' h=>HBad.out 9 w' (by rw[HE.out,hE9]) (by decide) h);have HB3:=Lib.hid HA3.out.b3;have HBe:=Lib.hid HA3.out.below;have d0:wA.cell? ⟨w.heap.size+1+1,0,none⟩=some (.slice none 0 0):=HB3.out.cell 0;have d1:wA.cell? ⟨w.heap.size+1+1,1,none⟩=some (.slice none 0 0):=HB3.out.cell 1;have d2:wA.cell? ⟨w.heap.size+1+1,2,none⟩=some (.slice none 0 0):=HB3.out.cell 2;have d3:wA.cell? ⟨w.heap.size+1+1,3,none⟩=some (.slice none 0 0):=HB3.out.cell 3;have f0:wA.frozen? ⟨w.heap.size+1+1,0,none⟩=false:=HB3.out.frozen 0;have f1:wA.frozen? ⟨w.heap.size+1+1,1,none⟩=false:=HB3.out.frozen 1;have f2:wA.frozen? ⟨w.heap.size+1+1,2,none⟩=false:=HB3.out.frozen 2;have f3:wA.frozen? ⟨w.heap.size+1+1,3,none⟩=false:=HB3.out.frozen 3;have lz:w.heap.size+1+1<wA.heap.size:=HB3.out.lt;clear Hty Hke Hnx HA3 HA1 BA hbA hE9 pc0 pc1 pc2 pc3 pc4 pc5 pc6 x0 x1 x2 x3 x4 x5 x6 p0 Hse HX;go_wp2_with fail;have q4:=(((HB3.out.set 0 (.slice none 0 0)).set 1 (.slice none 0 0)).set 2 (.slice none 0 0)).set 3 (.slice none 0 0);have r0:=q4.cell 0;have r1:=q4.cell 1;have r2:=q4.cell 2;have r3:=q4.cell 3;refine bodyPost_ret (v:=.tuple #[.agg #[.slice none 0 0,.slice none 0 0,.slice none 0 0,.slice none 0 0],.int .i64 9]) (by simp[results,Tryz.results18,go_sem,r0,r1,r2,r3]) rfl (HF.out _ ?_);exact(((HBe.out.setCell (p:=⟨w.heap.size+2,0,none⟩) (by simp) _).setCell (p:=⟨w.heap.size+2,1,none⟩) (by simp) _).setCell (p:=⟨w.heap.size+2,2,none⟩) (by simp) _).setCell (p:=⟨w.heap.size+2,3,none⟩) (by simp) _
      | true =>
      have Hn2:=Lib.hid (Hnx.out (by rw[Hke.out];rfl));have s0:=HA3.out.b2.cell 0;have t0:wA.cell? ⟨bp,op+b'*7,none⟩=some (.string n2):=(BA.cell (p:=⟨bp,_,none⟩) hbp).trans pc0;have t1:wA.cell? ⟨bp,op+b'*7+1,none⟩=some (.bool o2):=(BA.cell (p:=⟨bp,_,none⟩) hbp).trans pc1;have t2:wA.cell? ⟨bp,op+b'*7+2,none⟩=some (.bool m2):=(BA.cell (p:=⟨bp,_,none⟩) hbp).trans pc2;have t3:wA.cell? ⟨bp,op+b'*7+3,none⟩=some (.bool c2'):=(BA.cell (p:=⟨bp,_,none⟩) hbp).trans pc3;have t4:wA.cell? ⟨bp,op+b'*7+4,none⟩=some (.int .i64 w2'):=(BA.cell (p:=⟨bp,_,none⟩) hbp).trans pc4;have t5:wA.cell? ⟨bp,op+b'*7+5,none⟩=some (.int .i64 b2):=(BA.cell (p:=⟨bp,_,none⟩) hbp).trans pc5;have t6:wA.cell? ⟨bp,op+b'*7+6,none⟩=some (.int .i64 l2):=(BA.cell (p:=⟨bp,_,none⟩) hbp).trans pc6;have ho3:=HA3.out.own;rw[Hlen.out]at ho3;have hg3:gi<wA.heap.size:=(ho3.lt gi rfl).2;have ex:=fun r (hr:r<7)=>(ho3.cellAt (k*7+r) (by omega)).trans (icells_get (mergeTo lo ln k) k r (by rw[Hlen.out];exact hlt) hr)
      generalize itAt (mergeTo lo ln k) k=tq at *;obtain⟨y1,y2,y3,y4,y5,y6,y7⟩:=tq;have e0:wA.cell? ⟨gi,k*7,none⟩=some (.string y1):=ex 0 (by omega);have e1:wA.cell? ⟨gi,k*7+1,none⟩=some (.bool y2):=ex 1 (by omega);have e2:wA.cell? ⟨gi,k*7+2,none⟩=some (.bool y3):=ex 2 (by omega);have e3:wA.cell? ⟨gi,k*7+3,none⟩=some (.bool y4):=ex 3 (by omega);have e4:wA.cell? ⟨gi,k*7+4,none⟩=some (.int .i64 y5):=ex 4 (by omega);have e5:wA.cell? ⟨gi,k*7+5,none⟩=some (.int .i64 y6):=ex 5 (by omega);have e6:wA.cell? ⟨gi,k*7+6,none⟩=some (.int .i64 y7):=ex 6 (by omega);have z0:=ho3.frozenAt (k*7);have z1:=ho3.frozenAt (k*7+1);have z2:=ho3.frozenAt (k*7+2);have z3:=ho3.frozenAt (k*7+3);have z4:=ho3.frozenAt (k*7+4);have z5:=ho3.frozenAt (k*7+5);have z6:=ho3.frozenAt (k*7+6);have hset:MgB w (((((((wA.setCell ⟨gi,k*7,none⟩ (.string n2)).setCell ⟨gi,k*7+1,none⟩ (.bool o2)).setCell ⟨gi,k*7+2,none⟩ (.bool m2)).setCell ⟨gi,k*7+3,none⟩ (.bool c2')).setCell ⟨gi,k*7+4,none⟩ (.int .i64 w2')).setCell ⟨gi,k*7+5,none⟩ (.int .i64 b2)).setCell ⟨gi,k*7+6,none⟩ (.int .i64 l2)) ⟨lo,ra,ta,xa,⟨Ao,no,co⟩,⟨Ar,arn,arc⟩,⟨At,atn,atc⟩,⟨Ax,axn,axc⟩⟩ ⟨ln,rb,tb,xb,⟨some ⟨bp,op,none⟩,nx,cx⟩,⟨Br,brn,brc⟩,⟨Bt,btn,btc⟩,⟨Bx,bxn,bxc⟩⟩ bo bn (.slice (some ⟨gi,0,none⟩) no ci) (mergeTo lo ln (k+1)):=by
       have hx:=HA3.out;rw[← Hlen.out]at hx;have h2:=hx.setIt k ⟨n2,o2,m2,c2',w2',b2,l2⟩ (by rw[Hlen.out];exact hlt);rw[Hse.out,Hlen.out]at h2;exact h2
      have HF:=Lib.hid hset;clear hset ho3 ex pc0 pc1 pc2 pc3 pc4 pc5 pc6 x0 x1 x2 x3 x4 x5 x6 p0 hbA BA HA3 HA1 HX Hty Hke Hnx;go_wp2_with fail;go_roundw
      case rel=>exact⟨k+1,by omega,by go_num,Hn2.out,HF.out⟩
      case measure=>simp[intOf];omega
   ·obtain rfl:no=k:=by omega
    have hA0:=HA.out;have hmL:mergeTo lo ln no=mergeL lo ln 0:=by simp[mergeL,newTo,Hlo.out]
    have HG2:Hid (mgErr lo ln lo.length=0):=by rw[← Hlo.out];exact H0
    have hnx64:=H64.out HQ.out;clear H0;rw[hmL]at hA0;have q4:wr.cell? ⟨w.heap.size+1,0,none⟩=some (.slice Bo nx cx):=hA0.b2.cell 0;have hl1:=hA0.b1.lt;have hl2:=hA0.b2.lt;have hl3:=hA0.b3.lt;have mk:=fun W=>make_ints nx (by omega) W
    have hgw:Below wr.heap.size wr ((wr.alloc (.cells (ints (List.replicate nx 0)).toArray 3)).alloc (.cells #[.slice (some ⟨wr.heap.size,0,none⟩) nx nx] 22)):=((Below.refl _ _).alloc (Nat.le_refl _) _).alloc (by simp) _;have HS:=Lib.hid (hA0.grow hgw);have kp:=(Bk.new wr 3 (ints (List.replicate nx 0))).alloc (.cells #[.slice (some ⟨wr.heap.size,0,none⟩) nx nx] 22);have kb:=Bk.new (wr.alloc (.cells (ints (List.replicate nx 0)).toArray 3)) 22 [.slice (some ⟨wr.heap.size,0,none⟩) nx nx];rw[World.size_alloc]at kb;have KP:=Lib.hid kp;have KB:=Lib.hid kb;have hgp:w.heap.size+3≤wr.heap.size:=by omega
    clear hA0 hmL hgw kp kb HA;go_wp2_with fail;generalize(wr.alloc (.cells (ints (List.replicate nx 0)).toArray 3)).alloc (.cells #[.slice (some ⟨wr.heap.size,0,none⟩) nx nx] 22)=W0 at *;have hgb:w.heap.size+3≤wr.heap.size+1:=by omega
    have hgbp:wr.heap.size+1≠wr.heap.size:=by omega
    generalize wr.heap.size+1=gb at *;generalize wr.heap.size=gp at *;clear q4 mk hl1 hl2 hl3;go_loopw [9,74] (fun x i wz=>∃k:Nat,k≤nx∧i=.int .i64 k∧MgB w wz ⟨lo,ra,ta,xa,⟨Ao,no,co⟩,⟨Ar,arn,arc⟩,⟨At,atn,atc⟩,⟨Ax,axn,axc⟩⟩ ⟨ln,rb,tb,xb,⟨Bo,nx,cx⟩,⟨Br,brn,brc⟩,⟨Bt,btn,btc⟩,⟨Bx,bxn,bxc⟩⟩ bo bn x (mergeL lo ln k)∧Bk wz gb 22 [.slice (some ⟨gp,0,none⟩) nx nx]∧∃pl:List Int,pl.length=nx∧(∀i,i<k→wAt pl i=placeOf lo ln i)∧Bk wz gp 3 (ints pl)) (fun _ i _=>nx-(intOf i).toNat)
    case atStart=>exact⟨0,Nat.zero_le _,rfl,HS.out,KB.out,_,by simp,fun i h=>absurd h (by omega),KP.out⟩
    case round =>
     obtain⟨k,hk,rfl,hA,kb,pl,hpl,hpv,kp⟩:=hrel;have Hpv:=Lib.hid hpv;clear hpv;have HA:=Lib.hid hA;have KB1:=Lib.hid kb;have KP1:=Lib.hid kp;have Hpl:=Lib.hid hpl;clear hA kb kp hpl HS KB KP;have hll:=mergeL_le lo ln k;rw[← Hlo.out]at hll;by_cases hlt:k<nx
     ·have hkl:k<ln.length:=by have:=Hln.out;omega
      obtain⟨bp,op,hax,hbp,pc0,pc1,pc2,pc3,pc4,pc5,pc6⟩:=(Hn.out.below HA.out.below).at_ k hlt;subst hax;have hpm:=size_max (Hn.out.name _ (itAt_mem hkl));have HA1:=Lib.hid (HA.out.grow ((Below.refl _ wr).alloc (Nat.le_refl _) (.cells #[.string (itAt ln k).name,.bool (itAt ln k).object,.bool (itAt ln k).mixed,.bool (itAt ln k).coin,.int .i64 (itAt ln k).wear,.int .i64 (itAt ln k).bnd,.int .i64 (itAt ln k).level] 89)));have lk:=HA1.out.mo.look hpm;have Hso:Hid ((idxTo lo no (itAt ln k).name).isSome=true→mergeL lo ln (k+1)=mergeL lo ln k):=fun h=>mergeL_succ_old (by rw[← Hlo.out];exact h)
      have Hsn:Hid ((idxTo lo no (itAt ln k).name).isSome=false→mergeL lo ln (k+1)=mergeL lo ln k ++ [itAt ln k]):=fun h=>mergeL_succ_new (by rw[← Hlo.out];exact h)
      have HX:=Lib.hid (Bk.new wr 89 [.string (itAt ln k).name,.bool (itAt ln k).object,.bool (itAt ln k).mixed,.bool (itAt ln k).coin,.int .i64 (itAt ln k).wear,.int .i64 (itAt ln k).bnd,.int .i64 (itAt ln k).level]);have k0:(0:Int)≤(k:Int):=by omega
      have k1:(k:Int)<(nx:Int):=by omega
      obtain⟨Ax9,cx9,hx9,_,_,_⟩:=row_form HA.out.own;subst hx9;have Hpo:Hid (placeOf lo ln k=match idxTo lo no (itAt ln k).name with | some a=>(a:Int) | none=>((mergeL lo ln k).length:Int)):=by
       show placeOf lo ln k=_;rw[Hlo.out];unfold placeOf;cases idxTo lo lo.length (itAt ln k).name with
       | some a=>rfl
       | none=>show((lo.length+(newTo lo ln k).length:Nat):Int)=((mergeL lo ln k).length:Int);simp[mergeL]
      have Hps:Hid (∀v,placeOf lo ln k=v→∀i,i<k+1→wAt (pl.set k v) i=placeOf lo ln i):=by
       show ∀v,_→∀i,_;intro v hv i hi;by_cases e:i=k
       ·subst e;simp only[wAt];rw[List.getElem?_set_self (by rw[Hpl.out];exact hlt)];exact hv.symm
       ·simp only[wAt];rw[List.getElem?_set_ne (fun h=>e h.symm)];exact Hpv.out i (by omega)
      clear hkl Hpv;generalize itAt ln k=tb at *;obtain⟨n2,o2,m2,c2',w2',b2,l2⟩:=tb;dsimp only at *;have hgpl:gp<wr.heap.size:=KP1.out.lt;have hgbl:gb<wr.heap.size:=KB1.out.lt;have hpc:∀X:World,Bk X gp 3 (ints pl)→X.cell? ⟨gp,k,none⟩=some (.int .i64 (wAt pl k)):=fun X hX=>(hX.cell k).trans (ints_at pl k (by rw[Hpl.out];exact hlt))
      cases hb:idxTo lo no n2 with
      | some a =>
        rw[hb]at lk Hso Hpo;have HPS:=Lib.hid (Hps.out _ Hpo.out);clear Hpo Hps;simp only[Option.isSome_some,Option.getD_some]at lk;have Hs:=Lib.hid (Hso.out rfl);have y0:wr.cell? ⟨gb,0,none⟩=some (.slice (some ⟨gp,0,none⟩) nx nx):=KB1.out.cell 0;have y1:=hpc _ KP1.out;have y2:=KP1.out.frozen k;have hF:=(HA.out.setP KP1.out (by decide) hgp k (.int .i64 (a:Int))).grow ((Below.refl _ _).alloc (Nat.le_refl _) (.cells #[.string n2,.bool o2,.bool m2,.bool c2',.int .i64 w2',.int .i64 b2,.int .i64 l2] 89));have kp3:=(KP1.out.set k (.int .i64 (a:Int))).alloc (.cells #[.string n2,.bool o2,.bool m2,.bool c2',.int .i64 w2',.int .i64 b2,.int .i64 l2] 89);rw[ints_set]at kp3;have kb3:=(KB1.out.far (p:=⟨gp,k,none⟩) hgbp (.int .i64 (a:Int))).alloc (.cells #[.string n2,.bool o2,.bool m2,.bool c2',.int .i64 w2',.int .i64 b2,.int .i64 l2] 89);have HF:=Lib.hid hF;have KP3:=Lib.hid kp3;have KB3:=Lib.hid kb3;clear hF kp3 kb3 hb Hso Hsn hpc;go_wp2_with fail;go_roundw
        case rel=>exact⟨k+1,by omega,by go_num,by rw[Hs.out];exact HF.out,KB3.out,_,by rw[List.length_set];exact Hpl.out,HPS.out,KP3.out⟩
        case measure=>simp[intOf];omega
      | none =>
        rw[hb]at lk Hsn Hpo;have HPS:=Lib.hid (Hps.out _ Hpo.out);clear Hpo Hps;simp only[Option.isSome_none,Option.getD_none]at lk;have Hs:=Lib.hid (Hsn.out rfl);have hown2:=HA1.out.own.alloc (.cells #[.string n2,.bool o2,.bool m2,.bool c2',.int .i64 w2',.int .i64 b2,.int .i64 l2] 89);have HO2:=Lib.hid hown2;have kb2:=(KB1.out.alloc (.cells #[.string n2,.bool o2,.bool m2,.bool c2',.int .i64 w2',.int .i64 b2,.int .i64 l2] 89)).alloc (.cells #[.string n2,.bool o2,.bool m2,.bool c2',.int .i64 w2',.int .i64 b2,.int .i64 l2] 89);have kp2:=(KP1.out.alloc (.cells #[.string n2,.bool o2,.bool m2,.bool c2',.int .i64 w2',.int .i64 b2,.int .i64 l2] 89)).alloc (.cells #[.string n2,.bool o2,.bool m2,.bool c2',.int .i64 w2',.int .i64 b2,.int .i64 l2] 89);have HA2:=Lib.hid (HA1.out.grow ((Below.refl _ _).alloc (Nat.le_refl _) (.cells #[.string n2,.bool o2,.bool m2,.bool c2',.int .i64 w2',.int .i64 b2,.int .i64 l2] 89)));have KB2:=Lib.hid kb2;have KP2:=Lib.hid kp2;have C1:=new7a (wr.alloc (.cells #[.string n2,.bool o2,.bool m2,.bool c2',.int .i64 w2',.int .i64 b2,.int .i64 l2] 89)) 89 (.string n2) (.bool o2) (.bool m2) (.bool c2') (.int .i64 w2') (.int .i64 b2) (.int .i64 l2);rw[World.size_alloc]at C1;have HC1:=Lib.hid C1;have hbig:w.heap.size+3≤wr.heap.size:=by omega
        clear kb2 kp2 hown2 C1 hb Hso Hsn;go_wp2_with(at_builtin;refine wpList_append_own_at _ rfl _ _ 23 rfl (w.heap.size+3) 89 i0 (.agg #[.string ⟨#[]⟩,.bool false,.bool false,.bool false,.int .i64 0,.int .i64 0,.int .i64 0]) 7 48 Tryz.underlying23 hi hz0 hz1 hz2 rfl (by decide) _ (mergeL lo ln k).length (icells (mergeL lo ln k)) rfl HO2.out ⟨wr.heap.size+1,0,none⟩ 1 1 [.string n2,.bool o2,.bool m2,.bool c2',.int .i64 w2',.int .i64 b2,.int .i64 l2] rfl rfl HC1.out (icells_one [⟨n2,o2,m2,c2',w2',b2,l2⟩]) ?c3 ?c4 ?c5 ?_)
        case c3=>unfold maxLen;omega
        case c4=>omega
        case c5=>(try simp);omega
        intro v' w3 hown' hgrow _ _;have h1:=row_neP HO2.out KB2.out (by decide);have h2:=row_neP HO2.out KP2.out (by decide);have hT:MgB w w3 ⟨lo,ra,ta,xa,⟨Ao,no,co⟩,⟨Ar,arn,arc⟩,⟨At,atn,atc⟩,⟨Ax,axn,axc⟩⟩ ⟨ln,rb,tb,xb,⟨some ⟨bp,op,none⟩,nx,cx⟩,⟨Br,brn,brc⟩,⟨Bt,btn,btc⟩,⟨Bx,bxn,bxc⟩⟩ bo bn v' (mergeL lo ln (k+1)):=by
         refine HA2.out.turn hgrow ?_;rw[Hs.out,icells_snoc,List.length_append];exact hown'
        have kb4:=KB2.out.grown hgrow (Ne.symm h1);have kp4:=KP2.out.grown hgrow (Ne.symm h2);have y0:w3.cell? ⟨gb,0,none⟩=some (.slice (some ⟨gp,0,none⟩) nx nx):=kb4.cell 0;have y1:=hpc _ kp4;have y2:=kp4.frozen k;have y3:=kp4.lt;have hF:=hT.setP kp4 (by decide) hgp k (.int .i64 ((mergeL lo ln k).length:Int));have kp5:=kp4.set k (.int .i64 ((mergeL lo ln k).length:Int));rw[ints_set]at kp5;have kb5:=kb4.far (p:=⟨gp,k,none⟩) hgbp (.int .i64 ((mergeL lo ln k).length:Int));have HF:=Lib.hid hF;have KP3:=Lib.hid kp5;have KB3:=Lib.hid kb5;clear hF kp5 kb5 hT kb4 kp4 h1 h2 hown' hgrow hpc;go_wp2_with fail;go_roundw
        case rel=>exact⟨k+1,by omega,by go_num,HF.out,KB3.out,_,by rw[List.length_set];exact Hpl.out,HPS.out,KP3.out⟩
        case measure=>simp[intOf];omega
     ·obtain rfl:nx=k:=by omega
      obtain⟨Ax9,cx9,hx9,_,_,_⟩:=row_form HA.out.own;subst hx9;have Hplq:Hid (pl=placeL lo ln):=placeL_eq (by rw[Hpl.out];exact Hln.out) (fun i hi=>Hpv.out i (by have:=Hln.out;omega));have hlm:(mergeL lo ln nx).length≤no+nx:=hll;have HEe:Hid (E=if 64<(mergeL lo ln nx).length then 4 else 0):=by
       have h:=HGd.out HQ.out HG2.out;rw[HE.out]at h;show E=_;rw[h,← Hln.out]
      have hso:=HA.out.own;have q0:wr.cell? ⟨w.heap.size+1,0,none⟩=some (.slice Bo nx cx):=HA.out.b2.cell 0;have q1:wr.cell? ⟨w.heap.size+1,1,none⟩=some (.slice Br brn brc):=HA.out.b2.cell 1;have q2:wr.cell? ⟨w.heap.size+1,2,none⟩=some (.slice Bt btn btc):=HA.out.b2.cell 2;have q3:wr.cell? ⟨w.heap.size+1,3,none⟩=some (.slice Bx bxn bxc):=HA.out.b2.cell 3;have d0:wr.cell? ⟨w.heap.size+1+1,0,none⟩=some (.slice none 0 0):=HA.out.b3.cell 0;have d1:wr.cell? ⟨w.heap.size+1+1,1,none⟩=some (.slice none 0 0):=HA.out.b3.cell 1;have d2:wr.cell? ⟨w.heap.size+1+1,2,none⟩=some (.slice none 0 0):=HA.out.b3.cell 2;have d3:wr.cell? ⟨w.heap.size+1+1,3,none⟩=some (.slice none 0 0):=HA.out.b3.cell 3;have f0:wr.frozen? ⟨w.heap.size+1+1,0,none⟩=false:=HA.out.b3.frozen 0;have f1:wr.frozen? ⟨w.heap.size+1+1,1,none⟩=false:=HA.out.b3.frozen 1;have f2:wr.frozen? ⟨w.heap.size+1+1,2,none⟩=false:=HA.out.b3.frozen 2;have f3:wr.frozen? ⟨w.heap.size+1+1,3,none⟩=false:=HA.out.b3.frozen 3;have lz:w.heap.size+1+1<wr.heap.size:=HA.out.b3.lt;by_cases hbig:64<(mergeL lo ln nx).length
      ·have hE4:E=4:=by rw[HEe.out,if_pos hbig]
       have HF:=Lib.hid (fun w' h=>HBad.out 4 w' (by rw[HE.out,hE4]) (by decide) h);have dd:decide ((64:Int)<((mergeL lo ln nx).length:Int))=true:=by simp;omega
       clear hE4 HEe hso;go_wp2_with fail;have q4:=(((HA.out.b3.set 0 (.slice none 0 0)).set 1 (.slice none 0 0)).set 2 (.slice none 0 0)).set 3 (.slice none 0 0);have r0:=q4.cell 0;have r1:=q4.cell 1;have r2:=q4.cell 2;have r3:=q4.cell 3;refine bodyPost_ret (v:=.tuple #[.agg #[.slice none 0 0,.slice none 0 0,.slice none 0 0,.slice none 0 0],.int .i64 4]) (by simp[results,Tryz.results18,go_sem,r0,r1,r2,r3]) rfl (HF.out _ ?_);exact(((HA.out.below.setCell (p:=⟨w.heap.size+2,0,none⟩) (by simp) _).setCell (p:=⟨w.heap.size+2,1,none⟩) (by simp) _).setCell (p:=⟨w.heap.size+2,2,none⟩) (by simp) _).setCell (p:=⟨w.heap.size+2,3,none⟩) (by simp) _
      ·have hE0:E=0:=by rw[HEe.out,if_neg hbig]
       have dd:decide ((64:Int)<((mergeL lo ln nx).length:Int))=false:=by simp;omega
       have HMC:=Lib.hid (HMc.out (by rw[HE.out,hE0]));have hle:(mergeL lo ln nx).length≤64:=by omega
       have HItm:Hid (ItsV wr ⟨Ax9,(mergeL lo ln nx).length,cx9⟩ (mergeL lo ln nx)):=⟨TRow.of_own hso,rfl,by show(mergeL lo ln nx).length≤100000;omega,by rw[Hln.out];exact mergeL_names Hak.out.items.each Hbk.out.items.each⟩;have HPl:Hid (PlV wr gb (placeL lo ln)):=by
        show PlV wr gb (placeL lo ln);refine⟨gp,?_,?_⟩
        ·have h:=KB1.out;rw[Hln.out]at h;rw[placeL_len];exact h
        ·rw[← Hplq.out];exact KP1.out
       have HPp:Hid (∀x∈placeL lo ln,0≤x∧x<((mergeL lo ln nx).length:Int)):=by rw[Hln.out];exact placeL_pos lo ln
       have HSS:Hid (∀x∈allL ⟨ln,rb,tb,xb,⟨Bo,nx,cx⟩,⟨Br,brn,brc⟩,⟨Bt,btn,btc⟩,⟨Bx,bxn,bxc⟩⟩,x.2.length≤12∧∀p∈x.2,0≤p.1∧p.1<((placeL lo ln).length:Int)):=fun x hx=>by rw[placeL_len,← Hln.out];exact HSh.out HQ.out x hx
       have KR:Hid (Calls Tryz.prog 51 #[.agg #[.slice Bo nx cx,.slice Br brn brc,.slice Bt btn btc,.slice Bx bxn bxc],.slice Ax9 (mergeL lo ln nx).length cx9,.func (.func 52) #[] #[.pointer (some ⟨gb,0,none⟩)]] wr (RwtQ wr (placeL lo ln) (mergeL lo ln nx).length ⟨ln,rb,tb,xb,⟨Bo,nx,cx⟩,⟨Br,brn,brc⟩,⟨Bt,btn,btc⟩,⟨Bx,bxn,bxc⟩⟩ (mergeL lo ln nx))) :=
        rewrite_any (m:=⟨ln,rb,tb,xb,⟨Bo,nx,cx⟩,⟨Br,brn,brc⟩,⟨Bt,btn,btc⟩,⟨Bx,bxn,bxc⟩⟩) (si:=⟨Ax9,(mergeL lo ln nx).length,cx9⟩) (Hbk.out.below HA.out.below) HItm.out HPl.out HPp.out (by omega) HSS.out
       have HBb:=Lib.hid HA.out.below;have HB3:=Lib.hid HA.out.b3;clear HEe hso HItm HPl HPp HSS HA KB1 KP1 Hplq d0 d1 d2 d3 f0 f1 f2 f3;go_wp2_with fail;refine KR.out.mono ?_;rintro e w3 ⟨⟨i5,r5,t5,x5,⟨Ci,cin,cic⟩,⟨Cr,crn,crc⟩,⟨Ct,ctn,ctc⟩,⟨Cx,cxn,cxc⟩⟩,rfl,hok5,hcore5,hb5⟩;have k3:=HB3.out.below hb5 HB3.out.lt;have d0:w3.cell? ⟨w.heap.size+1+1,0,none⟩=some (.slice none 0 0):=k3.cell 0;have d1:w3.cell? ⟨w.heap.size+1+1,1,none⟩=some (.slice none 0 0):=k3.cell 1;have d2:w3.cell? ⟨w.heap.size+1+1,2,none⟩=some (.slice none 0 0):=k3.cell 2;have d3:w3.cell? ⟨w.heap.size+1+1,3,none⟩=some (.slice none 0 0):=k3.cell 3;have f0:w3.frozen? ⟨w.heap.size+1+1,0,none⟩=false:=k3.frozen 0;have f1:w3.frozen? ⟨w.heap.size+1+1,1,none⟩=false:=k3.frozen 1;have f2:w3.frozen? ⟨w.heap.size+1+1,2,none⟩=false:=k3.frozen 2;have f3:w3.frozen? ⟨w.heap.size+1+1,3,none⟩=false:=k3.frozen 3;have zl:w.heap.size+1+1<w3.heap.size:=k3.lt;have HB5:=Lib.hid (HBb.out.trans (hb5.mono HBb.out.size));have K3:=Lib.hid k3;have HO5:=Lib.hid hok5;have HC5:=Lib.hid hcore5;clear k3 hb5 hok5 hcore5 KR q0 q1 q2 q3;go_wp2_with fail;have q4:=(((K3.out.set 0 (.slice Ci cin cic)).set 1 (.slice Cr crn crc)).set 2 (.slice Ct ctn ctc)).set 3 (.slice Cx cxn cxc);have r0:=q4.cell 0;have r1:=q4.cell 1;have r2:=q4.cell 2;have r3:=q4.cell 3;refine bodyPost_ret (v:=.tuple #[.agg #[.slice Ci cin cic,.slice Cr crn crc,.slice Ct ctn ctc,.slice Cx cxn cxc],.int .i64 0]) (by simp[results,Tryz.results18,go_sem,r0,r1,r2,r3]) rfl ?_;refine⟨⟨i5,r5,t5,x5,⟨Ci,cin,cic⟩,⟨Cr,crn,crc⟩,⟨Ct,ctn,ctc⟩,⟨Cx,cxn,cxc⟩⟩,by rw[HE.out,hE0],?_,?_,?_⟩
       ·exact(((HO5.out.set28a K3.out).set28a (K3.out.set 0 (.slice Ci cin cic))).set28a ((K3.out.set 0 (.slice Ci cin cic)).set 1 (.slice Cr crn crc))).set28a (((K3.out.set 0 (.slice Ci cin cic)).set 1 (.slice Cr crn crc)).set 2 (.slice Ct ctn ctc))
       ·rw[HMC.out,← Hln.out];exact HC5.out
       ·exact(((HB5.out.setCell (p:=⟨w.heap.size+2,0,none⟩) (by simp) _).setCell (p:=⟨w.heap.size+2,1,none⟩) (by simp) _).setCell (p:=⟨w.heap.size+2,2,none⟩) (by simp) _).setCell (p:=⟨w.heap.size+2,3,none⟩) (by simp) _
end
end Go.Proofs.YthjfdfdgbpbanaaGreatDoor
