/- The memory of the generator of catalogs: a catalog in its box, and its rows as they grow. The memory of the generator of catalogs: a catalog in its box, one of its rows being made. The generator of catalogs: what its rows are; a table and a tax in the making; names. The generator of catalogs: a tax and its first bracket, between the operations that make them. The generator's numbers told: what next draws. -/
import Derived.Test.YtiecjoijnkghbaaGreatDoorY7
import Derived.Test.YtiecjoijnkghbaaGreatDoorY9
import Derived.Test.YtiecjoijnkghbaaGreatDoorY10
import Derived.Deep.CutBlock
import Derived.Deep.DeepCutAuto
import Derived.Deep.RegionLaw
import Derived.Deep.AppendLies
import Derived.Maps.AppendAt
set_option linter.unusedVariables false
set_option linter.unusedSimpArgs false
set_option maxRecDepth 100000
set_option maxHeartbeats 1000000
open Go.RowKit
namespace Go.Proofs.YtiecjoijnkghbaaGreatDoor
section
set_option linter.unusedVariables false
set_option linter.unusedSimpArgs false
section
abbrev nil4:List Value:=[.slice none 0 0,.slice none 0 0,.slice none 0 0,.slice none 0 0]
structure CtAt (V W : World) (g rb cb : Nat) (m : CatM) : Prop where
 st:GSt V W g
 res:Bk W rb 28 nil4
 rlt:rb<V.heap.size
 rne:rb≠g
 bx:Bk W cb 28 (catSL m.si m.sr m.st m.sx)
 ge:V.heap.size<=cb
 ok:m.Ok W
theorem CatM.Ok.keeps {W W':World} {m:CatM} (h:m.Ok W) (k:∀t,t≠180->t≠28->Keep t W W'):m.Ok W' :=
 ⟨h.items.keep (k 42 (by decide) (by decide)),h.rules.keep (k 149 (by decide) (by decide)) (k 151 (by decide) (by decide)),h.tables.keep (k 173 (by decide) (by decide)) (k 175 (by decide) (by decide)) (k 151 (by decide) (by decide)),h.taxes.keep (k 93 (by decide) (by decide)) (k 186 (by decide) (by decide))⟩
def rucells (l:List RuM):List Value:=l.flatMap RuM.cells
def tbcells (l:List TbM):List Value:=l.flatMap TbM.cells
def txcells (l:List TxM):List Value:=l.flatMap TxM.cells
theorem rucells_snoc (l:List RuM) (t:RuM):rucells (l ++ [t])=rucells l ++ t.cells:=by simp[rucells]
theorem tbcells_snoc (l:List TbM) (t:TbM):tbcells (l ++ [t])=tbcells l ++ t.cells:=by simp[tbcells]
theorem txcells_snoc (l:List TxM) (t:TxM):txcells (l ++ [t])=txcells l ++ t.cells:=by simp[txcells]
section
variable {V W W' : World} {g rb cb : Nat} {m : CatM}
theorem CtAt.cne (h:CtAt V W g rb cb m):cb≠g:=by have:=h.st.lt;have:=h.ge;omega
theorem CtAt.next (h:CtAt V W g rb cb m) (k:GSt W W' g):CtAt V W' g rb cb m :=
 ⟨h.st.trans k,k.bk h.res h.rne,h.rlt,h.rne,k.bk h.bx h.cne,h.ge,h.ok.keeps fun t h1 _=>k.keep h.st.ok t h1⟩
theorem CtAt.below (h:CtAt V W g rb cb m) (hb:Below W.heap.size W W'):CtAt V W' g rb cb m:=h.next ((GSt.refl h.st.ok).below hb)
theorem CtAt.addI {n:Nat} {A':Option Addr} {k' c':Nat} {t:It} (h:CtAt V W g rb cb m) (ho:W.ownsRow V.heap.size 42 7 (.slice m.si.A m.si.n m.si.c) n (icells m.items)) (hg:W.grownBy W' (Value.slice m.si.A m.si.n m.si.c).ownBlock)
 (hn:W'.ownsRow V.heap.size 42 7 (.slice A' k' c') k' (icells (m.items ++ [t]))) (hk:k'=(m.items ++ [t]).length) (hsm:k'<=100000) (ht:t.name.size<=8192) :
 Bk W' cb 28 (catSL m.si m.sr m.st m.sx)∧CtAt V (W'.setCell ⟨cb,0,none⟩ (.slice A' k' c')) g rb cb { m with items:=m.items ++ [t],si:=⟨A',k',c'⟩ } ∧ (W'.setCell ⟨cb,0,none⟩ (.slice A' k' c')).ownsRow V.heap.size 42 7 (.slice A' k' c') k' (icells (m.items ++ [t])):=by
 have hbase:=row_base ho;have hr:=h.rlt;have hge:=h.ge;have kb:=h.bx.grown hg (fun e=>row_neT ho h.bx (by decide) e.symm);have kp:∀q,(42:TypeId)≠q->Keep q W W':=fun q hq=>Keep.own ho hg hq
 have ks:∀q,(28:TypeId)≠q->Keep q W' (W'.setCell ⟨cb,0,none⟩ (.slice A' k' c')):=fun q hq=>Keep.setCell kb hq _
 refine⟨kb,⟨(h.st.grow hg hbase).set _ _ _ h.ge,(h.res.grown hg (fun e=>by have:=hbase rb e.symm;omega)).far (by simp;omega) _,h.rlt,h.rne,kb.set 0 _,h.ge,?_⟩,hn.kept (grown_setCell W' cb 0 _) (.inr (row_neT hn kb (by decide)))⟩;exact⟨⟨(TRow.of_own hn).keep (ks 42 (by decide)),hk,hsm,fun x hx=>by
  rcases List.mem_append.1 hx with h1|h1
  ·exact h.ok.items.each x h1
  ·rw[List.mem_singleton.1 h1];exact ht⟩,(h.ok.rules.keep (kp 149 (by decide)) (kp 151 (by decide))).keep (ks 149 (by decide)) (ks 151 (by decide)),(h.ok.tables.keep (kp 173 (by decide)) (kp 175 (by decide)) (kp 151 (by decide))).keep (ks 173 (by decide)) (ks 175 (by decide)) (ks 151 (by decide)),(h.ok.taxes.keep (kp 93 (by decide)) (kp 186 (by decide))).keep (ks 93 (by decide)) (ks 186 (by decide))⟩
theorem CtAt.addR {n:Nat} {A':Option Addr} {k' c':Nat} {t:RuM} (h:CtAt V W g rb cb m) (ho:W.ownsRow V.heap.size 149 9 (.slice m.sr.A m.sr.n m.sr.c) n (rucells m.rules)) (hg:W.grownBy W' (Value.slice m.sr.A m.sr.n m.sr.c).ownBlock)
 (hn:W'.ownsRow V.heap.size 149 9 (.slice A' k' c') k' (rucells (m.rules ++ [t]))) (hk:k'=(m.rules ++ [t]).length) (hsm:k'<=100000) (ht:t.Ok W') :
 Bk W' cb 28 (catSL m.si m.sr m.st m.sx)∧CtAt V (W'.setCell ⟨cb,1,none⟩ (.slice A' k' c')) g rb cb { m with rules:=m.rules ++ [t],sr:=⟨A',k',c'⟩ } ∧ (W'.setCell ⟨cb,1,none⟩ (.slice A' k' c')).ownsRow V.heap.size 149 9 (.slice A' k' c') k' (rucells (m.rules ++ [t])):=by
 have hbase:=row_base ho;have hr:=h.rlt;have hge:=h.ge;have kb:=h.bx.grown hg (fun e=>row_neT ho h.bx (by decide) e.symm);have kp:∀q,(149:TypeId)≠q->Keep q W W':=fun q hq=>Keep.own ho hg hq
 have ks:∀q,(28:TypeId)≠q->Keep q W' (W'.setCell ⟨cb,1,none⟩ (.slice A' k' c')):=fun q hq=>Keep.setCell kb hq _
 refine⟨kb,⟨(h.st.grow hg hbase).set _ _ _ h.ge,(h.res.grown hg (fun e=>by have:=hbase rb e.symm;omega)).far (by simp;omega) _,h.rlt,h.rne,kb.set 1 _,h.ge,?_⟩,hn.kept (grown_setCell W' cb 1 _) (.inr (row_neT hn kb (by decide)))⟩;exact⟨(h.ok.items.keep (kp 42 (by decide))).keep (ks 42 (by decide)),⟨(TRow.of_own hn).keep (ks 149 (by decide)),hk,hsm,fun x hx=>by
  rcases List.mem_append.1 hx with h1|h1
  ·exact((h.ok.rules.each x h1).keep (kp 151 (by decide))).keep (ks 151 (by decide))
  ·rw[List.mem_singleton.1 h1];exact ht.keep (ks 151 (by decide))⟩,(h.ok.tables.keep (kp 173 (by decide)) (kp 175 (by decide)) (kp 151 (by decide))).keep (ks 173 (by decide)) (ks 175 (by decide)) (ks 151 (by decide)),(h.ok.taxes.keep (kp 93 (by decide)) (kp 186 (by decide))).keep (ks 93 (by decide)) (ks 186 (by decide))⟩
theorem CtAt.addT {n:Nat} {A':Option Addr} {k' c':Nat} {t:TbM} (h:CtAt V W g rb cb m) (ho:W.ownsRow V.heap.size 173 2 (.slice m.st.A m.st.n m.st.c) n (tbcells m.tables)) (hg:W.grownBy W' (Value.slice m.st.A m.st.n m.st.c).ownBlock)
 (hn:W'.ownsRow V.heap.size 173 2 (.slice A' k' c') k' (tbcells (m.tables ++ [t]))) (hk:k'=(m.tables ++ [t]).length) (hsm:k'<=100000) (ht:t.Ok W') :
 Bk W' cb 28 (catSL m.si m.sr m.st m.sx)∧CtAt V (W'.setCell ⟨cb,2,none⟩ (.slice A' k' c')) g rb cb { m with tables:=m.tables ++ [t],st:=⟨A',k',c'⟩ } ∧ (W'.setCell ⟨cb,2,none⟩ (.slice A' k' c')).ownsRow V.heap.size 173 2 (.slice A' k' c') k' (tbcells (m.tables ++ [t])):=by
 have hbase:=row_base ho;have hr:=h.rlt;have hge:=h.ge;have kb:=h.bx.grown hg (fun e=>row_neT ho h.bx (by decide) e.symm);have kp:∀q,(173:TypeId)≠q->Keep q W W':=fun q hq=>Keep.own ho hg hq
 have ks:∀q,(28:TypeId)≠q->Keep q W' (W'.setCell ⟨cb,2,none⟩ (.slice A' k' c')):=fun q hq=>Keep.setCell kb hq _
 refine⟨kb,⟨(h.st.grow hg hbase).set _ _ _ h.ge,(h.res.grown hg (fun e=>by have:=hbase rb e.symm;omega)).far (by simp;omega) _,h.rlt,h.rne,kb.set 2 _,h.ge,?_⟩,hn.kept (grown_setCell W' cb 2 _) (.inr (row_neT hn kb (by decide)))⟩;exact⟨(h.ok.items.keep (kp 42 (by decide))).keep (ks 42 (by decide)),(h.ok.rules.keep (kp 149 (by decide)) (kp 151 (by decide))).keep (ks 149 (by decide)) (ks 151 (by decide)),⟨(TRow.of_own hn).keep (ks 173 (by decide)),hk,hsm,fun x hx=>by
  rcases List.mem_append.1 hx with h1|h1
  ·exact⟨((h.ok.tables.each x h1).rows.keep (kp 175 (by decide)) (kp 151 (by decide))).keep (ks 175 (by decide)) (ks 151 (by decide)),(h.ok.tables.each x h1).name⟩
  ·rw[List.mem_singleton.1 h1];exact⟨ht.rows.keep (ks 175 (by decide)) (ks 151 (by decide)),ht.name⟩⟩,(h.ok.taxes.keep (kp 93 (by decide)) (kp 186 (by decide))).keep (ks 93 (by decide)) (ks 186 (by decide))⟩
theorem CtAt.addX {n:Nat} {A':Option Addr} {k' c':Nat} {t:TxM} (h:CtAt V W g rb cb m) (ho:W.ownsRow V.heap.size 93 2 (.slice m.sx.A m.sx.n m.sx.c) n (txcells m.taxes)) (hg:W.grownBy W' (Value.slice m.sx.A m.sx.n m.sx.c).ownBlock)
 (hn:W'.ownsRow V.heap.size 93 2 (.slice A' k' c') k' (txcells (m.taxes ++ [t]))) (hk:k'=(m.taxes ++ [t]).length) (hsm:k'<=100000) (ht:t.Ok W') :
 Bk W' cb 28 (catSL m.si m.sr m.st m.sx)∧CtAt V (W'.setCell ⟨cb,3,none⟩ (.slice A' k' c')) g rb cb { m with taxes:=m.taxes ++ [t],sx:=⟨A',k',c'⟩ } ∧ (W'.setCell ⟨cb,3,none⟩ (.slice A' k' c')).ownsRow V.heap.size 93 2 (.slice A' k' c') k' (txcells (m.taxes ++ [t])):=by
 have hbase:=row_base ho;have hr:=h.rlt;have hge:=h.ge;have kb:=h.bx.grown hg (fun e=>row_neT ho h.bx (by decide) e.symm);have kp:∀q,(93:TypeId)≠q->Keep q W W':=fun q hq=>Keep.own ho hg hq
 have ks:∀q,(28:TypeId)≠q->Keep q W' (W'.setCell ⟨cb,3,none⟩ (.slice A' k' c')):=fun q hq=>Keep.setCell kb hq _
 refine⟨kb,⟨(h.st.grow hg hbase).set _ _ _ h.ge,(h.res.grown hg (fun e=>by have:=hbase rb e.symm;omega)).far (by simp;omega) _,h.rlt,h.rne,kb.set 3 _,h.ge,?_⟩,hn.kept (grown_setCell W' cb 3 _) (.inr (row_neT hn kb (by decide)))⟩;exact⟨(h.ok.items.keep (kp 42 (by decide))).keep (ks 42 (by decide)),(h.ok.rules.keep (kp 149 (by decide)) (kp 151 (by decide))).keep (ks 149 (by decide)) (ks 151 (by decide)),(h.ok.tables.keep (kp 173 (by decide)) (kp 175 (by decide)) (kp 151 (by decide))).keep (ks 173 (by decide)) (ks 175 (by decide)) (ks 151 (by decide)),⟨(TRow.of_own hn).keep (ks 93 (by decide)),hk,hsm,fun x hx=>by
  rcases List.mem_append.1 hx with h1|h1
  ·exact⟨((h.ok.taxes.each x h1).brs.keep (kp 186 (by decide))).keep (ks 186 (by decide)),(h.ok.taxes.each x h1).name⟩
  ·rw[List.mem_singleton.1 h1];exact⟨ht.brs.keep (ks 186 (by decide)),ht.name⟩⟩⟩
end
end
section
theorem trow_str {W:World} {b off:Nat} {l:List ByteArray} (h:TRow W 9 (some ⟨b,off,none⟩) (strs l)) (k:Nat) (hk:k<l.length):W.cell? ⟨b,off+k,none⟩=some (.string l[k]):=by
 obtain⟨b',off',hA,hb,hc⟩:=h.row.at_ k (by simpa[strs]using hk);cases hA;exact hc k _ (by simp[strs,hk])
theorem trow_some {W:World} {A:Option Addr} {l:List ByteArray} (h:TRow W 9 A (strs l)) (hl:0<l.length):∃b off,A=some ⟨b,off,none⟩∧b<W.heap.size:=by
 obtain⟨b',off',hA,hb,hc⟩:=h.row.at_ 0 (by simpa[strs]using hl);exact⟨b',off',hA,hb⟩
theorem GSt.keeps {V W:World} {g:Nat} (h:GSt V W g) (hg:GOk V g):∀q,q≠180->Keep q V W:=fun q hq=>h.keep hg q hq
structure CtI (V W : World) (g rb cb : Nat) (m : CatM) : Prop where
 ct:CtAt V W g rb cb m
 own:W.ownsRow V.heap.size 42 7 (.slice m.si.A m.si.n m.si.c) m.items.length (icells m.items)
section
variable {V W W' : World} {g rb cb : Nat} {m : CatM}
theorem CtI.next (h:CtI V W g rb cb m) (k:GSt W W' g):CtI V W' g rb cb m :=
 ⟨h.ct.next k,k.own h.own (fun e=>by have:=row_base h.own g e;have:=h.ct.st.lt;omega)⟩
theorem CtI.below (h:CtI V W g rb cb m) (hb:Below W.heap.size W W'):CtI V W' g rb cb m:=h.next ((GSt.refl h.ct.st.ok).below hb)
theorem CtI.app {A':Option Addr} {k' c':Nat} {t:It} (h:CtI V W g rb cb m) (hg:W.grownBy W' (Value.slice m.si.A m.si.n m.si.c).ownBlock)
 (hn:W'.ownsRow V.heap.size 42 7 (.slice A' k' c') k' (icells (m.items ++ [t]))) (hk:k'=m.items.length+1) (hsm:k'<=100000) (ht:t.name.size<=8192) :
 Bk W' cb 28 (catSL m.si m.sr m.st m.sx)∧(∀q,42≠q->Keep q W W')∧(∀q,28≠q->Keep q W' (W'.setCell ⟨cb,0,none⟩ (.slice A' k' c')))∧CtI V (W'.setCell ⟨cb,0,none⟩ (.slice A' k' c')) g rb cb { m with items:=m.items ++ [t],si:=⟨A',k',c'⟩ }:=by
 have hk2:k'=(m.items ++ [t]).length:=by simpa using hk
 obtain⟨h1,h2,h3⟩:=h.ct.addI h.own hg hn hk2 hsm ht;exact⟨h1,fun q hq=>Keep.own h.own hg hq,fun q hq=>Keep.setCell h1 hq _,h2,by rw[hk2]at h3⊢;exact h3⟩
end
structure CtR (V W : World) (g rb cb : Nat) (m : CatM) : Prop where
 ct:CtAt V W g rb cb m
 own:W.ownsRow V.heap.size 149 9 (.slice m.sr.A m.sr.n m.sr.c) m.rules.length (rucells m.rules)
section
variable {V W W' : World} {g rb cb : Nat} {m : CatM}
theorem CtR.next (h:CtR V W g rb cb m) (k:GSt W W' g):CtR V W' g rb cb m :=
 ⟨h.ct.next k,k.own h.own (fun e=>by have:=row_base h.own g e;have:=h.ct.st.lt;omega)⟩
theorem CtR.below (h:CtR V W g rb cb m) (hb:Below W.heap.size W W'):CtR V W' g rb cb m:=h.next ((GSt.refl h.ct.st.ok).below hb)
theorem CtR.app {A':Option Addr} {k' c':Nat} {t:RuM} (h:CtR V W g rb cb m) (hg:W.grownBy W' (Value.slice m.sr.A m.sr.n m.sr.c).ownBlock)
 (hn:W'.ownsRow V.heap.size 149 9 (.slice A' k' c') k' (rucells (m.rules ++ [t]))) (hk:k'=m.rules.length+1) (hsm:k'<=100000) (ht:t.Ok W') :
 Bk W' cb 28 (catSL m.si m.sr m.st m.sx)∧(∀q,149≠q->Keep q W W')∧(∀q,28≠q->Keep q W' (W'.setCell ⟨cb,1,none⟩ (.slice A' k' c')))∧CtR V (W'.setCell ⟨cb,1,none⟩ (.slice A' k' c')) g rb cb { m with rules:=m.rules ++ [t],sr:=⟨A',k',c'⟩ }:=by
 have hk2:k'=(m.rules ++ [t]).length:=by simpa using hk
 obtain⟨h1,h2,h3⟩:=h.ct.addR h.own hg hn hk2 hsm ht;exact⟨h1,fun q hq=>Keep.own h.own hg hq,fun q hq=>Keep.setCell h1 hq _,h2,by rw[hk2]at h3⊢;exact h3⟩
end
structure CtT (V W : World) (g rb cb : Nat) (m : CatM) : Prop where
 ct:CtAt V W g rb cb m
 own:W.ownsRow V.heap.size 173 2 (.slice m.st.A m.st.n m.st.c) m.tables.length (tbcells m.tables)
section
variable {V W W' : World} {g rb cb : Nat} {m : CatM}
theorem CtT.next (h:CtT V W g rb cb m) (k:GSt W W' g):CtT V W' g rb cb m :=
 ⟨h.ct.next k,k.own h.own (fun e=>by have:=row_base h.own g e;have:=h.ct.st.lt;omega)⟩
theorem CtT.below (h:CtT V W g rb cb m) (hb:Below W.heap.size W W'):CtT V W' g rb cb m:=h.next ((GSt.refl h.ct.st.ok).below hb)
theorem CtT.app {A':Option Addr} {k' c':Nat} {t:TbM} (h:CtT V W g rb cb m) (hg:W.grownBy W' (Value.slice m.st.A m.st.n m.st.c).ownBlock)
 (hn:W'.ownsRow V.heap.size 173 2 (.slice A' k' c') k' (tbcells (m.tables ++ [t]))) (hk:k'=m.tables.length+1) (hsm:k'<=100000) (ht:t.Ok W') :
 Bk W' cb 28 (catSL m.si m.sr m.st m.sx)∧(∀q,173≠q->Keep q W W')∧(∀q,28≠q->Keep q W' (W'.setCell ⟨cb,2,none⟩ (.slice A' k' c')))∧CtT V (W'.setCell ⟨cb,2,none⟩ (.slice A' k' c')) g rb cb { m with tables:=m.tables ++ [t],st:=⟨A',k',c'⟩ }:=by
 have hk2:k'=(m.tables ++ [t]).length:=by simpa using hk
 obtain⟨h1,h2,h3⟩:=h.ct.addT h.own hg hn hk2 hsm ht;exact⟨h1,fun q hq=>Keep.own h.own hg hq,fun q hq=>Keep.setCell h1 hq _,h2,by rw[hk2]at h3⊢;exact h3⟩
end
structure CtX (V W : World) (g rb cb : Nat) (m : CatM) : Prop where
 ct:CtAt V W g rb cb m
 own:W.ownsRow V.heap.size 93 2 (.slice m.sx.A m.sx.n m.sx.c) m.taxes.length (txcells m.taxes)
section
variable {V W W' : World} {g rb cb : Nat} {m : CatM}
theorem CtX.next (h:CtX V W g rb cb m) (k:GSt W W' g):CtX V W' g rb cb m :=
 ⟨h.ct.next k,k.own h.own (fun e=>by have:=row_base h.own g e;have:=h.ct.st.lt;omega)⟩
theorem CtX.below (h:CtX V W g rb cb m) (hb:Below W.heap.size W W'):CtX V W' g rb cb m:=h.next ((GSt.refl h.ct.st.ok).below hb)
theorem CtX.app {A':Option Addr} {k' c':Nat} {t:TxM} (h:CtX V W g rb cb m) (hg:W.grownBy W' (Value.slice m.sx.A m.sx.n m.sx.c).ownBlock)
 (hn:W'.ownsRow V.heap.size 93 2 (.slice A' k' c') k' (txcells (m.taxes ++ [t]))) (hk:k'=m.taxes.length+1) (hsm:k'<=100000) (ht:t.Ok W') :
 Bk W' cb 28 (catSL m.si m.sr m.st m.sx)∧(∀q,93≠q->Keep q W W')∧(∀q,28≠q->Keep q W' (W'.setCell ⟨cb,3,none⟩ (.slice A' k' c')))∧CtX V (W'.setCell ⟨cb,3,none⟩ (.slice A' k' c')) g rb cb { m with taxes:=m.taxes ++ [t],sx:=⟨A',k',c'⟩ }:=by
 have hk2:k'=(m.taxes ++ [t]).length:=by simpa using hk
 obtain⟨h1,h2,h3⟩:=h.ct.addX h.own hg hn hk2 hsm ht;exact⟨h1,fun q hq=>Keep.own h.own hg hq,fun q hq=>Keep.setCell h1 hq _,h2,by rw[hk2]at h3⊢;exact h3⟩
end
end
section
def pool1:List ByteArray:=[⟨#[103,111,108,100]⟩,⟨#[105,114,111,110]⟩,⟨#[111,114,101]⟩,⟨#[99,111,97,108]⟩,⟨#[115,119,111,114,100]⟩,⟨#[119,97,116,101,114]⟩,⟨#[103,101,109]⟩,⟨#[97,120,101]⟩]
def stone:ByteArray:=⟨#[115,116,111,110,101]⟩
abbrev sl0:Sl:=⟨none,0,0⟩
theorem info89g:(Tryz.prog.info? 42).map (fun i=>(i.zero,i.size,i.bytes))=some (some (.agg #[.string ⟨#[]⟩,.bool false,.bool false,.bool false,.int .i64 0,.int .i64 0,.int .i64 0]),7,48):=by kernel_rfl
theorem poolN_short {pool:List ByteArray} (h:∀s∈pool,s.size<=8192) (turn n:Nat):∀s∈poolN pool turn n,s.size<=8192:=by
 intro s hs;simp only[poolN,List.mem_map]at hs;obtain⟨i,_,rfl⟩:=hs;by_cases hl:(i+turn) % pool.length<pool.length
 ·simp only[List.getElem?_eq_getElem hl,Option.getD_some];exact h _ (List.getElem_mem hl)
 ·rw[List.getElem?_eq_none (by omega)];show(0:Nat)<=8192;omega
theorem one7 (t:It):∀u∈([.string t.name,.bool t.object,.bool t.mixed,.bool t.coin,.int .i64 t.wear,.int .i64 t.bnd,.int .i64 t.level]:List Value),u.oneCell'=true:=by
 intro u hu;simp only[List.mem_cons,List.not_mem_nil,or_false]at hu;rcases hu with rfl|rfl|rfl|rfl|rfl|rfl|rfl <;> rfl
theorem new7 (w:World) (t:TypeId) (a b c d e f g:Value):∀j u,([a,b,c,d,e,f,g]:List Value)[j]? = some u->(w.alloc (.cells #[a,b,c,d,e,f,g] t)).cell? ((⟨w.heap.size,0,none⟩:Addr).add j)=some u:=by
 intro j u hj
 match j,hj with
 | 0,hj=>simp at hj;subst hj;simp[Addr.add]
 | 1,hj=>simp at hj;subst hj;simp[Addr.add]
 | 2,hj=>simp at hj;subst hj;simp[Addr.add]
 | 3,hj=>simp at hj;subst hj;simp[Addr.add]
 | 4,hj=>simp at hj;subst hj;simp[Addr.add]
 | 5,hj=>simp at hj;subst hj;simp[Addr.add]
 | 6,hj=>simp at hj;subst hj;simp[Addr.add]
 | j+7,hj=>simp at hj
def isWd (s:ByteArray):Bool:=decide (0<s.size) && decide (s.size<=16) && (kindAt s 0 == 3) && (List.range s.size).all fun i=>wordB (kindAt s i)
theorem runEnd_all {f:Int->Bool} {s:ByteArray} (h:∀i,i<s.size->f (kindAt s i)=true) (j:Nat) (hj:j<=s.size):runEnd f s j=s.size:=by
 induction hm:s.size-j using Nat.strongRecOn generalizing j with
 | _ m ih =>
   by_cases hlt:j<s.size
   ·rw[runEnd_go hlt (h j hlt)];exact ih (s.size-(j+1)) (by omega) (j+1) (by omega) rfl
   ·rw[runEnd_end (by omega)];omega
theorem fitG_word {s:ByteArray} (h:isWd s=true):fitG s=true:=by
 simp only[isWd,Bool.and_eq_true,decide_eq_true_eq,beq_iff_eq,List.all_eq_true,List.mem_range]at h;obtain⟨⟨⟨h0,h1⟩,h2⟩,h3⟩:=h;have e1:runEnd wordB s (0+1)=s.size:=runEnd_all h3 _ (by omega);have e2:s.extract 0 s.size=s:=ByteArray.extract_zero_size;have e3:nextT s 0=⟨0,s,0,0,0⟩:=by
  unfold nextT;rw[if_pos h2,e1,if_neg (by omega),e2];rfl
 have e4:skipS s 0=0:=skipS_stay (by rw[h2];decide) (by rw[h2];decide);have e5:toks s=[⟨0,s,0,0,0⟩]:=by
  unfold toks;rw[e4];unfold toksFrom;rw[dif_pos h0,e3];dsimp only;rw[if_pos rfl,Nat.zero_add,skipS_end (Nat.le_refl _),if_pos h0];unfold toksFrom;rw[dif_neg (by omega)]
 unfold fitG;rw[e5];simp
def ItsOk (items:List It) (nl:List ByteArray):Prop:=items.map It.name=nl∧items.all itFormedB=true∧items.all itRangeB=true
theorem ItsOk.nil:ItsOk [] []:=⟨rfl,rfl,rfl⟩
theorem ItsOk.snoc {items:List It} {nl:List ByteArray} {t:It} {s:ByteArray} (h:ItsOk items nl) (hn:t.name=s) (hf:itFormedB t=true) (hr:itRangeB t=true):ItsOk (items ++ [t]) (nl ++ [s]) :=
 ⟨by rw[List.map_append,h.1,<- hn];rfl,by rw[List.all_append,h.2.1];simp[hf],by rw[List.all_append,h.2.2];simp[hr]⟩
theorem ItsOk.len {items:List It} {nl:List ByteArray} (h:ItsOk items nl):items.length=nl.length:=by rw[<- h.1];simp
def RusOk (n:Nat) (rules:List RuM) (nl:List ByteArray):Prop:=rules.map RuM.name=nl∧rules.all (wfR n)=true∧rules.all rgR=true∧rules.all ruLim=true∧∀r∈rules,ruSmall 3 r
theorem RusOk.nil (n:Nat):RusOk n [] []:=⟨rfl,rfl,rfl,rfl,by simp⟩
theorem RusOk.snoc {n:Nat} {rules:List RuM} {nl:List ByteArray} {r:RuM} {s:ByteArray} (h:RusOk n rules nl) (hn:r.name=s) (h1:wfR n r=true) (h2:rgR r=true) (h3:ruLim r=true) (h4:ruSmall 3 r):RusOk n (rules ++ [r]) (nl ++ [s]) :=
 ⟨by rw[List.map_append,h.1,<- hn];rfl,by rw[List.all_append,h.2.1];simp[h1],by rw[List.all_append,h.2.2.1];simp[h2],by rw[List.all_append,h.2.2.2.1];simp[h3],fun x hx=>by
  rcases List.mem_append.1 hx with hx|hx
  ·exact h.2.2.2.2 x hx
  ·rw[List.mem_singleton.1 hx];exact h4⟩
theorem RusOk.len {n:Nat} {rules:List RuM} {nl:List ByteArray} (h:RusOk n rules nl):rules.length=nl.length:=by rw[<- h.1];simp
theorem spawn_ok {n:Nat} {gv:List P2} (s:ByteArray) (sg:Sl) (h:Am n gv) (hl:gv.length<=3):wfR n ⟨s,true,0,0,1,1,[],gv,[],sl0,sg,sl0⟩=true∧rgR ⟨s,true,0,0,1,1,[],gv,[],sl0,sg,sl0⟩=true∧ruLim ⟨s,true,0,0,1,1,[],gv,[],sl0,sg,sl0⟩=true∧ruSmall 3 ⟨s,true,0,0,1,1,[],gv,[],sl0,sg,sl0⟩:=by
 refine⟨?_,?_,?_,⟨by simp,hl,by simp⟩⟩
 ·show(sortB n [] && sortB n gv && sortB n [] && formR 0 0 true 0 0 1 1 && contB [] [])=true;rw[h.sort];rfl
 ·show([].all unitP && gv.all unitP && [].all unitP && ruRange ⟨s,true,0,0,1,1,[],gv,[],sl0,sg,sl0⟩)=true;rw[h.units];rfl
 ·show(decide (0+gv.length<=64) && decide (0+0<=64))=true;rw[decide_eq_true (show 0+gv.length<=64 by omega)];rfl
def RwsOk (n:Nat) (rows:List RwM):Prop:=(rows.all fun r=>sortB n r.give)=true∧rows.all wtP=true∧(rows.all fun r=>r.give.all unitP)=true∧∀r∈rows,r.give.length<=3
theorem RwsOk.nil (n:Nat):RwsOk n []:=⟨rfl,rfl,rfl,by simp⟩
theorem RwsOk.snoc {n:Nat} {rows:List RwM} {wt:Int} {gv:List P2} {s:Sl} (h:RwsOk n rows) (hA:Am n gv) (hl:gv.length<=3) (h1:1<=wt) (h2:wt<=1099511627776):RwsOk n (rows ++ [⟨wt,gv,s⟩]):=by
 refine⟨by rw[List.all_append,h.1];simp[hA.sort],?_,by rw[List.all_append,h.2.2.1];simpa using hA.units,fun x hx=>by
  rcases List.mem_append.1 hx with hx|hx
  ·exact h.2.2.2 x hx
  ·rw[List.mem_singleton.1 hx];exact hl⟩
 rw[List.all_append,h.2.1];have:wtP ⟨wt,gv,s⟩=true:=by simp only[wtP,Bool.and_eq_true,decide_eq_true_eq];exact⟨h1,h2⟩
 simp[this]
def TbsOk (n:Nat) (tables:List TbM) (nl:List ByteArray):Prop:=tables.map TbM.name=nl∧tables.all (wfT n)=true∧tables.all rgT=true∧tables.all tbLim=true∧∀t∈tables,∀r∈t.rows,r.give.length<=3
theorem TbsOk.nil (n:Nat):TbsOk n [] []:=⟨rfl,rfl,rfl,rfl,by simp⟩
theorem TbsOk.snoc {n:Nat} {tables:List TbM} {nl:List ByteArray} {nm:ByteArray} {rows:List RwM} {s:Sl} (h:TbsOk n tables nl) (hr:RwsOk n rows) (h0:0<rows.length) (h1:rows.length<=64):TbsOk n (tables ++ [⟨nm,rows,s⟩]) (nl ++ [nm]):=by
 have e1:wfT n ⟨nm,rows,s⟩=true:=by
  show(decide (0<rows.length) && (rows.all fun r=>sortB n r.give))=true;rw[decide_eq_true h0,hr.1];rfl
 have e2:rgT ⟨nm,rows,s⟩=true:=by
  show(rows.all wtP && (rows.all fun r=>r.give.all unitP))=true;rw[hr.2.1,hr.2.2.1];rfl
 have e3:tbLim ⟨nm,rows,s⟩=true:=decide_eq_true h1;exact⟨by rw[List.map_append,h.1];rfl,by rw[List.all_append,h.2.1];simp[e1],by rw[List.all_append,h.2.2.1];simp[e2],by rw[List.all_append,h.2.2.2.1];simp[e3],fun x hx=>by
  rcases List.mem_append.1 hx with hx|hx
  ·exact h.2.2.2.2 x hx
  ·rw[List.mem_singleton.1 hx];exact hr.2.2.2⟩
theorem TbsOk.len {n:Nat} {tables:List TbM} {nl:List ByteArray} (h:TbsOk n tables nl):tables.length=nl.length:=by rw[<- h.1];simp
def BrsOk (brs:List P2):Prop:=brs≠[]∧formedB brs=true∧brs.all txP=true∧0<=fromAt brs (brs.length-1)∧fromAt brs (brs.length-1)<=500*brs.length
theorem BrsOk.one {p:Int} (h0:0<=p) (h1:p<=10000):BrsOk [(0,p)]:=by
 refine⟨by simp,rfl,?_,by show(0:Int)<=0;omega,by show(0:Int)<=500*1;omega⟩;show(txP (0,p) && true)=true;simp only[txP,Bool.and_eq_true,decide_eq_true_eq];refine⟨⟨⟨⟨by omega,by omega⟩,h0⟩,h1⟩,trivial⟩
theorem fromAt_left {brs:List P2} {q:P2} {i:Nat} (h:i<brs.length):fromAt (brs ++ [q]) i=fromAt brs i:=by
 unfold fromAt;rw[List.getElem?_append_left h]
theorem fromAt_new (brs:List P2) (q:P2):fromAt (brs ++ [q]) brs.length=q.1:=by
 unfold fromAt;rw[List.getElem?_append_right (Nat.le_refl _)];simp
theorem incB_iff (brs:List P2) (k:Nat):incB brs k=true ↔ ∀i,i<k->i=0∨fromAt brs (i-1)<fromAt brs i:=by
 simp[incB,List.all_eq_true,List.mem_range]
theorem BrsOk.snoc {brs:List P2} {f p:Int} (h:BrsOk brs) (hf:fromAt brs (brs.length-1)<f) (hf2:f<=fromAt brs (brs.length-1)+500) (h0:0<=p) (h1:p<=10000) (hl:brs.length<=100):BrsOk (brs ++ [(f,p)]):=by
 obtain⟨g0,g1,g2,g3,g4⟩:=h;have hpos:0<brs.length:=List.length_pos_iff.2 g0;have hlen:(brs ++ [(f,p)]).length=brs.length+1:=by simp
 simp only[formedB,Bool.and_eq_true,beq_iff_eq]at g1;obtain⟨⟨_,q1⟩,q2⟩:=g1;refine⟨by simp,?_,?_,?_,?_⟩
 ·simp only[formedB,Bool.and_eq_true,beq_iff_eq];refine⟨⟨by simp,by rw[fromAt_left hpos];exact q1⟩,?_⟩;rw[hlen,incB_iff];rw[incB_iff]at q2;intro i hi;by_cases e:i<brs.length
  ·rw[fromAt_left e,fromAt_left (show i-1<brs.length by omega)];exact q2 i e
  ·obtain rfl:i=brs.length:=by omega
   right;rw[fromAt_new,fromAt_left (by omega)];exact hf
 ·rw[List.all_append,g2];show(true && (txP (f,p) && true))=true;simp only[txP,Bool.and_eq_true,decide_eq_true_eq];refine⟨trivial,⟨⟨⟨by omega,by omega⟩,h0⟩,h1⟩,trivial⟩
 ·rw[hlen,Nat.add_sub_cancel,fromAt_new];show 0<=f;omega
 ·rw[hlen,Nat.add_sub_cancel,fromAt_new];show f<=_;push_cast;omega
theorem BrsOk.pos {brs:List P2} (h:BrsOk brs):0<brs.length:=List.length_pos_iff.2 h.1
def TxsOk (taxes:List TxM) (nl:List ByteArray):Prop:=taxes.map TxM.name=nl∧taxes.all wfX=true∧taxes.all rgX=true∧taxes.all txLim=true
theorem TxsOk.nil:TxsOk [] []:=⟨rfl,rfl,rfl,rfl⟩
theorem TxsOk.snoc {taxes:List TxM} {nl:List ByteArray} {nm:ByteArray} {brs:List P2} {s:Sl} (h:TxsOk taxes nl) (hr:BrsOk brs) (h1:brs.length<=16):TxsOk (taxes ++ [⟨nm,brs,s⟩]) (nl ++ [nm]):=by
 have e1:wfX ⟨nm,brs,s⟩=true:=hr.2.1;have e2:rgX ⟨nm,brs,s⟩=true:=hr.2.2.1;have e3:txLim ⟨nm,brs,s⟩=true:=decide_eq_true h1;exact⟨by rw[List.map_append,h.1];rfl,by rw[List.all_append,h.2.1];simp[e1],by rw[List.all_append,h.2.2.1];simp[e2],by rw[List.all_append,h.2.2.2];simp[e3]⟩
theorem TxsOk.len {taxes:List TxM} {nl:List ByteArray} (h:TxsOk taxes nl):taxes.length=nl.length:=by rw[<- h.1];simp
structure RwAt (V W : World) (g tb : Nat) (nm : ByteArray) (rows : List RwM) (s : Sl) : Prop where
 st:GSt V W g
 bx:Bk W tb 173 [.string nm,.slice s.A s.n s.c]
 ge:V.heap.size<=tb
 own:W.ownsRow V.heap.size 175 2 (.slice s.A s.n s.c) rows.length (rows.flatMap RwM.cells)
 each:∀r∈rows,r.Ok W
section
variable {V W W' : World} {g tb : Nat} {nm : ByteArray} {rows : List RwM} {s : Sl}
theorem RwAt.next (h:RwAt V W g tb nm rows s) (k:GSt W W' g):RwAt V W' g tb nm rows s :=
 ⟨h.st.trans k,k.bk h.bx (by have:=h.st.lt;have:=h.ge;omega),h.ge,k.own h.own (fun e=>by have:=row_base h.own g e;have:=h.st.lt;omega),fun r hr=>PrV.keep (h.each r hr) (k.keep h.st.ok 151 (by decide))⟩
theorem RwAt.below (h:RwAt V W g tb nm rows s) (hb:Below W.heap.size W W'):RwAt V W' g tb nm rows s:=h.next ((GSt.refl h.st.ok).below hb)
theorem RwAt.app {A':Option Addr} {k' c':Nat} {r:RwM} (h:RwAt V W g tb nm rows s) (hg:W.grownBy W' (Value.slice s.A s.n s.c).ownBlock)
 (hn:W'.ownsRow V.heap.size 175 2 (.slice A' k' c') k' ((rows ++ [r]).flatMap RwM.cells)) (hk:k'=rows.length+1) (hr:r.Ok W') :
 Bk W' tb 173 [.string nm,.slice s.A s.n s.c]∧RwAt V (W'.setCell ⟨tb,1,none⟩ (.slice A' k' c')) g tb nm (rows ++ [r]) ⟨A',k',c'⟩:=by
 have hbase:=row_base h.own;have hge:=h.ge;have kb:=h.bx.grown hg (fun e=>row_neT h.own h.bx (by decide) e.symm);have hk2:k'=(rows ++ [r]).length:=by simpa using hk
 have ho:=hn.kept (grown_setCell W' tb 1 (.slice A' k' c')) (.inr (row_neT hn kb (by decide)));refine⟨kb,⟨(h.st.grow hg hbase).set _ _ _ h.ge,kb.set 1 _,h.ge,by rw[<- hk2];exact ho,fun x hx=>?_⟩⟩;rcases List.mem_append.1 hx with hx|hx
 ·exact PrV.keep (PrV.keep (h.each x hx) (Keep.own h.own hg (by decide))) (Keep.setCell kb (by decide) _)
 ·rw[List.mem_singleton.1 hx];exact PrV.keep hr (Keep.setCell kb (by decide) _)
theorem RwAt.len (h:RwAt V W g tb nm rows s):s.n=rows.length:=by
 obtain⟨A,c,e,_⟩:=row_of_owns h.own;exact(Value.slice.inj e).2.1
theorem RwAt.ok (h:RwAt V W g tb nm rows s) (hl:rows.length<=100000) (hn:nm.size<=8192):TbM.Ok W ⟨nm,rows,s⟩:=by
 have hs:=h.len;refine⟨⟨?_,hs,by rw[hs];exact hl,h.each⟩,hn⟩;have:=h.own;rw[<- hs]at this;exact TRow.of_own this
end
structure TxAt (V W : World) (g xb : Nat) (nm : ByteArray) (brs : List P2) (s : Sl) : Prop where
 st:GSt V W g
 bx:Bk W xb 93 [.string nm,.slice s.A s.n s.c]
 ge:V.heap.size<=xb
 own:W.ownsRow V.heap.size 186 2 (.slice s.A s.n s.c) brs.length (pcells brs)
section
variable {V W W' : World} {g xb : Nat} {nm : ByteArray} {brs : List P2} {s : Sl}
theorem TxAt.next (h:TxAt V W g xb nm brs s) (k:GSt W W' g):TxAt V W' g xb nm brs s :=
 ⟨h.st.trans k,k.bk h.bx (by have:=h.st.lt;have:=h.ge;omega),h.ge,k.own h.own (fun e=>by have:=row_base h.own g e;have:=h.st.lt;omega)⟩
theorem TxAt.below (h:TxAt V W g xb nm brs s) (hb:Below W.heap.size W W'):TxAt V W' g xb nm brs s:=h.next ((GSt.refl h.st.ok).below hb)
theorem TxAt.app {A':Option Addr} {k' c':Nat} {r:P2} (h:TxAt V W g xb nm brs s) (hg:W.grownBy W' (Value.slice s.A s.n s.c).ownBlock)
 (hn:W'.ownsRow V.heap.size 186 2 (.slice A' k' c') k' (pcells (brs ++ [r]))) (hk:k'=brs.length+1) :
 Bk W' xb 93 [.string nm,.slice s.A s.n s.c]∧TxAt V (W'.setCell ⟨xb,1,none⟩ (.slice A' k' c')) g xb nm (brs ++ [r]) ⟨A',k',c'⟩:=by
 have hbase:=row_base h.own;have hge:=h.ge;have kb:=h.bx.grown hg (fun e=>row_neT h.own h.bx (by decide) e.symm);have hk2:k'=(brs ++ [r]).length:=by simpa using hk
 have ho:=hn.kept (grown_setCell W' xb 1 (.slice A' k' c')) (.inr (row_neT hn kb (by decide)));exact⟨kb,⟨(h.st.grow hg hbase).set _ _ _ h.ge,kb.set 1 _,h.ge,by rw[<- hk2];exact ho⟩⟩
theorem TxAt.len (h:TxAt V W g xb nm brs s):s.n=brs.length:=by
 obtain⟨A,c,e,_⟩:=row_of_owns h.own;exact(Value.slice.inj e).2.1
theorem txP_in {p:P2} (h:txP p=true):(-9223372036854775808<=p.1∧p.1<=9223372036854775807)∧-9223372036854775808<=p.2∧p.2<=9223372036854775807:=by
 simp only[txP,Bool.and_eq_true,decide_eq_true_eq]at h;omega
theorem TxAt.ok (h:TxAt V W g xb nm brs s) (hl:brs.length<=100000) (hn:nm.size<=8192) (hr:brs.all txP=true):TxM.Ok W ⟨nm,brs,s⟩:=by
 have hs:=h.len;refine⟨⟨?_,hs,by rw[hs];exact hl,fun p hp=>txP_in (List.all_eq_true.1 hr p hp)⟩,hn⟩;have:=h.own;rw[<- hs]at this;exact TRow.of_own this
end
def pool2:List ByteArray:=[⟨#[115,109,101,108,116]⟩,⟨#[102,111,114,103,101]⟩,⟨#[109,101,108,116]⟩,⟨#[98,114,101,119]⟩,⟨#[103,114,105,110,100]⟩]
def pool3:List ByteArray:=[⟨#[114,97,105,110]⟩,⟨#[109,105,110,101]⟩,⟨#[100,105,103]⟩]
def pool4:List ByteArray:=[⟨#[]⟩,⟨#[99,104,101,115,116]⟩,⟨#[104,101,114,98]⟩]
def pool5:List ByteArray:=[⟨#[]⟩,⟨#[115,97,108,101]⟩,⟨#[115,116,97,108,108]⟩]
def downN (pool:List ByteArray) (k j:Nat):List ByteArray:=(List.range (k-j)).map fun r=>pool[k-r]?.getD ⟨#[]⟩
theorem downN_self (pool:List ByteArray) (k:Nat):downN pool k k=[]:=by simp[downN]
theorem downN_next (pool:List ByteArray) {k j:Nat} (h:j+1<=k):downN pool k j=downN pool k (j+1) ++ [pool[j+1]?.getD ⟨#[]⟩]:=by
 have e:k-j=(k-(j+1))+1:=by omega
 unfold downN;rw[e,List.range_succ,List.map_append];simp only[List.map_cons,List.map_nil];rw[show k-(k-(j+1))=j+1 by omega]
theorem pool_words:(pool1 ++ [stone] ++ pool2 ++ pool3 ++ pool4.tail ++ pool5.tail).all isWd=true:=by kernel_rfl
theorem diff1:((List.range 8).all fun t=>(List.range 7).all fun n=>diffB (poolN pool1 t n ++ [stone]))=true:=by kernel_rfl
theorem diff2:((List.range 5).all fun t=>(List.range 5).all fun n=>(List.range 3).all fun u=>(List.range 3).all fun k=>diffB (poolN pool2 t n ++ poolN pool3 u k))=true:=by kernel_rfl
theorem diff4:((List.range 3).all fun k=>diffB (downN pool4 k 0))=true:=by kernel_rfl
theorem diff5:((List.range 3).all fun k=>diffB (downN pool5 k 0))=true:=by kernel_rfl
theorem word4:((List.range 3).all fun k=>(downN pool4 k 0).all isWd)=true:=by kernel_rfl
theorem word5:((List.range 3).all fun k=>(downN pool5 k 0).all isWd)=true:=by kernel_rfl
theorem poolN_mem {pool:List ByteArray} (h:0<pool.length) {turn n:Nat} {s:ByteArray} (hs:s∈poolN pool turn n):s∈pool:=by
 simp only[poolN,List.mem_map]at hs;obtain⟨i,_,rfl⟩:=hs;have hl:=Nat.mod_lt (i+turn) h;simp[List.getElem?_eq_getElem hl]
theorem all_range {n k:Nat} {f:Nat->Bool} (h:(List.range n).all f=true) (hk:k<n):f k=true:=List.all_eq_true.1 h k (List.mem_range.2 hk)
structure CatSm (m : CatM) : Prop where
 code:codeC m=0
 items:2<=m.items.length∧m.items.length<=7
 rules:1<=m.rules.length∧m.rules.length<=6
 tables:m.tables.length<=2
 taxes:m.taxes.length<=2
 short:∀r∈m.rules,ruSmall 3 r
 rows:∀t∈m.tables,∀r∈t.rows,r.give.length<=3
theorem catSm_of {m:CatM} {t1 n1 t2 n2 t3 n3 k4 k5:Nat} (ht1:t1<8) (hn1:n1<=6) (hp1:1<=n1) (ht2:t2<5) (hn2:n2<=4) (hp2:1<=n2) (ht3:t3<3) (hn3:n3<=2) (hk4:k4<3) (hk5:k5<3)
 (hi:ItsOk m.items (poolN pool1 t1 n1 ++ [stone])) (hr:RusOk m.items.length m.rules (poolN pool2 t2 n2 ++ poolN pool3 t3 n3)) (ht:TbsOk m.items.length m.tables (downN pool4 k4 0)) (hx:TxsOk m.taxes (downN pool5 k5 0)):CatSm m:=by
 have l1:=hi.len;have l2:=hr.len;have l4:=ht.len;have l5:=hx.len;simp only[List.length_append,poolN_length,List.length_cons,List.length_nil]at l1 l2;simp only[downN,List.length_map,List.length_range]at l4 l5;have hw:=pool_words;simp only[List.all_append,Bool.and_eq_true]at hw;obtain⟨⟨⟨⟨⟨w1,ws⟩,w2⟩,w3⟩,_⟩,_⟩:=hw;have hdi:diffC m=true:=by
  unfold diffC;rw[hi.1,hr.1,ht.1,hx.1,all_range (all_range diff1 ht1) (show n1<7 by omega),all_range (all_range (all_range (all_range diff2 ht2) (show n2<5 by omega)) ht3) (show n3<3 by omega),all_range diff4 hk4,all_range diff5 hk5];rfl
 have hfit:fitB m=true:=by
  have key:∀l:List ByteArray,(∀s∈l,isWd s=true)->l.all fitG=true:=fun l h=>List.all_eq_true.2 fun s hs=>fitG_word (h s hs)
  have e1:(m.items.all fun t=>fitG t.name)=(m.items.map It.name).all fitG:=by rw[List.all_map];rfl
  have e2:(m.rules.all fun t=>fitG t.name)=(m.rules.map RuM.name).all fitG:=by rw[List.all_map];rfl
  have e3:(m.tables.all fun t=>fitG t.name)=(m.tables.map TbM.name).all fitG:=by rw[List.all_map];rfl
  have e4:(m.taxes.all fun t=>fitG t.name)=(m.taxes.map TxM.name).all fitG:=by rw[List.all_map];rfl
  unfold fitB;rw[e1,e2,e3,e4,hi.1,hr.1,ht.1,hx.1,key _ fun s hs=>?_,key _ fun s hs=>?_,key _ fun s hs=>?_,key _ fun s hs=>?_]
  ·rfl
  ·exact List.all_eq_true.1 (all_range word5 hk5) s hs
  ·exact List.all_eq_true.1 (all_range word4 hk4) s hs
  ·rcases List.mem_append.1 hs with h | h
   ·exact List.all_eq_true.1 w2 s (poolN_mem (by decide) h)
   ·exact List.all_eq_true.1 w3 s (poolN_mem (by decide) h)
  ·rcases List.mem_append.1 hs with h | h
   ·exact List.all_eq_true.1 w1 s (poolN_mem (by decide) h)
   ·exact List.all_eq_true.1 ws s h
 have hlim:limC m=true:=by
  unfold limC;rw[hr.2.2.2.1,ht.2.2.2.1,hx.2.2.2,decide_eq_true (show m.items.length<=64 by omega),decide_eq_true (show m.rules.length<=64 by omega),decide_eq_true (show m.tables.length<=32 by omega),decide_eq_true (show m.taxes.length<=32 by omega)];rfl
 have hwf:wfC m=true:=by
  unfold wfC;rw[hi.2.1,hr.2.1,ht.2.1,hx.2.1];rfl
 have hrg:rgC m=true:=by
  unfold rgC;rw[hi.2.2,hr.2.2.1,ht.2.2.1,hx.2.2.1];rfl
 exact⟨by unfold codeC;rw[hlim,hfit,hdi,hwf,hrg];rfl,⟨by omega,by omega⟩,⟨by omega,by omega⟩,by omega,by omega,hr.2.2.2.2,ht.2.2.2.2⟩
end
theorem wp_region_fr {P:Program} {ops:Array Oper} {Q:Exit->Act->World->Prop} {id:Nat} {fr:Array Value} {w:World} (hm:P.follows .mixedOrders=true) (hd:earlierB ops=true) (I:Array Value->(Nat->Bool)->Act->World->Prop)
 (h0:I fr (fun _=>false) ⟨fr,[]⟩ w.drew)
 (step:∀(i:Nat) (o:Oper) (L:Nat->Bool) (a:Act) (w:World),ops[i]? = some o->L i=false->(∀e∈o.after,Region.binds .any e=true->L e.on=true)->I fr L a w ->
  wpOp P ops Q i (fun a' w'=>I fr (fun j=>L j || j == i) a' w') a w)
 (done:∀(L:Nat->Bool) (a:Act) (w:World),(∀i,i<ops.size->L i=true)->I fr L a w->Q .normal a w):(Code.region id ops true).wp P Q ⟨fr,[]⟩ w :=
 wp_region_inv hm hd (I fr) h0 step done
structure XMid (V : World) (g j : Nat) (nm : ByteArray) (L : Nat -> Bool) (x134 x135 x136 x137 x138 x139 x140 x141 x142 x17 : Value) (W : World) : Prop where
 st:GSt V W g
 l0:L 0=true->∃b,x134=.slice (some ⟨b,0,none⟩) 3 3∧Bk W b 9 (strs pool5)∧V.heap.size<=b
 l1:L 1=true->x135=.int .i64 (j:Int)
 l2:L 2=true->∃b,x136=.pointer (some ⟨b,j,none⟩)∧Bk W b 9 (strs pool5)∧V.heap.size<=b
 l3:L 3=true->x137=.string nm
 l4:L 4=true->x138=.pointer (some ⟨g,0,none⟩)
 l5:L 5=true->∃p,x139=.int .i64 p∧0<=p∧p<2000
 l6:L 6=true->∃p,x140=.agg #[.int .i64 0,.int .i64 p]∧0<=p∧p<2000
 l7:L 7=true->∃b p,x141=.slice (some ⟨b,0,none⟩) 1 1∧Bk W b 186 [.int .i64 0,.int .i64 p]∧V.heap.size<=b∧0<=p∧p<2000
 l8:L 8=true->∃b p,x142=.agg #[.string nm,.slice (some ⟨b,0,none⟩) 1 1]∧Bk W b 186 [.int .i64 0,.int .i64 p]∧V.heap.size<=b∧0<=p∧p<2000
 l9:L 9=true->∃b,x17=.pointer (some ⟨b,0,none⟩)∧Bk W b 93 [.string ⟨#[]⟩,.slice none 0 0]∧V.heap.size<=b
theorem XMid.go {V W W':World} {g j:Nat} {nm:ByteArray} {L:Nat->Bool} {x134 x135 x136 x137 x138 x139 x140 x141 x142 x17:Value} (h:XMid V g j nm L x134 x135 x136 x137 x138 x139 x140 x141 x142 x17 W) (k:GSt W W' g):XMid V g j nm L x134 x135 x136 x137 x138 x139 x140 x141 x142 x17 W' where
 st:=h.st.trans k
 l0:=fun e=>by obtain⟨b,e1,e2,e3⟩:=h.l0 e;exact⟨b,e1,k.bk e2 (by have:=h.st.lt;omega),e3⟩
 l1:=h.l1
 l2:=fun e=>by obtain⟨b,e1,e2,e3⟩:=h.l2 e;exact⟨b,e1,k.bk e2 (by have:=h.st.lt;omega),e3⟩
 l3:=h.l3
 l4:=h.l4
 l5:=h.l5
 l6:=h.l6
 l7:=fun e=>by obtain⟨b,p,e1,e2,e3,e4⟩:=h.l7 e;exact⟨b,p,e1,k.bk e2 (by have:=h.st.lt;omega),e3,e4⟩
 l8:=fun e=>by obtain⟨b,p,e1,e2,e3,e4⟩:=h.l8 e;exact⟨b,p,e1,k.bk e2 (by have:=h.st.lt;omega),e3,e4⟩
 l9:=fun e=>by obtain⟨b,e1,e2,e3⟩:=h.l9 e;exact⟨b,e1,k.bk e2 (by have:=h.st.lt;omega),e3⟩
def XMade (V W:World) (g:Nat) (nm:ByteArray) (x17:Value):Prop :=
 ∃xb b p,x17=.pointer (some ⟨xb,0,none⟩)∧0<=p∧p<2000∧TxAt V W g xb nm [(0,p)] ⟨some ⟨b,0,none⟩,1,1⟩
theorem own_bk2 {w:World} {b base:Nat} {x y:Int} (h:Bk w b 186 [.int .i64 x,.int .i64 y]) (hb:base<=b):w.ownsRow base 186 2 (.slice (some ⟨b,0,none⟩) 1 1) 1 (pcells [(x,y)]) :=
 ⟨rfl,.inr ⟨b,1,#[.int .i64 x,.int .i64 y],rfl,hb,h,by omega,by unfold maxLen;omega,rfl,rfl⟩⟩
theorem XMade.mk {V W:World} {g xb b:Nat} {nm:ByteArray} {p:Int} (st:GSt V W g) (hx:Bk W xb 93 [.string ⟨#[]⟩,.slice none 0 0]) (hg:V.heap.size<=xb) (hb:Bk W b 186 [.int .i64 0,.int .i64 p]) (hg2:V.heap.size<=b) (p0:0<=p) (p1:p<2000) :
 XMade V ((W.setCell ⟨xb,0,none⟩ (.string nm)).setCell ⟨xb,1,none⟩ (.slice (some ⟨b,0,none⟩) 1 1)) g nm (.pointer (some ⟨xb,0,none⟩)):=by
 have hne:b≠xb:=by
  intro e;subst e;unfold Bk at hx hb;rw[hx]at hb;cases hb
 have hb1:Bk (W.setCell ⟨xb,0,none⟩ (.string nm)) b 186 [.int .i64 0,.int .i64 p]:=hb.far hne _;have hb2:=hb1.far (p:=⟨xb,1,none⟩) hne (.slice (some ⟨b,0,none⟩) 1 1);exact⟨xb,b,p,rfl,p0,p1,⟨(st.set _ _ _ hg).set _ _ _ hg,(hx.set 0 _).set 1 _,hg,own_bk2 hb2 hg2⟩⟩
section
abbrev Sd:=List Int×Int
def nx (s:Sd):Sd:=(s.1,IntKind.i64.wrap (s.2+1))
def dr (s:Sd) (m:Int):Int:=pick s.1 (IntKind.i64.wrap (IntKind.i64.wrap (s.2+1)-1)) m
def GOkP (w:World) (g:Nat) (s:Sd):Prop:=∃(A:Option Addr) (n c:Nat),Bk w g 180 [.slice A n c,.int .i64 s.2]∧IntsV w A n s.1∧(∀b off,A=some ⟨b,off,none⟩->b<g)∧In64 s.2
section
variable {w w' V W W' X : World} {g : Nat} {s s' : Sd}
theorem GOkP.st (h:GOkP w g s):GOk w g:=by obtain⟨A,n,c,h1,h2,h3,h4⟩:=h;exact⟨A,n,c,_,_,h1,h2,h3,h4⟩
theorem GOkP.lt (h:GOkP w g s):g<w.heap.size:=h.st.lt
theorem GOkP.below (h:GOkP w g s) (hb:Below w.heap.size w w'):GOkP w' g s:=by
 obtain⟨A,n,c,h1,h2,h3,h4⟩:=h;exact⟨A,n,c,h1.below hb h1.lt,h2.below hb,h3,h4⟩
theorem GOkP.keep {b:Nat} (h:GOkP w g s) (hg:w.grownBy w' (some b)) (hb:g<b):GOkP w' g s:=by
 obtain⟨A,n,c,h1,h2,h3,h4⟩:=h;exact⟨A,n,c,h1.grown hg (by simp;omega),⟨(row_far h2.row hg (fun b' off e=>by have:=h3 b' off e;omega) (Nat.le_refl _)).more hg.size,h2.len,h2.wf⟩,h3,h4⟩
theorem GOkP.row {v:Value} (h:GOkP w g s) (hg:w.grownBy w' v.ownBlock) (hb:∀b,v.ownBlock=some b->g<b):GOkP w' g s:=by
 cases hv:v.ownBlock with
 | none=>rw[hv]at hg;exact h.below ⟨hg.os,hg.tape,hg.output,hg.size,fun b hb=>hg.block b hb (by simp)⟩
 | some b=>rw[hv]at hg;exact h.keep hg (hb b hv)
structure GSp (V W : World) (g : Nat) (s : Sd) : Prop where
 gr:V.grownBy W (some g)
 ok:GOkP W g s
 lt:g<V.heap.size
theorem GSp.st (h:GSp V W g s):GSt V W g:=⟨h.gr,h.ok.st,h.lt⟩
theorem GSp.refl (h:GOkP V g s):GSp V V g s:=⟨⟨rfl,rfl,rfl,Nat.le_refl _,fun _ _ _=>rfl⟩,h,h.lt⟩
theorem GSp.trans (h:GSp V W g s) (k:GSp W X g s'):GSp V X g s':=⟨grown_trans h.gr k.gr,k.ok,h.lt⟩
theorem GSp.size (h:GSp V W g s):V.heap.size<=W.heap.size:=h.gr.size
theorem GSp.below (h:GSp V W g s) (hb:Below W.heap.size W W'):GSp V W' g s:=⟨grown_trans h.gr (grown_of_below hb _),h.ok.below hb,h.lt⟩
theorem GSp.alloc (h:GSp V W g s) (o:Obj):GSp V (W.alloc o) g s:=h.below ((Below.refl _ _).alloc (Nat.le_refl _) o)
theorem GSp.grow {row:Option Nat} (h:GSp V W g s) (hg:W.grownBy W' row) (hr:∀b,row=some b->V.heap.size<=b):GSp V W' g s:=by
 have hlt:=h.lt;refine⟨(h.st.grow hg hr).gr,?_,hlt⟩;cases row with
 | none=>exact h.ok.below ⟨hg.os,hg.tape,hg.output,hg.size,fun b hb=>hg.block b hb (by simp)⟩
 | some b=>exact h.ok.keep hg (by have:=hr b rfl;omega)
theorem GSp.set (h:GSp V W g s) (b k:Nat) (u:Value) (hb:V.heap.size<=b):GSp V (W.setCell ⟨b,k,none⟩ u) g s:=h.grow (grown_setCell W b k u) (fun b' e=>by cases e;exact hb)
theorem GSp.bk (h:GSp V W g s) {b:Nat} {t:TypeId} {xs:List Value} (k:Bk V b t xs) (hne:b≠g):Bk W b t xs:=h.st.bk k hne
theorem GSp.keep (h:GSp V W g s) (hg:GOkP V g s') (t:TypeId) (ht:t≠180):Keep t V W:=h.st.keep hg.st t ht
theorem GSp.own (h:GSp V W g s) {base e size n:Nat} {v:Value} {xs:List Value} (k:V.ownsRow base e size v n xs) (hne:v.ownBlock≠some g):W.ownsRow base e size v n xs:=h.st.own k hne
def NextP (V:World) (g:Nat) (s:Sd) (m:Int) (e:Ending) (W:World):Prop:=∃x,dr s m=x∧e=.returned (.int .i64 x)∧0<=x∧x<m∧GSp V W g (nx s)
theorem next_p (m:Int) (h:GOkP w g s) (m0:1<=m) (m1:m<=9223372036854775807):Calls Tryz.prog 96 #[.pointer (some ⟨g,0,none⟩),.int .i64 m] w (NextP w g s m):=by
 obtain⟨zs,i⟩:=s;obtain⟨A,n,c,h1,h2,h3,h4⟩:=h;dsimp only at h1 h2 h3 h4;have hlt:=h1.lt;have c0:=h1.k0;have c1:=h1.k1;have f1:=h1.frozen 1;obtain⟨i2,hi2⟩:∃i2,IntKind.i64.wrap (i+1)=i2:=⟨_,rfl⟩;obtain⟨i3,hi3⟩:∃i3,IntKind.i64.wrap (i2-1)=i3:=⟨_,rfl⟩;have in3:In64 i3:=by rw[<- hi3];exact in64_wrap _
 have hg:=grown_setCell w g 1 (.int .i64 i2);have hI:IntsV (w.setCell ⟨g,1,none⟩ (.int .i64 i2)) A n zs:=⟨(row_far h2.row hg (fun b' off e=>by have:=h3 b' off e;omega) (Nat.le_refl _)).more hg.size,h2.len,h2.wf⟩;have HG:Hid (GSp w (w.setCell ⟨g,1,none⟩ (.int .i64 i2)) g (zs,i2)):=⟨hg,⟨A,n,c,h1.set 1 _,hI,h3,by dsimp only;rw[<- hi2];exact in64_wrap _⟩,hlt⟩;have HX:Hid (nx (zs,i)=(zs,i2)):=by show nx (zs,i)=(zs,i2);unfold nx;dsimp only;rw[hi2]
 have HD:Hid (dr (zs,i) m=pick zs i3 m):=by show dr (zs,i) m=_;unfold dr;dsimp only;rw[hi2,hi3]
 have HK:Hid (Bk (w.setCell ⟨g,1,none⟩ (.int .i64 i2)) g 180 [.slice A n c,.int .i64 i2]):=h1.set 1 _;have HI:=iH hI;have Hin:=iH in3;clear h1 h2 h3 h4 hg hI in3;go_enter Tryz.func96,Tryz.ntmps96;go_wp2_with fail;obtain⟨W,hW⟩:∃W,w.setCell ⟨g,1,none⟩ (.int .i64 i2)=W:=⟨_,rfl⟩;rw[hW]at HG HK HI⊢;clear hW c0 c1 f1;have d0:=HK.out.k0;have d1:=HK.out.k1;have K:=iH (fun q=>pick_q (c:=c) i3 m HI.out Hin.out m0 m1 q);have p0:=pick_lo zs i3 m m0;have p1:=pick_hi zs i3 m m0;generalize pick zs i3 m=x at *;go_quiet ((go_at_call 17;exact Calls.quiet_of_same (K.out _)));go_wp2;go_ret;exact⟨x,HD.out,rfl,p0,p1,by rw[HX.out];exact HG.out.below (bel_drewN (Below.refl _ _) _)⟩
end
end
end
end Go.Proofs.YtiecjoijnkghbaaGreatDoor
