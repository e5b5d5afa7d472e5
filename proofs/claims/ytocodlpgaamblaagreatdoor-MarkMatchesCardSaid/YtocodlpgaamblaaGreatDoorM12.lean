/- The memory of the generator of catalogs: a catalog in its box, and its rows as they grow. The memory of the generator of catalogs: a catalog in its box, one of its rows being made. The generator of catalogs: what its rows are; a table and a tax in the making; names. The generator of catalogs: a tax and its first bracket, between the operations that make them. List: steps made from numbers. The writer: its builder. The writer's text. reading.New; the tokens of a text. Itoa; the writer's names. What the writer writes: the text of a mark, and whether its names can be read again. -/
import Derived.Test.YtocodlpgaamblaaGreatDoorM3
import Derived.Test.YtocodlpgaamblaaGreatDoorM4
import Derived.Test.YtocodlpgaamblaaGreatDoorM7
import Derived.Test.YtocodlpgaamblaaGreatDoorM8
import Derived.Test.YtocodlpgaamblaaGreatDoorM11
import Derived.Deep.CutBlock
import Derived.Deep.DeepCutAuto
import Derived.Deep.RegionLaw
import Derived.Deep.AppendLies
import Derived.Maps.AppendAt
import Derived.Lib.Builder
import Derived.Lib.AppendStr
import Derived.Lib.UnsafeStr
import Derived.Laws.Externs
import Derived.Test.YtocodlpgaamblaaGreatDoorShelf
import Derived.Lib.ItoaLen
set_option linter.unusedVariables false
set_option linter.unusedSimpArgs false
open Go.RowKit
namespace Go.Proofs.YtocodlpgaamblaaGreatDoor
section
set_option linter.unusedVariables false
set_option linter.unusedSimpArgs false
section
abbrev nil4 : List Value := [.slice none 0 0, .slice none 0 0, .slice none 0 0, .slice none 0 0]
structure CtAt (V W : World) (g rb cb : Nat) (m : CatM) : Prop where
 st : GSt V W g
 res : Bk W rb 28 nil4
 rlt : rb < V.heap.size
 rne : rb ≠ g
 bx : Bk W cb 28 (catSL m.si m.sr m.st m.sx)
 ge : V.heap.size ≤ cb
 ok : m.Ok W
theorem CatM.Ok.keeps {W W' : World} {m : CatM} (h : m.Ok W) (k : ∀ t, t ≠ 73 → t ≠ 28 → Keep t W W') : m.Ok W' :=
 ⟨h.items.keep (k 76 (by decide) (by decide)), h.rules.keep (k 80 (by decide) (by decide)) (k 132 (by decide) (by decide)), h.tables.keep (k 86 (by decide) (by decide)) (k 88 (by decide) (by decide)) (k 132 (by decide) (by decide)), h.taxes.keep (k 93 (by decide) (by decide)) (k 90 (by decide) (by decide))⟩
def rucells (l : List RuM) : List Value := l.flatMap RuM.cells
def tbcells (l : List TbM) : List Value := l.flatMap TbM.cells
def txcells (l : List TxM) : List Value := l.flatMap TxM.cells
theorem rucells_snoc (l : List RuM) (t : RuM) : rucells (l ++ [t]) = rucells l ++ t.cells := by simp [rucells]
theorem tbcells_snoc (l : List TbM) (t : TbM) : tbcells (l ++ [t]) = tbcells l ++ t.cells := by simp [tbcells]
theorem txcells_snoc (l : List TxM) (t : TxM) : txcells (l ++ [t]) = txcells l ++ t.cells := by simp [txcells]
section
variable {V W W' : World} {g rb cb : Nat} {m : CatM}
theorem CtAt.cne (h : CtAt V W g rb cb m) : cb ≠ g := by have := h.st.lt; have := h.ge; omega
theorem CtAt.next (h : CtAt V W g rb cb m) (k : GSt W W' g) : CtAt V W' g rb cb m :=
 ⟨h.st.trans k, k.bk h.res h.rne, h.rlt, h.rne, k.bk h.bx h.cne, h.ge, h.ok.keeps fun t h1 _ => k.keep h.st.ok t h1⟩
theorem CtAt.below (h : CtAt V W g rb cb m) (hb : Below W.heap.size W W') : CtAt V W' g rb cb m := h.next ((GSt.refl h.st.ok).below hb)
theorem CtAt.addI {n : Nat} {A' : Option Addr} {k' c' : Nat} {t : It} (h : CtAt V W g rb cb m) (ho : W.ownsRow V.heap.size 76 7 (.slice m.si.A m.si.n m.si.c) n (icells m.items)) (hg : W.grownBy W' (Value.slice m.si.A m.si.n m.si.c).ownBlock)
 (hn : W'.ownsRow V.heap.size 76 7 (.slice A' k' c') k' (icells (m.items ++ [t]))) (hk : k' = (m.items ++ [t]).length) (hsm : k' ≤ 100000) (ht : t.name.size ≤ 8192) :
 Bk W' cb 28 (catSL m.si m.sr m.st m.sx) ∧ CtAt V (W'.setCell ⟨cb, 0, none⟩ (.slice A' k' c')) g rb cb { m with items := m.items ++ [t], si := ⟨A', k', c'⟩ } ∧ (W'.setCell ⟨cb, 0, none⟩ (.slice A' k' c')).ownsRow V.heap.size 76 7 (.slice A' k' c') k' (icells (m.items ++ [t])) := by
 have hbase := row_base ho
 have hr := h.rlt
 have hge := h.ge
 have kb := h.bx.grown hg (fun e => row_neT ho h.bx (by decide) e.symm)
 have kp : ∀ q, (76 : TypeId) ≠ q → Keep q W W' := fun q hq => Keep.own ho hg hq
 have ks : ∀ q, (28 : TypeId) ≠ q → Keep q W' (W'.setCell ⟨cb, 0, none⟩ (.slice A' k' c')) := fun q hq => Keep.setCell kb hq _
 refine ⟨kb, ⟨(h.st.grow hg hbase).set _ _ _ h.ge, (h.res.grown hg (fun e => by have := hbase rb e.symm; omega)).far (by simp; omega) _, h.rlt, h.rne, kb.set 0 _, h.ge, ?_⟩, hn.kept (grown_setCell W' cb 0 _) (.inr (row_neT hn kb (by decide)))⟩
 exact ⟨⟨(TRow.of_own hn).keep (ks 76 (by decide)), hk, hsm, fun x hx => by
  rcases List.mem_append.1 hx with h1 | h1
  ·exact h.ok.items.each x h1
  ·rw [List.mem_singleton.1 h1]; exact ht⟩, (h.ok.rules.keep (kp 80 (by decide)) (kp 132 (by decide))).keep (ks 80 (by decide)) (ks 132 (by decide)), (h.ok.tables.keep (kp 86 (by decide)) (kp 88 (by decide)) (kp 132 (by decide))).keep (ks 86 (by decide)) (ks 88 (by decide)) (ks 132 (by decide)), (h.ok.taxes.keep (kp 93 (by decide)) (kp 90 (by decide))).keep (ks 93 (by decide)) (ks 90 (by decide))⟩
theorem CtAt.addR {n : Nat} {A' : Option Addr} {k' c' : Nat} {t : RuM} (h : CtAt V W g rb cb m) (ho : W.ownsRow V.heap.size 80 9 (.slice m.sr.A m.sr.n m.sr.c) n (rucells m.rules)) (hg : W.grownBy W' (Value.slice m.sr.A m.sr.n m.sr.c).ownBlock)
 (hn : W'.ownsRow V.heap.size 80 9 (.slice A' k' c') k' (rucells (m.rules ++ [t]))) (hk : k' = (m.rules ++ [t]).length) (hsm : k' ≤ 100000) (ht : t.Ok W') :
 Bk W' cb 28 (catSL m.si m.sr m.st m.sx) ∧ CtAt V (W'.setCell ⟨cb, 1, none⟩ (.slice A' k' c')) g rb cb { m with rules := m.rules ++ [t], sr := ⟨A', k', c'⟩ } ∧ (W'.setCell ⟨cb, 1, none⟩ (.slice A' k' c')).ownsRow V.heap.size 80 9 (.slice A' k' c') k' (rucells (m.rules ++ [t])) := by
 have hbase := row_base ho
 have hr := h.rlt
 have hge := h.ge
 have kb := h.bx.grown hg (fun e => row_neT ho h.bx (by decide) e.symm)
 have kp : ∀ q, (80 : TypeId) ≠ q → Keep q W W' := fun q hq => Keep.own ho hg hq
 have ks : ∀ q, (28 : TypeId) ≠ q → Keep q W' (W'.setCell ⟨cb, 1, none⟩ (.slice A' k' c')) := fun q hq => Keep.setCell kb hq _
 refine ⟨kb, ⟨(h.st.grow hg hbase).set _ _ _ h.ge, (h.res.grown hg (fun e => by have := hbase rb e.symm; omega)).far (by simp; omega) _, h.rlt, h.rne, kb.set 1 _, h.ge, ?_⟩, hn.kept (grown_setCell W' cb 1 _) (.inr (row_neT hn kb (by decide)))⟩
 exact ⟨(h.ok.items.keep (kp 76 (by decide))).keep (ks 76 (by decide)), ⟨(TRow.of_own hn).keep (ks 80 (by decide)), hk, hsm, fun x hx => by
  rcases List.mem_append.1 hx with h1 | h1
  ·exact ((h.ok.rules.each x h1).keep (kp 132 (by decide))).keep (ks 132 (by decide))
  ·rw [List.mem_singleton.1 h1]; exact ht.keep (ks 132 (by decide))⟩, (h.ok.tables.keep (kp 86 (by decide)) (kp 88 (by decide)) (kp 132 (by decide))).keep (ks 86 (by decide)) (ks 88 (by decide)) (ks 132 (by decide)), (h.ok.taxes.keep (kp 93 (by decide)) (kp 90 (by decide))).keep (ks 93 (by decide)) (ks 90 (by decide))⟩
theorem CtAt.addT {n : Nat} {A' : Option Addr} {k' c' : Nat} {t : TbM} (h : CtAt V W g rb cb m) (ho : W.ownsRow V.heap.size 86 2 (.slice m.st.A m.st.n m.st.c) n (tbcells m.tables)) (hg : W.grownBy W' (Value.slice m.st.A m.st.n m.st.c).ownBlock)
 (hn : W'.ownsRow V.heap.size 86 2 (.slice A' k' c') k' (tbcells (m.tables ++ [t]))) (hk : k' = (m.tables ++ [t]).length) (hsm : k' ≤ 100000) (ht : t.Ok W') :
 Bk W' cb 28 (catSL m.si m.sr m.st m.sx) ∧ CtAt V (W'.setCell ⟨cb, 2, none⟩ (.slice A' k' c')) g rb cb { m with tables := m.tables ++ [t], st := ⟨A', k', c'⟩ } ∧ (W'.setCell ⟨cb, 2, none⟩ (.slice A' k' c')).ownsRow V.heap.size 86 2 (.slice A' k' c') k' (tbcells (m.tables ++ [t])) := by
 have hbase := row_base ho
 have hr := h.rlt
 have hge := h.ge
 have kb := h.bx.grown hg (fun e => row_neT ho h.bx (by decide) e.symm)
 have kp : ∀ q, (86 : TypeId) ≠ q → Keep q W W' := fun q hq => Keep.own ho hg hq
 have ks : ∀ q, (28 : TypeId) ≠ q → Keep q W' (W'.setCell ⟨cb, 2, none⟩ (.slice A' k' c')) := fun q hq => Keep.setCell kb hq _
 refine ⟨kb, ⟨(h.st.grow hg hbase).set _ _ _ h.ge, (h.res.grown hg (fun e => by have := hbase rb e.symm; omega)).far (by simp; omega) _, h.rlt, h.rne, kb.set 2 _, h.ge, ?_⟩, hn.kept (grown_setCell W' cb 2 _) (.inr (row_neT hn kb (by decide)))⟩
 exact ⟨(h.ok.items.keep (kp 76 (by decide))).keep (ks 76 (by decide)), (h.ok.rules.keep (kp 80 (by decide)) (kp 132 (by decide))).keep (ks 80 (by decide)) (ks 132 (by decide)), ⟨(TRow.of_own hn).keep (ks 86 (by decide)), hk, hsm, fun x hx => by
  rcases List.mem_append.1 hx with h1 | h1
  ·exact ⟨((h.ok.tables.each x h1).rows.keep (kp 88 (by decide)) (kp 132 (by decide))).keep (ks 88 (by decide)) (ks 132 (by decide)), (h.ok.tables.each x h1).name⟩
  ·rw [List.mem_singleton.1 h1]; exact ⟨ht.rows.keep (ks 88 (by decide)) (ks 132 (by decide)), ht.name⟩⟩, (h.ok.taxes.keep (kp 93 (by decide)) (kp 90 (by decide))).keep (ks 93 (by decide)) (ks 90 (by decide))⟩
theorem CtAt.addX {n : Nat} {A' : Option Addr} {k' c' : Nat} {t : TxM} (h : CtAt V W g rb cb m) (ho : W.ownsRow V.heap.size 93 2 (.slice m.sx.A m.sx.n m.sx.c) n (txcells m.taxes)) (hg : W.grownBy W' (Value.slice m.sx.A m.sx.n m.sx.c).ownBlock)
 (hn : W'.ownsRow V.heap.size 93 2 (.slice A' k' c') k' (txcells (m.taxes ++ [t]))) (hk : k' = (m.taxes ++ [t]).length) (hsm : k' ≤ 100000) (ht : t.Ok W') :
 Bk W' cb 28 (catSL m.si m.sr m.st m.sx) ∧ CtAt V (W'.setCell ⟨cb, 3, none⟩ (.slice A' k' c')) g rb cb { m with taxes := m.taxes ++ [t], sx := ⟨A', k', c'⟩ } ∧ (W'.setCell ⟨cb, 3, none⟩ (.slice A' k' c')).ownsRow V.heap.size 93 2 (.slice A' k' c') k' (txcells (m.taxes ++ [t])) := by
 have hbase := row_base ho
 have hr := h.rlt
 have hge := h.ge
 have kb := h.bx.grown hg (fun e => row_neT ho h.bx (by decide) e.symm)
 have kp : ∀ q, (93 : TypeId) ≠ q → Keep q W W' := fun q hq => Keep.own ho hg hq
 have ks : ∀ q, (28 : TypeId) ≠ q → Keep q W' (W'.setCell ⟨cb, 3, none⟩ (.slice A' k' c')) := fun q hq => Keep.setCell kb hq _
 refine ⟨kb, ⟨(h.st.grow hg hbase).set _ _ _ h.ge, (h.res.grown hg (fun e => by have := hbase rb e.symm; omega)).far (by simp; omega) _, h.rlt, h.rne, kb.set 3 _, h.ge, ?_⟩, hn.kept (grown_setCell W' cb 3 _) (.inr (row_neT hn kb (by decide)))⟩
 exact ⟨(h.ok.items.keep (kp 76 (by decide))).keep (ks 76 (by decide)), (h.ok.rules.keep (kp 80 (by decide)) (kp 132 (by decide))).keep (ks 80 (by decide)) (ks 132 (by decide)), (h.ok.tables.keep (kp 86 (by decide)) (kp 88 (by decide)) (kp 132 (by decide))).keep (ks 86 (by decide)) (ks 88 (by decide)) (ks 132 (by decide)), ⟨(TRow.of_own hn).keep (ks 93 (by decide)), hk, hsm, fun x hx => by
  rcases List.mem_append.1 hx with h1 | h1
  ·exact ⟨((h.ok.taxes.each x h1).brs.keep (kp 90 (by decide))).keep (ks 90 (by decide)), (h.ok.taxes.each x h1).name⟩
  ·rw [List.mem_singleton.1 h1]; exact ⟨ht.brs.keep (ks 90 (by decide)), ht.name⟩⟩⟩
end
end
section
theorem trow_str {W : World} {b off : Nat} {l : List ByteArray} (h : TRow W 9 (some ⟨b, off, none⟩) (strs l)) (k : Nat) (hk : k < l.length) : W.cell? ⟨b, off + k, none⟩ = some (.string l[k]) := by
 obtain ⟨b', off', hA, hb, hc⟩ := h.row.at_ k (by simpa [strs] using hk)
 cases hA
 exact hc k _ (by simp [strs, hk])
theorem trow_some {W : World} {A : Option Addr} {l : List ByteArray} (h : TRow W 9 A (strs l)) (hl : 0 < l.length) : ∃ b off, A = some ⟨b, off, none⟩ ∧ b < W.heap.size := by
 obtain ⟨b', off', hA, hb, hc⟩ := h.row.at_ 0 (by simpa [strs] using hl)
 exact ⟨b', off', hA, hb⟩
theorem GSt.keeps {V W : World} {g : Nat} (h : GSt V W g) (hg : GOk V g) : ∀ q, q ≠ 73 → Keep q V W := fun q hq => h.keep hg q hq
structure CtI (V W : World) (g rb cb : Nat) (m : CatM) : Prop where
 ct : CtAt V W g rb cb m
 own : W.ownsRow V.heap.size 76 7 (.slice m.si.A m.si.n m.si.c) m.items.length (icells m.items)
section
variable {V W W' : World} {g rb cb : Nat} {m : CatM}
theorem CtI.next (h : CtI V W g rb cb m) (k : GSt W W' g) : CtI V W' g rb cb m :=
 ⟨h.ct.next k, k.own h.own (fun e => by have := row_base h.own g e; have := h.ct.st.lt; omega)⟩
theorem CtI.below (h : CtI V W g rb cb m) (hb : Below W.heap.size W W') : CtI V W' g rb cb m := h.next ((GSt.refl h.ct.st.ok).below hb)
theorem CtI.app {A' : Option Addr} {k' c' : Nat} {t : It} (h : CtI V W g rb cb m) (hg : W.grownBy W' (Value.slice m.si.A m.si.n m.si.c).ownBlock)
 (hn : W'.ownsRow V.heap.size 76 7 (.slice A' k' c') k' (icells (m.items ++ [t]))) (hk : k' = m.items.length + 1) (hsm : k' ≤ 100000) (ht : t.name.size ≤ 8192) :
 Bk W' cb 28 (catSL m.si m.sr m.st m.sx) ∧ (∀ q, 76 ≠ q → Keep q W W') ∧ (∀ q, 28 ≠ q → Keep q W' (W'.setCell ⟨cb, 0, none⟩ (.slice A' k' c'))) ∧ CtI V (W'.setCell ⟨cb, 0, none⟩ (.slice A' k' c')) g rb cb { m with items := m.items ++ [t], si := ⟨A', k', c'⟩ } := by
 have hk2 : k' = (m.items ++ [t]).length := by simpa using hk
 obtain ⟨h1, h2, h3⟩ := h.ct.addI h.own hg hn hk2 hsm ht
 exact ⟨h1, fun q hq => Keep.own h.own hg hq, fun q hq => Keep.setCell h1 hq _, h2, by rw [hk2] at h3 ⊢; exact h3⟩
end
structure CtR (V W : World) (g rb cb : Nat) (m : CatM) : Prop where
 ct : CtAt V W g rb cb m
 own : W.ownsRow V.heap.size 80 9 (.slice m.sr.A m.sr.n m.sr.c) m.rules.length (rucells m.rules)
section
variable {V W W' : World} {g rb cb : Nat} {m : CatM}
theorem CtR.next (h : CtR V W g rb cb m) (k : GSt W W' g) : CtR V W' g rb cb m :=
 ⟨h.ct.next k, k.own h.own (fun e => by have := row_base h.own g e; have := h.ct.st.lt; omega)⟩
theorem CtR.below (h : CtR V W g rb cb m) (hb : Below W.heap.size W W') : CtR V W' g rb cb m := h.next ((GSt.refl h.ct.st.ok).below hb)
theorem CtR.app {A' : Option Addr} {k' c' : Nat} {t : RuM} (h : CtR V W g rb cb m) (hg : W.grownBy W' (Value.slice m.sr.A m.sr.n m.sr.c).ownBlock)
 (hn : W'.ownsRow V.heap.size 80 9 (.slice A' k' c') k' (rucells (m.rules ++ [t]))) (hk : k' = m.rules.length + 1) (hsm : k' ≤ 100000) (ht : t.Ok W') :
 Bk W' cb 28 (catSL m.si m.sr m.st m.sx) ∧ (∀ q, 80 ≠ q → Keep q W W') ∧ (∀ q, 28 ≠ q → Keep q W' (W'.setCell ⟨cb, 1, none⟩ (.slice A' k' c'))) ∧ CtR V (W'.setCell ⟨cb, 1, none⟩ (.slice A' k' c')) g rb cb { m with rules := m.rules ++ [t], sr := ⟨A', k', c'⟩ } := by
 have hk2 : k' = (m.rules ++ [t]).length := by simpa using hk
 obtain ⟨h1, h2, h3⟩ := h.ct.addR h.own hg hn hk2 hsm ht
 exact ⟨h1, fun q hq => Keep.own h.own hg hq, fun q hq => Keep.setCell h1 hq _, h2, by rw [hk2] at h3 ⊢; exact h3⟩
end
structure CtT (V W : World) (g rb cb : Nat) (m : CatM) : Prop where
 ct : CtAt V W g rb cb m
 own : W.ownsRow V.heap.size 86 2 (.slice m.st.A m.st.n m.st.c) m.tables.length (tbcells m.tables)
section
variable {V W W' : World} {g rb cb : Nat} {m : CatM}
theorem CtT.next (h : CtT V W g rb cb m) (k : GSt W W' g) : CtT V W' g rb cb m :=
 ⟨h.ct.next k, k.own h.own (fun e => by have := row_base h.own g e; have := h.ct.st.lt; omega)⟩
theorem CtT.below (h : CtT V W g rb cb m) (hb : Below W.heap.size W W') : CtT V W' g rb cb m := h.next ((GSt.refl h.ct.st.ok).below hb)
theorem CtT.app {A' : Option Addr} {k' c' : Nat} {t : TbM} (h : CtT V W g rb cb m) (hg : W.grownBy W' (Value.slice m.st.A m.st.n m.st.c).ownBlock)
 (hn : W'.ownsRow V.heap.size 86 2 (.slice A' k' c') k' (tbcells (m.tables ++ [t]))) (hk : k' = m.tables.length + 1) (hsm : k' ≤ 100000) (ht : t.Ok W') :
 Bk W' cb 28 (catSL m.si m.sr m.st m.sx) ∧ (∀ q, 86 ≠ q → Keep q W W') ∧ (∀ q, 28 ≠ q → Keep q W' (W'.setCell ⟨cb, 2, none⟩ (.slice A' k' c'))) ∧ CtT V (W'.setCell ⟨cb, 2, none⟩ (.slice A' k' c')) g rb cb { m with tables := m.tables ++ [t], st := ⟨A', k', c'⟩ } := by
 have hk2 : k' = (m.tables ++ [t]).length := by simpa using hk
 obtain ⟨h1, h2, h3⟩ := h.ct.addT h.own hg hn hk2 hsm ht
 exact ⟨h1, fun q hq => Keep.own h.own hg hq, fun q hq => Keep.setCell h1 hq _, h2, by rw [hk2] at h3 ⊢; exact h3⟩
end
structure CtX (V W : World) (g rb cb : Nat) (m : CatM) : Prop where
 ct : CtAt V W g rb cb m
 own : W.ownsRow V.heap.size 93 2 (.slice m.sx.A m.sx.n m.sx.c) m.taxes.length (txcells m.taxes)
section
variable {V W W' : World} {g rb cb : Nat} {m : CatM}
theorem CtX.next (h : CtX V W g rb cb m) (k : GSt W W' g) : CtX V W' g rb cb m :=
 ⟨h.ct.next k, k.own h.own (fun e => by have := row_base h.own g e; have := h.ct.st.lt; omega)⟩
theorem CtX.below (h : CtX V W g rb cb m) (hb : Below W.heap.size W W') : CtX V W' g rb cb m := h.next ((GSt.refl h.ct.st.ok).below hb)
theorem CtX.app {A' : Option Addr} {k' c' : Nat} {t : TxM} (h : CtX V W g rb cb m) (hg : W.grownBy W' (Value.slice m.sx.A m.sx.n m.sx.c).ownBlock)
 (hn : W'.ownsRow V.heap.size 93 2 (.slice A' k' c') k' (txcells (m.taxes ++ [t]))) (hk : k' = m.taxes.length + 1) (hsm : k' ≤ 100000) (ht : t.Ok W') :
 Bk W' cb 28 (catSL m.si m.sr m.st m.sx) ∧ (∀ q, 93 ≠ q → Keep q W W') ∧ (∀ q, 28 ≠ q → Keep q W' (W'.setCell ⟨cb, 3, none⟩ (.slice A' k' c'))) ∧ CtX V (W'.setCell ⟨cb, 3, none⟩ (.slice A' k' c')) g rb cb { m with taxes := m.taxes ++ [t], sx := ⟨A', k', c'⟩ } := by
 have hk2 : k' = (m.taxes ++ [t]).length := by simpa using hk
 obtain ⟨h1, h2, h3⟩ := h.ct.addX h.own hg hn hk2 hsm ht
 exact ⟨h1, fun q hq => Keep.own h.own hg hq, fun q hq => Keep.setCell h1 hq _, h2, by rw [hk2] at h3 ⊢; exact h3⟩
end
end
section
def pool1 : List ByteArray := [⟨#[103, 111, 108, 100]⟩, ⟨#[105, 114, 111, 110]⟩, ⟨#[111, 114, 101]⟩, ⟨#[99, 111, 97, 108]⟩, ⟨#[115, 119, 111, 114, 100]⟩, ⟨#[119, 97, 116, 101, 114]⟩, ⟨#[103, 101, 109]⟩, ⟨#[97, 120, 101]⟩]
def stone : ByteArray := ⟨#[115, 116, 111, 110, 101]⟩
abbrev sl0 : Sl := ⟨none, 0, 0⟩
theorem info89g : (Tryz.prog.info? 76).map (fun i => (i.zero, i.size, i.bytes)) = some (some (.agg #[.string ⟨#[]⟩, .bool false, .bool false, .bool false, .int .i64 0, .int .i64 0, .int .i64 0]), 7, 48) := by kernel_rfl
theorem poolN_short {pool : List ByteArray} (h : ∀ s ∈ pool, s.size ≤ 8192) (turn n : Nat) : ∀ s ∈ poolN pool turn n, s.size ≤ 8192 := by
 intro s hs
 simp only [poolN, List.mem_map] at hs
 obtain ⟨i, _, rfl⟩ := hs
 by_cases hl : (i + turn) % pool.length < pool.length
 ·simp only [List.getElem?_eq_getElem hl, Option.getD_some]
  exact h _ (List.getElem_mem hl)
 ·rw [List.getElem?_eq_none (by omega)]; show (0 : Nat) ≤ 8192; omega
theorem one7 (t : It) : ∀ u ∈ ([.string t.name, .bool t.object, .bool t.mixed, .bool t.coin, .int .i64 t.wear, .int .i64 t.bnd, .int .i64 t.level] : List Value), u.oneCell' = true := by
 intro u hu
 simp only [List.mem_cons, List.not_mem_nil, or_false] at hu
 rcases hu with rfl | rfl | rfl | rfl | rfl | rfl | rfl <;> rfl
theorem new7 (w : World) (t : TypeId) (a b c d e f g : Value) : ∀ j u, ([a, b, c, d, e, f, g] : List Value)[j]? = some u → (w.alloc (.cells #[a, b, c, d, e, f, g] t)).cell? ((⟨w.heap.size, 0, none⟩ : Addr).add j) = some u := by
 intro j u hj
 match j, hj with
 | 0, hj => simp at hj; subst hj; simp [Addr.add]
 | 1, hj => simp at hj; subst hj; simp [Addr.add]
 | 2, hj => simp at hj; subst hj; simp [Addr.add]
 | 3, hj => simp at hj; subst hj; simp [Addr.add]
 | 4, hj => simp at hj; subst hj; simp [Addr.add]
 | 5, hj => simp at hj; subst hj; simp [Addr.add]
 | 6, hj => simp at hj; subst hj; simp [Addr.add]
 | j + 7, hj => simp at hj
def isWd (s : ByteArray) : Bool := decide (0 < s.size) && decide (s.size ≤ 16) && (kindAt s 0 == 3) && (List.range s.size).all fun i => wordB (kindAt s i)
theorem runEnd_all {f : Int → Bool} {s : ByteArray} (h : ∀ i, i < s.size → f (kindAt s i) = true) (j : Nat) (hj : j ≤ s.size) : runEnd f s j = s.size := by
 induction hm : s.size - j using Nat.strongRecOn generalizing j with
 | _ m ih =>
   by_cases hlt : j < s.size
   ·rw [runEnd_go hlt (h j hlt)]
    exact ih (s.size - (j + 1)) (by omega) (j + 1) (by omega) rfl
   ·rw [runEnd_end (by omega)]; omega
theorem fitG_word {s : ByteArray} (h : isWd s = true) : fitG s = true := by
 simp only [isWd, Bool.and_eq_true, decide_eq_true_eq, beq_iff_eq, List.all_eq_true, List.mem_range] at h
 obtain ⟨⟨⟨h0, h1⟩, h2⟩, h3⟩ := h
 have e1 : runEnd wordB s (0 + 1) = s.size := runEnd_all h3 _ (by omega)
 have e2 : s.extract 0 s.size = s := ByteArray.extract_zero_size
 have e3 : nextT s 0 = ⟨0, s, 0, 0, 0⟩ := by
  unfold nextT
  rw [if_pos h2, e1, if_neg (by omega), e2]; rfl
 have e4 : skipS s 0 = 0 := skipS_stay (by rw [h2]; decide) (by rw [h2]; decide)
 have e5 : toks s = [⟨0, s, 0, 0, 0⟩] := by
  unfold toks
  rw [e4]
  unfold toksFrom
  rw [dif_pos h0, e3]
  dsimp only
  rw [if_pos rfl, Nat.zero_add, skipS_end (Nat.le_refl _), if_pos h0]
  unfold toksFrom
  rw [dif_neg (by omega)]
 unfold fitG
 rw [e5]
 simp
def ItsOk (items : List It) (nl : List ByteArray) : Prop := items.map It.name = nl ∧ items.all itFormedB = true ∧ items.all itRangeB = true
theorem ItsOk.nil : ItsOk [] [] := ⟨rfl, rfl, rfl⟩
theorem ItsOk.snoc {items : List It} {nl : List ByteArray} {t : It} {s : ByteArray} (h : ItsOk items nl) (hn : t.name = s) (hf : itFormedB t = true) (hr : itRangeB t = true) : ItsOk (items ++ [t]) (nl ++ [s]) :=
 ⟨by rw [List.map_append, h.1, ← hn]; rfl, by rw [List.all_append, h.2.1]; simp [hf], by rw [List.all_append, h.2.2]; simp [hr]⟩
theorem ItsOk.len {items : List It} {nl : List ByteArray} (h : ItsOk items nl) : items.length = nl.length := by rw [← h.1]; simp
def RusOk (n : Nat) (rules : List RuM) (nl : List ByteArray) : Prop := rules.map RuM.name = nl ∧ rules.all (wfR n) = true ∧ rules.all rgR = true ∧ rules.all ruLim = true ∧ ∀ r ∈ rules, ruSmall 3 r
theorem RusOk.nil (n : Nat) : RusOk n [] [] := ⟨rfl, rfl, rfl, rfl, by simp⟩
theorem RusOk.snoc {n : Nat} {rules : List RuM} {nl : List ByteArray} {r : RuM} {s : ByteArray} (h : RusOk n rules nl) (hn : r.name = s) (h1 : wfR n r = true) (h2 : rgR r = true) (h3 : ruLim r = true) (h4 : ruSmall 3 r) : RusOk n (rules ++ [r]) (nl ++ [s]) :=
 ⟨by rw [List.map_append, h.1, ← hn]; rfl, by rw [List.all_append, h.2.1]; simp [h1], by rw [List.all_append, h.2.2.1]; simp [h2], by rw [List.all_append, h.2.2.2.1]; simp [h3], fun x hx => by
  rcases List.mem_append.1 hx with hx | hx
  ·exact h.2.2.2.2 x hx
  ·rw [List.mem_singleton.1 hx]; exact h4⟩
theorem RusOk.len {n : Nat} {rules : List RuM} {nl : List ByteArray} (h : RusOk n rules nl) : rules.length = nl.length := by rw [← h.1]; simp
theorem spawn_ok {n : Nat} {gv : List P2} (s : ByteArray) (sg : Sl) (h : Am n gv) (hl : gv.length ≤ 3) : wfR n ⟨s, true, 0, 0, 1, 1, [], gv, [], sl0, sg, sl0⟩ = true ∧ rgR ⟨s, true, 0, 0, 1, 1, [], gv, [], sl0, sg, sl0⟩ = true ∧ ruLim ⟨s, true, 0, 0, 1, 1, [], gv, [], sl0, sg, sl0⟩ = true ∧ ruSmall 3 ⟨s, true, 0, 0, 1, 1, [], gv, [], sl0, sg, sl0⟩ := by
 refine ⟨?_, ?_, ?_, ⟨by simp, hl, by simp⟩⟩
 ·show (sortB n [] && sortB n gv && sortB n [] && formR 0 0 true 0 0 1 1 && contB [] []) = true
  rw [h.sort]; rfl
 ·show ([].all unitP && gv.all unitP && [].all unitP && ruRange ⟨s, true, 0, 0, 1, 1, [], gv, [], sl0, sg, sl0⟩) = true
  rw [h.units]; rfl
 ·show (decide (0 + gv.length ≤ 64) && decide (0 + 0 ≤ 64)) = true
  rw [decide_eq_true (show 0 + gv.length ≤ 64 by omega)]; rfl
def RwsOk (n : Nat) (rows : List RwM) : Prop := (rows.all fun r => sortB n r.give) = true ∧ rows.all wtP = true ∧ (rows.all fun r => r.give.all unitP) = true ∧ ∀ r ∈ rows, r.give.length ≤ 3
theorem RwsOk.nil (n : Nat) : RwsOk n [] := ⟨rfl, rfl, rfl, by simp⟩
theorem RwsOk.snoc {n : Nat} {rows : List RwM} {wt : Int} {gv : List P2} {s : Sl} (h : RwsOk n rows) (hA : Am n gv) (hl : gv.length ≤ 3) (h1 : 1 ≤ wt) (h2 : wt ≤ 1099511627776) : RwsOk n (rows ++ [⟨wt, gv, s⟩]) := by
 refine ⟨by rw [List.all_append, h.1]; simp [hA.sort], ?_, by rw [List.all_append, h.2.2.1]; simpa using hA.units, fun x hx => by
  rcases List.mem_append.1 hx with hx | hx
  ·exact h.2.2.2 x hx
  ·rw [List.mem_singleton.1 hx]; exact hl⟩
 rw [List.all_append, h.2.1]
 have : wtP ⟨wt, gv, s⟩ = true := by simp only [wtP, Bool.and_eq_true, decide_eq_true_eq]; exact ⟨h1, h2⟩
 simp [this]
def TbsOk (n : Nat) (tables : List TbM) (nl : List ByteArray) : Prop := tables.map TbM.name = nl ∧ tables.all (wfT n) = true ∧ tables.all rgT = true ∧ tables.all tbLim = true ∧ ∀ t ∈ tables, ∀ r ∈ t.rows, r.give.length ≤ 3
theorem TbsOk.nil (n : Nat) : TbsOk n [] [] := ⟨rfl, rfl, rfl, rfl, by simp⟩
theorem TbsOk.snoc {n : Nat} {tables : List TbM} {nl : List ByteArray} {nm : ByteArray} {rows : List RwM} {s : Sl} (h : TbsOk n tables nl) (hr : RwsOk n rows) (h0 : 0 < rows.length) (h1 : rows.length ≤ 64) : TbsOk n (tables ++ [⟨nm, rows, s⟩]) (nl ++ [nm]) := by
 have e1 : wfT n ⟨nm, rows, s⟩ = true := by
  show (decide (0 < rows.length) && (rows.all fun r => sortB n r.give)) = true
  rw [decide_eq_true h0, hr.1]; rfl
 have e2 : rgT ⟨nm, rows, s⟩ = true := by
  show (rows.all wtP && (rows.all fun r => r.give.all unitP)) = true
  rw [hr.2.1, hr.2.2.1]; rfl
 have e3 : tbLim ⟨nm, rows, s⟩ = true := decide_eq_true h1
 exact ⟨by rw [List.map_append, h.1]; rfl, by rw [List.all_append, h.2.1]; simp [e1], by rw [List.all_append, h.2.2.1]; simp [e2], by rw [List.all_append, h.2.2.2.1]; simp [e3], fun x hx => by
  rcases List.mem_append.1 hx with hx | hx
  ·exact h.2.2.2.2 x hx
  ·rw [List.mem_singleton.1 hx]; exact hr.2.2.2⟩
theorem TbsOk.len {n : Nat} {tables : List TbM} {nl : List ByteArray} (h : TbsOk n tables nl) : tables.length = nl.length := by rw [← h.1]; simp
def BrsOk (brs : List P2) : Prop := brs ≠ [] ∧ formedB brs = true ∧ brs.all txP = true ∧ 0 ≤ fromAt brs (brs.length - 1) ∧ fromAt brs (brs.length - 1) ≤ 500 * brs.length
theorem BrsOk.one {p : Int} (h0 : 0 ≤ p) (h1 : p ≤ 10000) : BrsOk [(0, p)] := by
 refine ⟨by simp, rfl, ?_, by show (0 : Int) ≤ 0; omega, by show (0 : Int) ≤ 500 * 1; omega⟩
 show (txP (0, p) && true) = true
 simp only [txP, Bool.and_eq_true, decide_eq_true_eq]
 refine ⟨⟨⟨⟨by omega, by omega⟩, h0⟩, h1⟩, trivial⟩
theorem fromAt_left {brs : List P2} {q : P2} {i : Nat} (h : i < brs.length) : fromAt (brs ++ [q]) i = fromAt brs i := by
 unfold fromAt; rw [List.getElem?_append_left h]
theorem fromAt_new (brs : List P2) (q : P2) : fromAt (brs ++ [q]) brs.length = q.1 := by
 unfold fromAt; rw [List.getElem?_append_right (Nat.le_refl _)]; simp
theorem incB_iff (brs : List P2) (k : Nat) : incB brs k = true ↔ ∀ i, i < k → i = 0 ∨ fromAt brs (i - 1) < fromAt brs i := by
 simp [incB, List.all_eq_true, List.mem_range]
theorem BrsOk.snoc {brs : List P2} {f p : Int} (h : BrsOk brs) (hf : fromAt brs (brs.length - 1) < f) (hf2 : f ≤ fromAt brs (brs.length - 1) + 500) (h0 : 0 ≤ p) (h1 : p ≤ 10000) (hl : brs.length ≤ 100) : BrsOk (brs ++ [(f, p)]) := by
 obtain ⟨g0, g1, g2, g3, g4⟩ := h
 have hpos : 0 < brs.length := List.length_pos_iff.2 g0
 have hlen : (brs ++ [(f, p)]).length = brs.length + 1 := by simp
 simp only [formedB, Bool.and_eq_true, beq_iff_eq] at g1
 obtain ⟨⟨_, q1⟩, q2⟩ := g1
 refine ⟨by simp, ?_, ?_, ?_, ?_⟩
 ·simp only [formedB, Bool.and_eq_true, beq_iff_eq]
  refine ⟨⟨by simp, by rw [fromAt_left hpos]; exact q1⟩, ?_⟩
  rw [hlen, incB_iff]
  rw [incB_iff] at q2
  intro i hi
  by_cases e : i < brs.length
  ·rw [fromAt_left e, fromAt_left (show i - 1 < brs.length by omega)]; exact q2 i e
  ·obtain rfl : i = brs.length := by omega
   right
   rw [fromAt_new, fromAt_left (by omega)]
   exact hf
 ·rw [List.all_append, g2]
  show (true && (txP (f, p) && true)) = true
  simp only [txP, Bool.and_eq_true, decide_eq_true_eq]
  refine ⟨trivial, ⟨⟨⟨by omega, by omega⟩, h0⟩, h1⟩, trivial⟩
 ·rw [hlen, Nat.add_sub_cancel, fromAt_new]; show 0 ≤ f; omega
 ·rw [hlen, Nat.add_sub_cancel, fromAt_new]; show f ≤ _; push_cast; omega
def TxsOk (taxes : List TxM) (nl : List ByteArray) : Prop := taxes.map TxM.name = nl ∧ taxes.all wfX = true ∧ taxes.all rgX = true ∧ taxes.all txLim = true
theorem TxsOk.nil : TxsOk [] [] := ⟨rfl, rfl, rfl, rfl⟩
theorem TxsOk.snoc {taxes : List TxM} {nl : List ByteArray} {nm : ByteArray} {brs : List P2} {s : Sl} (h : TxsOk taxes nl) (hr : BrsOk brs) (h1 : brs.length ≤ 16) : TxsOk (taxes ++ [⟨nm, brs, s⟩]) (nl ++ [nm]) := by
 have e1 : wfX ⟨nm, brs, s⟩ = true := hr.2.1
 have e2 : rgX ⟨nm, brs, s⟩ = true := hr.2.2.1
 have e3 : txLim ⟨nm, brs, s⟩ = true := decide_eq_true h1
 exact ⟨by rw [List.map_append, h.1]; rfl, by rw [List.all_append, h.2.1]; simp [e1], by rw [List.all_append, h.2.2.1]; simp [e2], by rw [List.all_append, h.2.2.2]; simp [e3]⟩
theorem TxsOk.len {taxes : List TxM} {nl : List ByteArray} (h : TxsOk taxes nl) : taxes.length = nl.length := by rw [← h.1]; simp
structure RwAt (V W : World) (g tb : Nat) (nm : ByteArray) (rows : List RwM) (s : Sl) : Prop where
 st : GSt V W g
 bx : Bk W tb 86 [.string nm, .slice s.A s.n s.c]
 ge : V.heap.size ≤ tb
 own : W.ownsRow V.heap.size 88 2 (.slice s.A s.n s.c) rows.length (rows.flatMap RwM.cells)
 each : ∀ r ∈ rows, r.Ok W
section
variable {V W W' : World} {g tb : Nat} {nm : ByteArray} {rows : List RwM} {s : Sl}
theorem RwAt.next (h : RwAt V W g tb nm rows s) (k : GSt W W' g) : RwAt V W' g tb nm rows s :=
 ⟨h.st.trans k, k.bk h.bx (by have := h.st.lt; have := h.ge; omega), h.ge, k.own h.own (fun e => by have := row_base h.own g e; have := h.st.lt; omega), fun r hr => PrV.keep (h.each r hr) (k.keep h.st.ok 132 (by decide))⟩
theorem RwAt.below (h : RwAt V W g tb nm rows s) (hb : Below W.heap.size W W') : RwAt V W' g tb nm rows s := h.next ((GSt.refl h.st.ok).below hb)
theorem RwAt.app {A' : Option Addr} {k' c' : Nat} {r : RwM} (h : RwAt V W g tb nm rows s) (hg : W.grownBy W' (Value.slice s.A s.n s.c).ownBlock)
 (hn : W'.ownsRow V.heap.size 88 2 (.slice A' k' c') k' ((rows ++ [r]).flatMap RwM.cells)) (hk : k' = rows.length + 1) (hr : r.Ok W') :
 Bk W' tb 86 [.string nm, .slice s.A s.n s.c] ∧ RwAt V (W'.setCell ⟨tb, 1, none⟩ (.slice A' k' c')) g tb nm (rows ++ [r]) ⟨A', k', c'⟩ := by
 have hbase := row_base h.own
 have hge := h.ge
 have kb := h.bx.grown hg (fun e => row_neT h.own h.bx (by decide) e.symm)
 have hk2 : k' = (rows ++ [r]).length := by simpa using hk
 have ho := hn.kept (grown_setCell W' tb 1 (.slice A' k' c')) (.inr (row_neT hn kb (by decide)))
 refine ⟨kb, ⟨(h.st.grow hg hbase).set _ _ _ h.ge, kb.set 1 _, h.ge, by rw [← hk2]; exact ho, fun x hx => ?_⟩⟩
 rcases List.mem_append.1 hx with hx | hx
 ·exact PrV.keep (PrV.keep (h.each x hx) (Keep.own h.own hg (by decide))) (Keep.setCell kb (by decide) _)
 ·rw [List.mem_singleton.1 hx]; exact PrV.keep hr (Keep.setCell kb (by decide) _)
theorem RwAt.len (h : RwAt V W g tb nm rows s) : s.n = rows.length := by
 obtain ⟨A, c, e, _⟩ := row_of_owns h.own
 exact (Value.slice.inj e).2.1
theorem RwAt.ok (h : RwAt V W g tb nm rows s) (hl : rows.length ≤ 100000) (hn : nm.size ≤ 8192) : TbM.Ok W ⟨nm, rows, s⟩ := by
 have hs := h.len
 refine ⟨⟨?_, hs, by rw [hs]; exact hl, h.each⟩, hn⟩
 have := h.own
 rw [← hs] at this
 exact TRow.of_own this
end
structure TxAt (V W : World) (g xb : Nat) (nm : ByteArray) (brs : List P2) (s : Sl) : Prop where
 st : GSt V W g
 bx : Bk W xb 93 [.string nm, .slice s.A s.n s.c]
 ge : V.heap.size ≤ xb
 own : W.ownsRow V.heap.size 90 2 (.slice s.A s.n s.c) brs.length (pcells brs)
section
variable {V W W' : World} {g xb : Nat} {nm : ByteArray} {brs : List P2} {s : Sl}
theorem TxAt.next (h : TxAt V W g xb nm brs s) (k : GSt W W' g) : TxAt V W' g xb nm brs s :=
 ⟨h.st.trans k, k.bk h.bx (by have := h.st.lt; have := h.ge; omega), h.ge, k.own h.own (fun e => by have := row_base h.own g e; have := h.st.lt; omega)⟩
theorem TxAt.below (h : TxAt V W g xb nm brs s) (hb : Below W.heap.size W W') : TxAt V W' g xb nm brs s := h.next ((GSt.refl h.st.ok).below hb)
theorem TxAt.app {A' : Option Addr} {k' c' : Nat} {r : P2} (h : TxAt V W g xb nm brs s) (hg : W.grownBy W' (Value.slice s.A s.n s.c).ownBlock)
 (hn : W'.ownsRow V.heap.size 90 2 (.slice A' k' c') k' (pcells (brs ++ [r]))) (hk : k' = brs.length + 1) :
 Bk W' xb 93 [.string nm, .slice s.A s.n s.c] ∧ TxAt V (W'.setCell ⟨xb, 1, none⟩ (.slice A' k' c')) g xb nm (brs ++ [r]) ⟨A', k', c'⟩ := by
 have hbase := row_base h.own
 have hge := h.ge
 have kb := h.bx.grown hg (fun e => row_neT h.own h.bx (by decide) e.symm)
 have hk2 : k' = (brs ++ [r]).length := by simpa using hk
 have ho := hn.kept (grown_setCell W' xb 1 (.slice A' k' c')) (.inr (row_neT hn kb (by decide)))
 exact ⟨kb, ⟨(h.st.grow hg hbase).set _ _ _ h.ge, kb.set 1 _, h.ge, by rw [← hk2]; exact ho⟩⟩
theorem TxAt.len (h : TxAt V W g xb nm brs s) : s.n = brs.length := by
 obtain ⟨A, c, e, _⟩ := row_of_owns h.own
 exact (Value.slice.inj e).2.1
theorem txP_in {p : P2} (h : txP p = true) : (-9223372036854775808 ≤ p.1 ∧ p.1 ≤ 9223372036854775807) ∧ -9223372036854775808 ≤ p.2 ∧ p.2 ≤ 9223372036854775807 := by
 simp only [txP, Bool.and_eq_true, decide_eq_true_eq] at h
 omega
theorem TxAt.ok (h : TxAt V W g xb nm brs s) (hl : brs.length ≤ 100000) (hn : nm.size ≤ 8192) (hr : brs.all txP = true) : TxM.Ok W ⟨nm, brs, s⟩ := by
 have hs := h.len
 refine ⟨⟨?_, hs, by rw [hs]; exact hl, fun p hp => txP_in (List.all_eq_true.1 hr p hp)⟩, hn⟩
 have := h.own
 rw [← hs] at this
 exact TRow.of_own this
end
def pool2 : List ByteArray := [⟨#[115, 109, 101, 108, 116]⟩, ⟨#[102, 111, 114, 103, 101]⟩, ⟨#[109, 101, 108, 116]⟩, ⟨#[98, 114, 101, 119]⟩, ⟨#[103, 114, 105, 110, 100]⟩]
def pool3 : List ByteArray := [⟨#[114, 97, 105, 110]⟩, ⟨#[109, 105, 110, 101]⟩, ⟨#[100, 105, 103]⟩]
def pool4 : List ByteArray := [⟨#[]⟩, ⟨#[99, 104, 101, 115, 116]⟩, ⟨#[104, 101, 114, 98]⟩]
def pool5 : List ByteArray := [⟨#[]⟩, ⟨#[115, 97, 108, 101]⟩, ⟨#[115, 116, 97, 108, 108]⟩]
def downN (pool : List ByteArray) (k j : Nat) : List ByteArray := (List.range (k - j)).map fun r => pool[k - r]?.getD ⟨#[]⟩
theorem downN_self (pool : List ByteArray) (k : Nat) : downN pool k k = [] := by simp [downN]
theorem downN_next (pool : List ByteArray) {k j : Nat} (h : j + 1 ≤ k) : downN pool k j = downN pool k (j + 1) ++ [pool[j + 1]?.getD ⟨#[]⟩] := by
 have e : k - j = (k - (j + 1)) + 1 := by omega
 unfold downN
 rw [e, List.range_succ, List.map_append]
 simp only [List.map_cons, List.map_nil]
 rw [show k - (k - (j + 1)) = j + 1 by omega]
theorem pool_words : (pool1 ++ [stone] ++ pool2 ++ pool3 ++ pool4.tail ++ pool5.tail).all isWd = true := by kernel_rfl
theorem diff1 : ((List.range 8).all fun t => (List.range 7).all fun n => diffB (poolN pool1 t n ++ [stone])) = true := by kernel_rfl
theorem diff2 : ((List.range 5).all fun t => (List.range 5).all fun n => (List.range 3).all fun u => (List.range 3).all fun k => diffB (poolN pool2 t n ++ poolN pool3 u k)) = true := by kernel_rfl
theorem diff4 : ((List.range 3).all fun k => diffB (downN pool4 k 0)) = true := by kernel_rfl
theorem diff5 : ((List.range 3).all fun k => diffB (downN pool5 k 0)) = true := by kernel_rfl
theorem word4 : ((List.range 3).all fun k => (downN pool4 k 0).all isWd) = true := by kernel_rfl
theorem word5 : ((List.range 3).all fun k => (downN pool5 k 0).all isWd) = true := by kernel_rfl
theorem poolN_mem {pool : List ByteArray} (h : 0 < pool.length) {turn n : Nat} {s : ByteArray} (hs : s ∈ poolN pool turn n) : s ∈ pool := by
 simp only [poolN, List.mem_map] at hs
 obtain ⟨i, _, rfl⟩ := hs
 have hl := Nat.mod_lt (i + turn) h
 simp [List.getElem?_eq_getElem hl]
theorem all_range {n k : Nat} {f : Nat → Bool} (h : (List.range n).all f = true) (hk : k < n) : f k = true := List.all_eq_true.1 h k (List.mem_range.2 hk)
structure CatSm (m : CatM) : Prop where
 code : codeC m = 0
 items : 2 ≤ m.items.length ∧ m.items.length ≤ 7
 rules : 1 ≤ m.rules.length ∧ m.rules.length ≤ 6
 tables : m.tables.length ≤ 2
 taxes : m.taxes.length ≤ 2
 short : ∀ r ∈ m.rules, ruSmall 3 r
 rows : ∀ t ∈ m.tables, ∀ r ∈ t.rows, r.give.length ≤ 3
theorem catSm_of {m : CatM} {t1 n1 t2 n2 t3 n3 k4 k5 : Nat} (ht1 : t1 < 8) (hn1 : n1 ≤ 6) (hp1 : 1 ≤ n1) (ht2 : t2 < 5) (hn2 : n2 ≤ 4) (hp2 : 1 ≤ n2) (ht3 : t3 < 3) (hn3 : n3 ≤ 2) (hk4 : k4 < 3) (hk5 : k5 < 3)
 (hi : ItsOk m.items (poolN pool1 t1 n1 ++ [stone])) (hr : RusOk m.items.length m.rules (poolN pool2 t2 n2 ++ poolN pool3 t3 n3)) (ht : TbsOk m.items.length m.tables (downN pool4 k4 0)) (hx : TxsOk m.taxes (downN pool5 k5 0)) : CatSm m := by
 have l1 := hi.len
 have l2 := hr.len
 have l4 := ht.len
 have l5 := hx.len
 simp only [List.length_append, poolN_length, List.length_cons, List.length_nil] at l1 l2
 simp only [downN, List.length_map, List.length_range] at l4 l5
 have hw := pool_words
 simp only [List.all_append, Bool.and_eq_true] at hw
 obtain ⟨⟨⟨⟨⟨w1, ws⟩, w2⟩, w3⟩, _⟩, _⟩ := hw
 have hdi : diffC m = true := by
  unfold diffC
  rw [hi.1, hr.1, ht.1, hx.1, all_range (all_range diff1 ht1) (show n1 < 7 by omega), all_range (all_range (all_range (all_range diff2 ht2) (show n2 < 5 by omega)) ht3) (show n3 < 3 by omega), all_range diff4 hk4, all_range diff5 hk5]
  rfl
 have hfit : fitB m = true := by
  have key : ∀ l : List ByteArray, (∀ s ∈ l, isWd s = true) → l.all fitG = true := fun l h => List.all_eq_true.2 fun s hs => fitG_word (h s hs)
  have e1 : (m.items.all fun t => fitG t.name) = (m.items.map It.name).all fitG := by rw [List.all_map]; rfl
  have e2 : (m.rules.all fun t => fitG t.name) = (m.rules.map RuM.name).all fitG := by rw [List.all_map]; rfl
  have e3 : (m.tables.all fun t => fitG t.name) = (m.tables.map TbM.name).all fitG := by rw [List.all_map]; rfl
  have e4 : (m.taxes.all fun t => fitG t.name) = (m.taxes.map TxM.name).all fitG := by rw [List.all_map]; rfl
  unfold fitB
  rw [e1, e2, e3, e4, hi.1, hr.1, ht.1, hx.1, key _ fun s hs => ?_, key _ fun s hs => ?_, key _ fun s hs => ?_, key _ fun s hs => ?_]
  ·rfl
  ·exact List.all_eq_true.1 (all_range word5 hk5) s hs
  ·exact List.all_eq_true.1 (all_range word4 hk4) s hs
  ·rcases List.mem_append.1 hs with h | h
   ·exact List.all_eq_true.1 w2 s (poolN_mem (by decide) h)
   ·exact List.all_eq_true.1 w3 s (poolN_mem (by decide) h)
  ·rcases List.mem_append.1 hs with h | h
   ·exact List.all_eq_true.1 w1 s (poolN_mem (by decide) h)
   ·exact List.all_eq_true.1 ws s h
 have hlim : limC m = true := by
  unfold limC
  rw [hr.2.2.2.1, ht.2.2.2.1, hx.2.2.2, decide_eq_true (show m.items.length ≤ 64 by omega), decide_eq_true (show m.rules.length ≤ 64 by omega), decide_eq_true (show m.tables.length ≤ 32 by omega), decide_eq_true (show m.taxes.length ≤ 32 by omega)]
  rfl
 have hwf : wfC m = true := by
  unfold wfC
  rw [hi.2.1, hr.2.1, ht.2.1, hx.2.1]; rfl
 have hrg : rgC m = true := by
  unfold rgC
  rw [hi.2.2, hr.2.2.1, ht.2.2.1, hx.2.2.1]; rfl
 exact ⟨by unfold codeC; rw [hlim, hfit, hdi, hwf, hrg]; rfl, ⟨by omega, by omega⟩, ⟨by omega, by omega⟩, by omega, by omega, hr.2.2.2.2, ht.2.2.2.2⟩
end
theorem wp_region_fr {P : Program} {ops : Array Oper} {Q : Exit → Act → World → Prop} {id : Nat} {fr : Array Value} {w : World} (hm : P.follows .mixedOrders = true) (hd : earlierB ops = true) (I : Array Value → (Nat → Bool) → Act → World → Prop)
 (h0 : I fr (fun _ => false) ⟨fr, []⟩ w.drew)
 (step : ∀ (i : Nat) (o : Oper) (L : Nat → Bool) (a : Act) (w : World), ops[i]? = some o → L i = false → (∀ e ∈ o.after, Region.binds .any e = true → L e.on = true) → I fr L a w →
  wpOp P ops Q i (fun a' w' => I fr (fun j => L j || j == i) a' w') a w)
 (done : ∀ (L : Nat → Bool) (a : Act) (w : World), (∀ i, i < ops.size → L i = true) → I fr L a w → Q .normal a w) : (Code.region id ops true).wp P Q ⟨fr, []⟩ w :=
 wp_region_inv hm hd (I fr) h0 step done
structure XMid (V : World) (g j : Nat) (nm : ByteArray) (L : Nat → Bool) (x134 x135 x136 x137 x138 x139 x140 x141 x142 x17 : Value) (W : World) : Prop where
 st : GSt V W g
 l0 : L 0 = true → ∃ b, x134 = .slice (some ⟨b, 0, none⟩) 3 3 ∧ Bk W b 9 (strs pool5) ∧ V.heap.size ≤ b
 l1 : L 1 = true → x135 = .int .i64 (j : Int)
 l2 : L 2 = true → ∃ b, x136 = .pointer (some ⟨b, j, none⟩) ∧ Bk W b 9 (strs pool5) ∧ V.heap.size ≤ b
 l3 : L 3 = true → x137 = .string nm
 l4 : L 4 = true → x138 = .pointer (some ⟨g, 0, none⟩)
 l5 : L 5 = true → ∃ p, x139 = .int .i64 p ∧ 0 ≤ p ∧ p < 2000
 l6 : L 6 = true → ∃ p, x140 = .agg #[.int .i64 0, .int .i64 p] ∧ 0 ≤ p ∧ p < 2000
 l7 : L 7 = true → ∃ b p, x141 = .slice (some ⟨b, 0, none⟩) 1 1 ∧ Bk W b 90 [.int .i64 0, .int .i64 p] ∧ V.heap.size ≤ b ∧ 0 ≤ p ∧ p < 2000
 l8 : L 8 = true → ∃ b p, x142 = .agg #[.string nm, .slice (some ⟨b, 0, none⟩) 1 1] ∧ Bk W b 90 [.int .i64 0, .int .i64 p] ∧ V.heap.size ≤ b ∧ 0 ≤ p ∧ p < 2000
 l9 : L 9 = true → ∃ b, x17 = .pointer (some ⟨b, 0, none⟩) ∧ Bk W b 93 [.string ⟨#[]⟩, .slice none 0 0] ∧ V.heap.size ≤ b
theorem XMid.go {V W W' : World} {g j : Nat} {nm : ByteArray} {L : Nat → Bool} {x134 x135 x136 x137 x138 x139 x140 x141 x142 x17 : Value} (h : XMid V g j nm L x134 x135 x136 x137 x138 x139 x140 x141 x142 x17 W) (k : GSt W W' g) : XMid V g j nm L x134 x135 x136 x137 x138 x139 x140 x141 x142 x17 W' where
 st := h.st.trans k
 l0 := fun e => by obtain ⟨b, e1, e2, e3⟩ := h.l0 e; exact ⟨b, e1, k.bk e2 (by have := h.st.lt; omega), e3⟩
 l1 := h.l1
 l2 := fun e => by obtain ⟨b, e1, e2, e3⟩ := h.l2 e; exact ⟨b, e1, k.bk e2 (by have := h.st.lt; omega), e3⟩
 l3 := h.l3
 l4 := h.l4
 l5 := h.l5
 l6 := h.l6
 l7 := fun e => by obtain ⟨b, p, e1, e2, e3, e4⟩ := h.l7 e; exact ⟨b, p, e1, k.bk e2 (by have := h.st.lt; omega), e3, e4⟩
 l8 := fun e => by obtain ⟨b, p, e1, e2, e3, e4⟩ := h.l8 e; exact ⟨b, p, e1, k.bk e2 (by have := h.st.lt; omega), e3, e4⟩
 l9 := fun e => by obtain ⟨b, e1, e2, e3⟩ := h.l9 e; exact ⟨b, e1, k.bk e2 (by have := h.st.lt; omega), e3⟩
def XMade (V W : World) (g : Nat) (nm : ByteArray) (x17 : Value) : Prop :=
 ∃ xb b p, x17 = .pointer (some ⟨xb, 0, none⟩) ∧ 0 ≤ p ∧ p < 2000 ∧ TxAt V W g xb nm [(0, p)] ⟨some ⟨b, 0, none⟩, 1, 1⟩
theorem own_bk2 {w : World} {b base : Nat} {x y : Int} (h : Bk w b 90 [.int .i64 x, .int .i64 y]) (hb : base ≤ b) : w.ownsRow base 90 2 (.slice (some ⟨b, 0, none⟩) 1 1) 1 (pcells [(x, y)]) :=
 ⟨rfl, .inr ⟨b, 1, #[.int .i64 x, .int .i64 y], rfl, hb, h, by omega, by unfold maxLen; omega, rfl, rfl⟩⟩
theorem XMade.mk {V W : World} {g xb b : Nat} {nm : ByteArray} {p : Int} (st : GSt V W g) (hx : Bk W xb 93 [.string ⟨#[]⟩, .slice none 0 0]) (hg : V.heap.size ≤ xb) (hb : Bk W b 90 [.int .i64 0, .int .i64 p]) (hg2 : V.heap.size ≤ b) (p0 : 0 ≤ p) (p1 : p < 2000) :
 XMade V ((W.setCell ⟨xb, 0, none⟩ (.string nm)).setCell ⟨xb, 1, none⟩ (.slice (some ⟨b, 0, none⟩) 1 1)) g nm (.pointer (some ⟨xb, 0, none⟩)) := by
 have hne : b ≠ xb := by
  intro e
  subst e
  unfold Bk at hx hb
  rw [hx] at hb
  cases hb
 have hb1 : Bk (W.setCell ⟨xb, 0, none⟩ (.string nm)) b 90 [.int .i64 0, .int .i64 p] := hb.far hne _
 have hb2 := hb1.far (p := ⟨xb, 1, none⟩) hne (.slice (some ⟨b, 0, none⟩) 1 1)
 exact ⟨xb, b, p, rfl, p0, p1, ⟨(st.set _ _ _ hg).set _ _ _ hg, (hx.set 0 _).set 1 _, hg, own_bk2 hb2 hg2⟩⟩
end
section
theorem info125 : (Tryz.prog.info? 125).map (fun i => (i.zero, i.size, i.bytes)) = some (some (.agg #[.int .i64 0, .int .i64 0, .int .i64 0, .int .i64 0, .slice none 0 0]), 5, 56) := by kernel_rfl
theorem info59 : (Tryz.prog.info? 59).map (fun i => (i.zero, i.size, i.bytes)) = some (some (.agg #[.int .i64 0, .int .i64 0, .int .i64 0, .int .i64 0, .int .i64 0, .int .i64 0, .slice none 0 0]), 7, 72) := by kernel_rfl
theorem new5 (w : World) (t : TypeId) (a b c d e : Value) : ∀ j u, ([a, b, c, d, e] : List Value)[j]? = some u → (w.alloc (.cells #[a, b, c, d, e] t)).cell? ((⟨w.heap.size, 0, none⟩ : Addr).add j) = some u := by
 intro j u hj
 match j, hj with
 | 0, hj => simp at hj; subst hj; simp [Addr.add]
 | 1, hj => simp at hj; subst hj; simp [Addr.add]
 | 2, hj => simp at hj; subst hj; simp [Addr.add]
 | 3, hj => simp at hj; subst hj; simp [Addr.add]
 | 4, hj => simp at hj; subst hj; simp [Addr.add]
 | j + 5, hj => simp at hj
theorem one5 (a b c d : Int) : ∀ u ∈ ([.int .i64 a, .int .i64 b, .int .i64 c, .int .i64 d, .slice none 0 0] : List Value), u.oneCell' = true := by
 intro u hu
 simp only [List.mem_cons, List.not_mem_nil, or_false] at hu
 rcases hu with rfl | rfl | rfl | rfl | rfl <;> rfl
theorem oneS (s : StepM) : ∀ u ∈ s.cells, u.oneCell' = true := by
 intro u hu
 simp only [StepM.cells, List.mem_cons, List.not_mem_nil, or_false] at hu
 rcases hu with rfl | rfl | rfl | rfl | rfl | rfl | rfl <;> rfl
/-- A list of steps in memory. -/
structure StepsV (w : World) (s : Sl) (l : List StepM) : Prop where
 row : TRow w 59 s.A (l.flatMap StepM.cells)
 len : s.n = l.length
 small : s.n ≤ 100
 each : ∀ x ∈ l, x.Ok w
theorem StepsV.below {w w' : World} {s : Sl} {l : List StepM} (h : StepsV w s l) (hb : Below w.heap.size w w') : StepsV w' s l := ⟨h.row.keep (.below hb), h.len, h.small, fun x hx => (h.each x hx).below hb⟩
/-- A step whose moves lie below a block and not in the generator. -/
structure StepP (w : World) (P : Nat → Prop) (s : StepM) : Prop where
 row : PRow w 125 P s.sm.A (s.moves.flatMap MvM.cells)
 len : s.sm.n = s.moves.length
 small : s.sm.n ≤ 1000
 id : In64 s.id
 kind : In64 s.kind
 actor : In64 s.actor
 tick : In64 s.tick
 rule : In64 s.rule
theorem StepP.grown {w w' : World} {row : Option Nat} {P : Nat → Prop} {s : StepM} (h : StepP w P s) (hg : w.grownBy w' row) (hp : ∀ b, P b → some b ≠ row) : StepP w' P s := ⟨h.row.grown hg hp, h.len, h.small, h.id, h.kind, h.actor, h.tick, h.rule⟩
theorem PRow.keep {w w' : World} {t : TypeId} {P : Nat → Prop} {A : Option Addr} {xs : List Value} (h : PRow w t P A xs) (hk : Keep t w w') : PRow w' t P A xs := by
 rcases h with h | ⟨b, off, cur, fl, hA, hP, hb, hc⟩
 ·exact .inl h
 ·exact .inr ⟨b, off, cur, fl, hA, hP, hk b cur fl hb, hc⟩
theorem StepP.keep {w w' : World} {P : Nat → Prop} {s : StepM} (h : StepP w P s) (hk : Keep 125 w w') : StepP w' P s := ⟨h.row.keep hk, h.len, h.small, h.id, h.kind, h.actor, h.tick, h.rule⟩
theorem StepP.mono {w : World} {P Q : Nat → Prop} {s : StepM} (h : StepP w P s) (hp : ∀ b, b < w.heap.size → P b → Q b) : StepP w Q s := ⟨h.row.mono hp, h.len, h.small, h.id, h.kind, h.actor, h.tick, h.rule⟩
theorem StepP.ok {w : World} {P : Nat → Prop} {s : StepM} (h : StepP w P s) : s.Ok w := ⟨⟨h.row.trow, h.len, h.small⟩, h.id, h.kind, h.actor, h.tick, h.rule⟩
/-- The list as it grows: the generator lies at block g, the rows above it. -/
structure LsAt (V W : World) (g B : Nat) (v : Value) (l : List StepM) : Prop where
 k : KSt V W g
 own : W.ownsRow V.heap.size 59 7 v l.length (l.flatMap StepM.cells)
 each : ∀ x ∈ l, StepP W (fun q => g < q ∧ q < B) x
 low : ∀ q, v.ownBlock = some q → q < B
/-- A step in the making at block bx. -/
structure StAt (B : Nat) (W : World) (bx : Nat) (id kind actor tick rule : Int) (mv : List MvM) (s : Sl) : Prop where
 bk : Bk W bx 59 [.int .i64 id, .int .i64 kind, .int .i64 actor, .int .i64 tick, .int .i64 rule, .int .i64 0, .slice s.A s.n s.c]
 own : W.ownsRow B 125 5 (.slice s.A s.n s.c) mv.length (mv.flatMap MvM.cells)
structure BAt (V W : World) (g bx : Nat) (v : Value) (l : List StepM) (id kind actor tick rule : Int) (mv : List MvM) (s : Sl) : Prop where
 ls : LsAt V W g bx v l
 st : StAt bx W bx id kind actor tick rule mv s
 ge : V.heap.size ≤ bx
section
variable {V W W' : World} {g B bx : Nat} {v : Value} {l : List StepM} {id kind actor tick rule : Int} {mv : List MvM} {s : Sl}
theorem LsAt.kst (h : LsAt V W g B v l) (hk : KSt W W' g) : LsAt V W' g B v l :=
 ⟨h.k.trans hk, hk.own h.own (fun e => by have := row_base h.own g e; have := h.k.lt; omega), fun x hx => (h.each x hx).grown hk.gr fun q hq => by have := hq.1; simp; omega, h.low⟩
theorem LsAt.below (h : LsAt V W g B v l) (hb : Below W.heap.size W W') : LsAt V W' g B v l :=
 ⟨h.k.below hb, h.own.kept (grown_of_below hb none) (by cases v.ownBlock <;> simp), fun x hx => (h.each x hx).grown (grown_of_below hb none) fun q _ => by simp, h.low⟩
theorem LsAt.grow {row : Option Nat} (h : LsAt V W g B v l) (hg : W.grownBy W' row) (hr : ∀ b, row = some b → B ≤ b ∧ V.heap.size ≤ b) : LsAt V W' g B v l :=
 ⟨h.k.grow hg fun b hb => (hr b hb).2, h.own.kept hg (by
  by_cases e : v.ownBlock = none
  ·exact .inl e
  ·obtain ⟨q, hq⟩ := Option.ne_none_iff_exists'.1 e
   refine .inr fun e2 => ?_
   rw [hq] at e2
   have := (hr q e2.symm).1
   have := h.low q hq
   omega), fun x hx => (h.each x hx).grown hg fun q hq => fun e => by have := (hr q e.symm).1; have := hq.2; omega, h.low⟩
theorem LsAt.more {B' : Nat} (h : LsAt V W g B v l) (hB : B ≤ B') : LsAt V W g B' v l := ⟨h.k, h.own, fun x hx => (h.each x hx).mono fun q _ hq => ⟨hq.1, by have := hq.2; omega⟩, fun q hq => by have := h.low q hq; omega⟩
theorem BAt.gen (h : BAt V W g bx v l id kind actor tick rule mv s) : KOk W g := h.ls.k.ok
theorem BAt.kst (h : BAt V W g bx v l id kind actor tick rule mv s) (hk : KSt W W' g) : BAt V W' g bx v l id kind actor tick rule mv s :=
 have hgb : g < bx := by have := h.ge; have := h.ls.k.lt; omega
 ⟨h.ls.kst hk, ⟨hk.bk h.st.bk (by omega), hk.own h.st.own (fun e => by have := row_base h.st.own g e; omega)⟩, h.ge⟩
theorem BAt.below (h : BAt V W g bx v l id kind actor tick rule mv s) (hb : Below W.heap.size W W') : BAt V W' g bx v l id kind actor tick rule mv s :=
 ⟨h.ls.below hb, ⟨h.st.bk.below hb h.st.bk.lt, h.st.own.kept (grown_of_below hb none) (by cases (Value.slice s.A s.n s.c).ownBlock <;> simp)⟩, h.ge⟩
theorem StAt.len (h : StAt B W bx id kind actor tick rule mv s) : s.n = mv.length := by
 obtain ⟨A, c, e, _⟩ := row_of_owns h.own
 exact (Value.slice.inj e).2.1
theorem BAt.app {A' : Option Addr} {n' c' : Nat} {x : MvM} (h : BAt V W g bx v l id kind actor tick rule mv s) (hg : W.grownBy W' (Value.slice s.A s.n s.c).ownBlock) (hn : W'.ownsRow bx 125 5 (.slice A' n' c') n' (mv.flatMap MvM.cells ++ x.cells)) (hk : n' = mv.length + 1) :
 Bk W' bx 59 [.int .i64 id, .int .i64 kind, .int .i64 actor, .int .i64 tick, .int .i64 rule, .int .i64 0, .slice s.A s.n s.c] ∧ BAt V (W'.setCell ⟨bx, 6, none⟩ (.slice A' n' c')) g bx v l id kind actor tick rule (mv ++ [x]) ⟨A', n', c'⟩ := by
 have hbase := row_base h.st.own
 have kb := h.st.bk.grown hg (fun e => row_neT h.st.own h.st.bk (by decide) e.symm)
 have ho := hn.kept (grown_setCell W' bx 6 (.slice A' n' c')) (.inr (row_neT hn kb (by decide)))
 refine ⟨kb, ⟨(h.ls.grow hg fun b hb => ⟨hbase b hb, Nat.le_trans h.ge (hbase b hb)⟩).grow (grown_setCell W' bx 6 (.slice A' n' c')) fun b hb => (by cases hb; exact ⟨Nat.le_refl _, h.ge⟩), ⟨kb.set 6 _, ?_⟩, h.ge⟩⟩
 have e : (mv ++ [x]).length = n' := by simp [hk]
 rw [List.flatMap_append, e]
 simpa using ho
end
theorem BAt.done {V W W' : World} {g bx : Nat} {v v' : Value} {l : List StepM} {id kind actor tick rule : Int} {mv : List MvM} {s : Sl} (h : BAt V W g bx v l id kind actor tick rule mv s) (hin : In64 id ∧ In64 kind ∧ In64 actor ∧ In64 tick ∧ In64 rule) (hm : mv.length ≤ 3) (hg : W.grownBy W' v.ownBlock)
 (hn : W'.ownsRow V.heap.size 59 7 v' (l.length + 1) (l.flatMap StepM.cells ++ StepM.cells ⟨id, kind, actor, tick, rule, 0, mv, s⟩)) : LsAt V W' g W'.heap.size v' (l ++ [⟨id, kind, actor, tick, rule, 0, mv, s⟩]) := by
 have k125 : Keep 125 W W' := Keep.own h.ls.own hg (by decide)
 refine ⟨h.ls.k.grow hg (row_base h.ls.own), by rw [List.flatMap_append]; simpa using hn, fun x hx => ?_, fun q hq => (hn.lt q hq).2⟩
 rcases List.mem_append.1 hx with hx | hx
 ·exact ((h.ls.each x hx).keep k125).mono fun q hq hb => ⟨hb.1, hq⟩
 ·rw [List.mem_singleton.1 hx]
  have hs := h.st.len
  have ho := h.st.own
  rw [← hs] at ho
  have hgb : g < bx := by have := h.ge; have := h.ls.k.lt; omega
  exact ⟨((PRow.of_own ho).keep k125).mono fun q hq hb => ⟨by have := hb.2; omega, hq⟩, hs, (show s.n ≤ 1000 by omega), hin.1, hin.2.1, hin.2.2.1, hin.2.2.2.1, hin.2.2.2.2⟩
theorem newS (w : World) (s : StepM) : ∀ j u, s.cells[j]? = some u → (w.alloc (.cells #[.int .i64 s.id, .int .i64 s.kind, .int .i64 s.actor, .int .i64 s.tick, .int .i64 s.rule, .int .i64 s.times, .slice s.sm.A s.sm.n s.sm.c] 59)).cell? ((⟨w.heap.size, 0, none⟩ : Addr).add j) = some u := by
 have hb : (w.alloc (.cells #[.int .i64 s.id, .int .i64 s.kind, .int .i64 s.actor, .int .i64 s.tick, .int .i64 s.rule, .int .i64 s.times, .slice s.sm.A s.sm.n s.sm.c] 59)).heap[w.heap.size]? = some (.cells #[.int .i64 s.id, .int .i64 s.kind, .int .i64 s.actor, .int .i64 s.tick, .int .i64 s.rule, .int .i64 s.times, .slice s.sm.A s.sm.n s.sm.c] 59 (0, 0)) := Bk.new w 59 s.cells
 intro j u hu
 exact World.news_of_block hb j u hu
/-- What List gives. -/
def ListG (W : World) (e : Ending) (w' : World) : Prop := ∃ (s : Sl) (l : List StepM), e = .returned (.slice s.A s.n s.c) ∧ StepsV w' s l ∧ Below W.heap.size W w'
theorem in64_pos {a : Int} (h0 : 0 ≤ a) (h1 : a < 16) : In64 a := ⟨by omega, by omega⟩
set_option maxRecDepth 100000 in
set_option maxHeartbeats 8000000 in
theorem list_any {W : World} {A : Option Addr} {n c : Nat} {zs : List Int} (h : IntsV W A n zs) (hfar : ∀ b off, A = some ⟨b, off, none⟩ → b < W.heap.size) :
 Calls Tryz.prog 22 #[.slice A n c] W (ListG W) := by
 obtain ⟨i1, hi1, hy0, hy1, hy2⟩ := info_parts info125
 obtain ⟨i2, hi2, hx0, hx1, hx2⟩ := info_parts info59
 have y2 : Below W.heap.size W (W.alloc (.cells #[.slice A n c, .int .i64 0] 97)) := (Below.refl _ _).alloc (Nat.le_refl _) _
 have hok : KOk (W.alloc (.cells #[.slice A n c, .int .i64 0] 97)) W.heap.size := ⟨A, n, c, zs, 0, Bk.new W 97 [.slice A n c, .int .i64 0], h.below y2, fun b off e => by have := hfar b off e; omega, by decide, by decide⟩
 have HV : Hid ((W.alloc (.cells #[.slice A n c, .int .i64 0] 97)).heap.size = W.heap.size + 1) := Lib.hid (by simp)
 have HY := Lib.hid y2
 have HK0 := Lib.hid (KSt.refl hok)
 have K0 := Lib.hid (next_k 9 hok (by decide) (by decide))
 obtain ⟨V, hV⟩ : ∃ V, W.alloc (.cells #[.slice A n c, .int .i64 0] 97) = V := ⟨_, rfl⟩
 obtain ⟨g, hg⟩ : ∃ g, W.heap.size = g := ⟨_, rfl⟩
 have HVG : Hid (V.heap.size = g + 1) := Lib.hid (by rw [← hV, ← hg]; exact HV.out)
 have HYV : Hid (Below g W V) := Lib.hid (by rw [← hV, ← hg]; exact HY.out)
 have HKV : Hid (KSt V V g) := Lib.hid (by rw [← hV, ← hg]; exact HK0.out)
 have HG := Lib.hid hg
 have HVV := Lib.hid hV
 clear y2 hok h hfar HV HY HK0 hV hg
 go_enter Tryz.func22, Tryz.ntmps22
 go_wp2_with fail
 refine K0.out.mono ?_
 rintro e w1 ⟨x, rfl, x0, x1, hs⟩
 rw [HVV.out, HG.out] at hs
 have HK1 := Lib.hid hs
 obtain ⟨xn, rfl⟩ := Int.eq_ofNat_of_zero_le x0
 have hxn : xn ≤ 8 := by omega
 rw [HG.out]
 clear K0 hs x0 x1
 go_wp2_with fail
 go_loopw [4, 5] (fun v i wr => ∃ (j : Nat) (l : List StepM), i = .int .i64 j ∧ j + l.length ≤ 8 ∧ LsAt V wr g wr.heap.size v l) (fun _ i _ => (intOf i).toNat)
 case atStart => exact ⟨xn, [], rfl, by simpa using hxn, HK1.out, World.ownsRow_nil _ _ _ _, fun _ h => absurd h List.not_mem_nil, by simp [Value.ownBlock]⟩
 case round =>
  obtain ⟨j, l, rfl, hjl, hls⟩ := hrel
  have HLS := Lib.hid hls
  clear hls HK1 hxn
  by_cases hj : 0 < j
  ·have hj' : (0 : Int) < (j : Int) := by omega
   have hj'' : ¬ (j : Int) ≤ 0 := by omega
   have KY := Lib.hid (next_k 16 HLS.out.k.ok (by decide) (by decide))
   go_wp2_with fail
   (with_reducible refine KY.out.mono ?_)
   rintro e wa ⟨id, rfl, id0, id1, hs⟩
   have HLwa := Lib.hid (HLS.out.kst hs)
   have HLWA := Lib.hid hs.size
   clear KY hs
   have KY := Lib.hid (next_k 11 HLwa.out.k.ok (by decide) (by decide))
   go_wp2_with fail
   (with_reducible refine KY.out.mono ?_)
   rintro e wb ⟨kind, rfl, kind0, kind1, hs⟩
   have HLwb := Lib.hid (HLwa.out.kst hs)
   have HLWB := Lib.hid hs.size
   clear KY hs
   have KY := Lib.hid (next_k 6 HLwb.out.k.ok (by decide) (by decide))
   go_wp2_with fail
   (with_reducible refine KY.out.mono ?_)
   rintro e wc ⟨actor, rfl, actor0, actor1, hs⟩
   have HLwc := Lib.hid (HLwb.out.kst hs)
   have HLWC := Lib.hid hs.size
   clear KY hs
   have KY := Lib.hid (next_k 16 HLwc.out.k.ok (by decide) (by decide))
   go_wp2_with fail
   (with_reducible refine KY.out.mono ?_)
   rintro e wd ⟨tick, rfl, tick0, tick1, hs⟩
   have HLwd := Lib.hid (HLwc.out.kst hs)
   have HLWD := Lib.hid hs.size
   clear KY hs
   have KY := Lib.hid (next_k 9 HLwd.out.k.ok (by decide) (by decide))
   go_wp2_with fail
   (with_reducible refine KY.out.mono ?_)
   rintro e we ⟨rule, rfl, rule0, rule1, hs⟩
   have HLwe := Lib.hid (HLwd.out.kst hs)
   have hwr : IntKind.i64.wrap (rule - 5) = rule - 5 := by simp [IntKind.wrap_i64]; omega
   have hsz1 : wr.heap.size ≤ we.heap.size := by
    exact Nat.le_trans (Nat.le_trans HLWA.out HLWB.out) (Nat.le_trans HLWC.out (Nat.le_trans HLWD.out hs.size))
   have HB0 : Hid (BAt V (we.alloc (.cells #[.int .i64 id, .int .i64 kind, .int .i64 actor, .int .i64 tick, .int .i64 (rule - 5), .int .i64 0, .slice none 0 0] 59)) g we.heap.size u4 l id kind actor tick (rule - 5) [] ⟨none, 0, 0⟩) :=
    Lib.hid ⟨(HLwe.out.more hsz1).below ((Below.refl _ _).alloc (Nat.le_refl _) _), ⟨Bk.new we 59 [.int .i64 id, .int .i64 kind, .int .i64 actor, .int .i64 tick, .int .i64 (rule - 5), .int .i64 0, .slice none 0 0], World.ownsRow_nil _ _ _ _⟩, HLwe.out.k.size⟩
   have HIN : Hid (In64 id ∧ In64 kind ∧ In64 actor ∧ In64 tick ∧ In64 (rule - 5)) := Lib.hid ⟨in64_pos id0 id1, in64_pos kind0 (by omega), in64_pos actor0 (by omega), in64_pos tick0 tick1, ⟨by omega, by omega⟩⟩
   have KY2 := Lib.hid (next_k 4 HB0.out.gen (by decide) (by decide))
   clear KY hs HLwa HLwb HLwc HLwd HLwe HLS id0 id1 kind0 kind1 actor0 actor1 tick0 tick1 HLWA HLWB HLWC HLWD hsz1
   go_wp2_with fail
   (with_reducible refine KY2.out.mono ?_)
   rintro e wf ⟨m, rfl, m0, m1, hs⟩
   have HB1 := Lib.hid (HB0.out.kst hs)
   obtain ⟨mn, rfl⟩ := Int.eq_ofNat_of_zero_le m0
   have hmn : mn ≤ 3 := by omega
   clear KY2 hs HB0 m0 m1 rule0 rule1 hwr
   generalize rule - 5 = rule at *
   obtain ⟨bx, hbx⟩ : ∃ q, we.heap.size = q := ⟨_, rfl⟩
   rw [hbx] at HB1
   try simp only [hbx]
   clear hbx
   go_wp2_with fail
   go_loopw [7] (fun i wz => ∃ (j2 : Nat) (mv : List MvM) (s : Sl), i = .int .i64 j2 ∧ j2 + mv.length ≤ 3 ∧ BAt V wz g bx u4 l id kind actor tick rule mv s) (fun i _ => (intOf i).toNat)
   case atStart => exact ⟨mn, [], ⟨none, 0, 0⟩, rfl, by simpa using hmn, HB1.out⟩
   case round =>
    obtain ⟨j2, mv, s, rfl, hj2, hba⟩ := hrel
    have HLD := Lib.hid hba
    clear HB1 hba
    by_cases hp : 0 < j2
    ·have hp' : (0 : Int) < (j2 : Int) := by omega
     have hsn : s.n ≤ 3 := by rw [HLD.out.st.len]; omega
     have HSN : Hid (s.n = mv.length) := Lib.hid HLD.out.st.len
     have hwj : IntKind.i64.wrap ((j2 : Int) - 1) = ((j2 - 1 : Nat) : Int) := by simp [IntKind.wrap_i64]; omega
     have HLD := Lib.hid (HLD.out.below ((Below.refl _ _).drew))
     go_wp2
     refine wp_region_X (fun w' => Bk w' bx 59 [.int .i64 id, .int .i64 kind, .int .i64 actor, .int .i64 tick, .int .i64 rule, .int .i64 0, .slice s.A s.n s.c]) 14 (n := 15) rfl (by kernel_rfl) (HLD.out.st.bk) (fun hS => ?_)
     refine X_take 0 (some 35) (v := ?_) (listed' := #[true, false, false, false, false, false, false, false, false, false, false, false, false, false, false]) rfl rfl rfl (by kernel_rfl) (fun _ _ _ h => h) ⟨rfl, ?_⟩ hS ?_
     rotate_left
     ·intro w' hS'
      (go_simp; try with_reducible rfl)
     simp only [Act.put, List.setIfInBounds_toArray, List.set_cons_zero, List.set_cons_succ]
     refine X_take 1 (some 36) (v := ?_) (listed' := #[true, true, false, false, false, false, false, false, false, false, false, false, false, false, false]) rfl rfl rfl (by kernel_rfl) (fun _ _ _ h => h) ⟨rfl, ?_⟩ hS ?_
     rotate_left
     ·intro w' hS'
      have e0 : w'.cell? ⟨bx, 0, none⟩ = some (.int .i64 id) := hS'.cell 0
      have e1 : w'.cell? ⟨bx, 1, none⟩ = some (.int .i64 kind) := hS'.cell 1
      have e2 : w'.cell? ⟨bx, 2, none⟩ = some (.int .i64 actor) := hS'.cell 2
      have e3 : w'.cell? ⟨bx, 3, none⟩ = some (.int .i64 tick) := hS'.cell 3
      have e4 : w'.cell? ⟨bx, 4, none⟩ = some (.int .i64 rule) := hS'.cell 4
      have e5 : w'.cell? ⟨bx, 5, none⟩ = some (.int .i64 0) := hS'.cell 5
      have e6 : w'.cell? ⟨bx, 6, none⟩ = some (.slice s.A s.n s.c) := hS'.cell 6
      have el := hS'.lt
      (go_simp; try with_reducible rfl)
     simp only [Act.put, List.setIfInBounds_toArray, List.set_cons_zero, List.set_cons_succ]
     refine X_take 2 (some 37) (v := ?_) (listed' := #[true, true, true, false, false, false, false, false, false, false, false, false, false, false, false]) rfl rfl rfl (by kernel_rfl) (fun _ _ _ h => h) ⟨rfl, ?_⟩ hS ?_
     rotate_left
     ·intro w' hS'
      (go_simp; try with_reducible rfl)
     simp only [Act.put, List.setIfInBounds_toArray, List.set_cons_zero, List.set_cons_succ]
     refine X_take 4 (some 39) (v := ?_) (listed' := #[true, true, true, false, true, false, false, false, false, false, false, false, false, false, false]) rfl rfl rfl (by kernel_rfl) (fun _ _ _ h => h) ⟨rfl, ?_⟩ hS ?_
     rotate_left
     ·intro w' hS'
      (go_simp; try with_reducible rfl)
     simp only [Act.put, List.setIfInBounds_toArray, List.set_cons_zero, List.set_cons_succ]
     refine X_take 6 (some 41) (v := ?_) (listed' := #[true, true, true, false, true, false, true, false, false, false, false, false, false, false, false]) rfl rfl rfl (by kernel_rfl) (fun _ _ _ h => h) ⟨rfl, ?_⟩ hS ?_
     rotate_left
     ·intro w' hS'
      (go_simp; try with_reducible rfl)
     simp only [Act.put, List.setIfInBounds_toArray, List.set_cons_zero, List.set_cons_succ]
     refine X_take 8 (some 43) (v := ?_) (listed' := #[true, true, true, false, true, false, true, false, true, false, false, false, false, false, false]) rfl rfl rfl (by kernel_rfl) (fun _ _ _ h => h) ⟨rfl, ?_⟩ hS ?_
     rotate_left
     ·intro w' hS'
      (go_simp; try with_reducible rfl)
     simp only [Act.put, List.setIfInBounds_toArray, List.set_cons_zero, List.set_cons_succ]
     refine X_one 3 (listed' := #[true, true, true, true, true, false, true, false, true, false, false, false, false, false, false]) (by kernel_rfl) rfl rfl (fun K hK => ?_)
     go_simp
     have KY := Lib.hid (next_k 6 HLD.out.gen (by decide) (by decide))
     (with_reducible refine KY.out.mono ?_)
     rintro e wa ⟨f, rfl, f0, f1, hs⟩
     have HLwa := Lib.hid (HLD.out.kst hs)
     refine hK _ _ HLwa.out.st.bk ?_
     clear hK KY hs
     clear HLD
     refine X_one 5 (listed' := #[true, true, true, true, true, true, true, false, true, false, false, false, false, false, false]) (by kernel_rfl) rfl rfl (fun K hK => ?_)
     go_simp
     have KY := Lib.hid (next_k 6 HLwa.out.gen (by decide) (by decide))
     (with_reducible refine KY.out.mono ?_)
     rintro e wb ⟨t, rfl, t0, t1, hs⟩
     have HLwb := Lib.hid (HLwa.out.kst hs)
     refine hK _ _ HLwb.out.st.bk ?_
     clear hK KY hs
     clear HLwa
     refine X_one 7 (listed' := #[true, true, true, true, true, true, true, true, true, false, false, false, false, false, false]) (by kernel_rfl) rfl rfl (fun K hK => ?_)
     go_simp
     have KY := Lib.hid (next_k 5 HLwb.out.gen (by decide) (by decide))
     (with_reducible refine KY.out.mono ?_)
     rintro e wc ⟨it, rfl, it0, it1, hs⟩
     have HLwc := Lib.hid (HLwb.out.kst hs)
     refine hK _ _ HLwc.out.st.bk ?_
     clear hK KY hs
     clear HLwb
     refine X_one 9 (listed' := #[true, true, true, true, true, true, true, true, true, true, false, false, false, false, false]) (by kernel_rfl) rfl rfl (fun K hK => ?_)
     go_simp
     have KY := Lib.hid (next_k 12 HLwc.out.gen (by decide) (by decide))
     (with_reducible refine KY.out.mono ?_)
     rintro e wd ⟨nn, rfl, nn0, nn1, hs⟩
     have HLwd := Lib.hid (HLwc.out.kst hs)
     refine hK _ _ HLwd.out.st.bk ?_
     clear hK KY hs
     clear HLwc
     refine X_one 10 (listed' := #[true, true, true, true, true, true, true, true, true, true, true, false, false, false, false]) (by kernel_rfl) rfl rfl (fun K hK => ?_)
     go_simp
     refine hK _ _ HLwd.out.st.bk ?_
     clear hK
     refine X_one 11 (listed' := #[true, true, true, true, true, true, true, true, true, true, true, true, false, false, false]) (by kernel_rfl) rfl rfl (fun K hK => ?_)
     go_simp
     have HLe := Lib.hid (HLwd.out.below ((Below.refl _ _).alloc (Nat.le_refl _) (.cells #[.int .i64 f, .int .i64 t, .int .i64 it, .int .i64 nn, .slice none 0 0] 125)))
     refine hK _ _ HLe.out.st.bk ?_
     clear hK HLwd
     refine X_one 12 (listed' := #[true, true, true, true, true, true, true, true, true, true, true, true, true, false, false]) (by kernel_rfl) rfl rfl (fun K hK => ?_)
     have hl1 := Lib.hid HLe.out.st.len
     have hbl := HLe.out.st.bk.lt
     have hge := HLe.out.ge
     refine step_append_lies _ rfl (.tmp 36) (.tmp 46) 57 rfl bx 125 i1 (.agg #[.int .i64 0, .int .i64 0, .int .i64 0, .int .i64 0, .slice none 0 0]) 5 56 Tryz.underlying57 hi1 hy0 hy1 hy2 rfl (by decide) _ s.n (mv.flatMap MvM.cells) rfl (by have := HLe.out.st.own; rw [← hl1.out] at this; exact this) ⟨wd.heap.size, 0, none⟩ 1 1 [.int .i64 f, .int .i64 t, .int .i64 it, .int .i64 nn, .slice none 0 0] rfl rfl (new5 _ _ _ _ _ _ _) (one5 _ _ _ _) (by omega) (by unfold maxLen; omega) (by omega) (by omega) (wd.heap.size + 1) (by simp) ?_
     intro g' cap w8 hown8 hgr8 hat8 _
     have HQ8 := Lib.hid (HLe.out.app (x := ⟨f, t, it, nn, ⟨none, 0, 0⟩⟩) hgr8 hown8 (by rw [hl1.out]))
     refine hK _ _ HQ8.out.1 ?_
     clear hK hown8 hgr8 hat8 HLe
     have z6 : w8.cell? ⟨bx, 6, none⟩ = some (.slice s.A s.n s.c) := HQ8.out.1.cell 6
     have f6 := HQ8.out.1.frozen 6
     have zl := HQ8.out.1.lt
     refine X_one 13 (listed' := #[true, true, true, true, true, true, true, true, true, true, true, true, true, true, false]) (by kernel_rfl) rfl rfl (fun K hK => ?_)
     go_simp
     refine hK _ _ HQ8.out.1 ?_
     clear hK
     refine X_tail (by kernel_rfl) ?_
     refine A_one 14 (listed' := #[true, true, true, true, true, true, true, true, true, true, true, true, true, true, true]) (by kernel_rfl) rfl rfl (fun K hK => ?_)
     go_simp
     refine hK _ _ ?_
     clear hK
     refine A_done (by kernel_rfl) ?_
     clear hS
     go_wp2
     go_roundw
     case rel => exact ⟨j2 - 1, mv ++ [⟨f, t, it, nn, ⟨none, 0, 0⟩⟩], ⟨some ⟨g', 0, none⟩, s.n + 1, cap⟩, rfl, by simp; omega, HQ8.out.2⟩
     case measure => simp [intOf]; omega
    ·obtain rfl : j2 = 0 := by omega
     have hwj : IntKind.i64.wrap ((j : Int) - 1) = ((j - 1 : Nat) : Int) := by simp [IntKind.wrap_i64]; omega
     have c0 : wr.cell? ⟨bx, 0, none⟩ = some (.int .i64 id) := HLD.out.st.bk.cell 0
     have c1 : wr.cell? ⟨bx, 1, none⟩ = some (.int .i64 kind) := HLD.out.st.bk.cell 1
     have c2 : wr.cell? ⟨bx, 2, none⟩ = some (.int .i64 actor) := HLD.out.st.bk.cell 2
     have c3 : wr.cell? ⟨bx, 3, none⟩ = some (.int .i64 tick) := HLD.out.st.bk.cell 3
     have c4 : wr.cell? ⟨bx, 4, none⟩ = some (.int .i64 rule) := HLD.out.st.bk.cell 4
     have c5 : wr.cell? ⟨bx, 5, none⟩ = some (.int .i64 0) := HLD.out.st.bk.cell 5
     have c6 : wr.cell? ⟨bx, 6, none⟩ = some (.slice s.A s.n s.c) := HLD.out.st.bk.cell 6
     have cl := HLD.out.st.bk.lt
     have HN := Lib.hid (HLD.out.below ((Below.refl _ _).alloc (Nat.le_refl _) (.cells #[.int .i64 id, .int .i64 kind, .int .i64 actor, .int .i64 tick, .int .i64 rule, .int .i64 0, .slice s.A s.n s.c] 59)))
     have hvs := HN.out.ls.k.size
     clear HLD
     go_wp2_with (at_builtin; refine wpList_append_own_at _ rfl _ _ 54 rfl V.heap.size 59 i2 (.agg #[.int .i64 0, .int .i64 0, .int .i64 0, .int .i64 0, .int .i64 0, .int .i64 0, .slice none 0 0]) 7 72 Tryz.underlying54 hi2 hx0 hx1 hx2 rfl (by decide) _ l.length (l.flatMap StepM.cells) rfl HN.out.ls.own ⟨wr.heap.size, 0, none⟩ 1 1 (StepM.cells ⟨id, kind, actor, tick, rule, 0, mv, s⟩) rfl rfl (newS _ _) (oneS _) (by unfold maxLen; omega) (by omega) hvs ?_)
     intro v' w9 hown9 hgr9 _ hat9
     have HX := Lib.hid (HN.out.done HIN.out (by omega) hgr9 hown9)
     clear HN hown9 hgr9 hat9 c0 c1 c2 c3 c4 c5 c6 cl hvs
     go_wp2_with fail
     go_roundw
     case rel => exact ⟨j - 1, l ++ [⟨id, kind, actor, tick, rule, 0, mv, s⟩], rfl, by simp; omega, HX.out⟩
     case measure => simp [intOf]; omega
  ·obtain rfl : j = 0 := by omega
   have hq : ∃ A c, u4 = .slice A l.length c := by
    obtain ⟨A, c, e, _⟩ := row_of_owns HLS.out.own
    exact ⟨A, c, e⟩
   obtain ⟨A', c', rfl⟩ := hq
   have HQ : Hid (ListG W (.returned (.slice A' l.length c')) wr) := Lib.hid ⟨⟨A', l.length, c'⟩, l, rfl, ⟨TRow.of_own HLS.out.own, rfl, (show l.length ≤ 100 by omega), fun x hx => (HLS.out.each x hx).ok⟩, HLS.out.k.bel (w := W) (by rw [HG.out]; exact HYV.out) (by rw [HG.out]; exact Nat.le_refl _)⟩
   clear HLS
   go_wp2
   go_ret
   exact HQ.out
end
section
/-- The writer at block wb has written the bytes bs. -/
def WrAt (w : World) (B wb : Nat) (bs : List UInt8) (its rus : Sl) (fit : Bool) : Prop :=
 ∃ p v, (p = .pointer none ∨ p = .pointer (some ⟨wb, 0, none⟩)) ∧ Bk w wb 116 [p, v, .slice its.A its.n its.c, .slice rus.A rus.n rus.c, .bool fit] ∧ w.ownsRow B 5 1 v bs.length (Lib.byteCells bs) ∧ B ≤ wb
/-- Of what was there the writer and its bytes alone have changed. -/
structure GrW (B : Nat) (w w' : World) : Prop where
 low : Below B w w'
 keep : ∀ t, t ≠ 5 → t ≠ 116 → Keep t w w'
section
variable {B : Nat} {a b c w w' : World}
theorem GrW.refl (B : Nat) (w : World) : GrW B w w := ⟨Below.refl _ _, fun t _ _ => Keep.refl t w⟩
theorem GrW.trans (h : GrW B a b) (k : GrW B b c) : GrW B a c := ⟨h.low.trans k.low, fun t h1 h2 => (h.keep t h1 h2).trans (k.keep t h1 h2)⟩
theorem GrW.of_below (h : Below w.heap.size w w') (hB : B ≤ w.heap.size) : GrW B w w' := ⟨h.mono hB, fun t _ _ => .below h⟩
theorem GrW.of_own {v : Value} {n : Nat} {xs : List Value} (ho : w.ownsRow B 5 1 v n xs) (h : w.grownBy w' v.ownBlock) (hB : B ≤ w.heap.size) : GrW B w w' :=
 ⟨(Below.refl B w).grown h hB (row_base ho), fun t h1 _ => .own ho h (Ne.symm h1)⟩
theorem GrW.of_wb {g : Nat} {xs : List Value} (hb : Bk w g 116 xs) (h : w.grownBy w' (some g)) (hB : B ≤ w.heap.size) (hg : B ≤ g) : GrW B w w' :=
 ⟨(Below.refl B w).grown h hB (fun k hk => by cases hk; exact hg), fun t _ h2 => .grown h (hb.not (Ne.symm h2))⟩
theorem GrW.size (h : GrW B w w') : w.heap.size ≤ w'.heap.size := h.low.size
theorem MkM.Ok.keep {t : TypeId} {P : Nat → Prop} {m : MkM} (h : m.Ok w t P) (hk : Keep t w w') : m.Ok w' t P := by
 induction h with
 | mk op a b ks s row len small hop ha hb _ ih =>
   refine .mk op a b ks s ?_ len small hop ha hb ih
   rcases row with h | ⟨b, off, cur, fl, hA, hPb, hb, hc⟩
   ·exact .inl h
   ·exact .inr ⟨b, off, cur, fl, hA, hPb, hk b cur fl hb, hc⟩
theorem Bk.keep {g : Nat} {t : TypeId} {xs : List Value} (h : Bk w g t xs) (hk : Keep t w w') : Bk w' g t xs := hk g _ _ h
end
theorem shape_of {w : World} {g : Nat} {t : TypeId} {xs : List Value} (h : Bk w g t xs) : w.shape? g = some (t, xs.length) := by
 unfold Bk at h; simp [World.shape?, h]
theorem size114 : (Tryz.prog.info? 114).map (fun i => i.size) = some 2 := by kernel_rfl
theorem lies114 : liesAt Tryz.prog Tryz.prog.depth 116 (5 / Tryz.prog.cellsOf 116) 0 114 1 = true := by kernel_rfl
set_option maxRecDepth 100000 in
set_option maxHeartbeats 1000000 in
theorem copyCheck_any {w : World} {B wb : Nat} {bs : List UInt8} {its rus : Sl} {fit : Bool} (h : WrAt w B wb bs its rus fit) (hBw : B ≤ w.heap.size) :
 Calls Tryz.prog 123 #[.pointer (some ⟨wb, 0, none⟩)] w fun e w' => e = .returned (.tuple #[]) ∧ GrW B w w' ∧ ∃ v, Bk w' wb 116 [.pointer (some ⟨wb, 0, none⟩), v, .slice its.A its.n its.c, .slice rus.A rus.n rus.c, .bool fit] ∧ w'.ownsRow B 5 1 v bs.length (Lib.byteCells bs) ∧ B ≤ wb := by
 obtain ⟨p, v, hp, hb, hown, hB⟩ := h
 have hne : v.ownBlock ≠ some wb := fun e => by
  rcases hown.2 with ⟨hv, _⟩ | ⟨g, cap, cur, hv, _, hg, _⟩
  ·rw [hv] at e; cases e
  ·rw [hv] at e
   have e' : g = wb := by simpa [Value.ownBlock] using e
   subst e'
   unfold Bk at hb
   rw [hg] at hb
   cases hb
 have hl := hb.lt
 obtain ⟨j, hj, hjs⟩ := Option.map_eq_some_iff.1 size114
 rcases hp with rfl | rfl
 ·have c0 : w.cell? ⟨wb, 0, none⟩ = some (.pointer none) := hb.cell 0
  have f0 := hb.frozen 0
  have hsh : w.shape? wb = some (116, 5) := shape_of hb
  have HB := Lib.hid (hb.set 0 (.pointer (some ⟨wb, 0, none⟩)))
  have hg := grown_setCell w wb 0 (.pointer (some ⟨wb, 0, none⟩))
  have HO := Lib.hid (hown.kept hg (.inr (fun e => hne e)))
  have HG := Lib.hid (GrW.of_wb hb hg hBw hB)
  clear hb hown hne hg
  go_enter Tryz.func123, Tryz.ntmps123
  go_wp2
  rw [Lib.run_to_unsafe w ⟨wb, 0, none⟩ Tryz.underlying111 Tryz.underlying195 hj (by rw [hjs]; decide) hsh (show (0 : Nat) < 5 by decide)]
  simp only [Result.andThen]
  rw [Oper.upon_value]
  go_wp2
  rw [run_callFunc_extern Tryz.func136 (by kernel_rfl) (by kernel_rfl) (by kernel_rfl) (e := Extern.AbiNoEscape.same) (by kernel_rfl)]
  rw [Lib.run_noEscape]
  simp only [Result.andThen]
  rw [Oper.upon_value]
  go_wp2
  rw [Lib.run_from_unsafe w ⟨wb, 0, none⟩ Tryz.underlying195 Tryz.underlying111 hj hsh lies114]
  simp only [Result.andThen]
  rw [Oper.upon_value]
  go_wp2
  go_end0
  exact ⟨rfl, HG.out, v, HB.out, HO.out, hB⟩
 ·have c0 : w.cell? ⟨wb, 0, none⟩ = some (.pointer (some ⟨wb, 0, none⟩)) := hb.cell 0
  have HB := Lib.hid hb
  have HO := Lib.hid hown
  clear hb hown hne
  go_enter Tryz.func123, Tryz.ntmps123
  go_wp2
  rw [Lib.run_neq_ptr_same w _ Tryz.underlying111 hj]
  go_wp2
  go_end0
  exact ⟨rfl, .refl _ _, v, HB.out, HO.out, hB⟩
theorem info5 : (Tryz.prog.info? 5).map (fun i => (i.zero, i.size, i.bytes)) = some (some (.int .u8 0), 1, 1) := by kernel_rfl
theorem byteCells_app (bs : List UInt8) (s : ByteArray) : Lib.byteCells bs ++ Lib.strCells s = Lib.byteCells (bs ++ s.data.toList) := by simp [Lib.byteCells, Lib.strCells]
set_option maxRecDepth 100000 in
set_option maxHeartbeats 1000000 in
theorem write_any {w : World} {B wb : Nat} {bs : List UInt8} {its rus : Sl} {fit : Bool} (s : ByteArray) (h : WrAt w B wb bs its rus fit) (hBw : B ≤ w.heap.size) (hlen : bs.length + s.size ≤ 1000000) :
 Calls Tryz.prog 79 #[.pointer (some ⟨wb, 0, none⟩), .string s] w fun e w' => e = .returned (.tuple #[.int .i64 s.size, .nilIface]) ∧ WrAt w' B wb (bs ++ s.data.toList) its rus fit ∧ GrW B w w' := by
 obtain ⟨i0, hi, hz0, hz1, hz2⟩ := info_parts info5
 have K := Lib.hid (copyCheck_any h hBw)
 clear h
 go_enter Tryz.func79, Tryz.ntmps79
 go_wp2_with fail
 refine K.out.mono ?_
 rintro e w1 ⟨rfl, hG, v, hb, hown, hB⟩
 clear K
 have c1 : w1.cell? ⟨wb, 1, none⟩ = some v := hb.cell 1
 have hl := hb.lt
 have HG := Lib.hid hG
 have HB := Lib.hid hb
 have HO := Lib.hid hown
 have hsz := hG.size
 have hne : v.ownBlock ≠ some wb := fun e => by
  rcases hown.2 with ⟨hv, _⟩ | ⟨g, cap, cur, hv, _, hg, _⟩
  ·rw [hv] at e; cases e
  ·rw [hv] at e
   have e' : g = wb := by simpa [Value.ownBlock] using e
   subst e'
   unfold Bk at hb
   rw [hg] at hb
   cases hb
 clear hG hb hown
 go_wp2_with (at_builtin; refine Lib.wpList_append_own_string _ rfl _ _ 112 9 rfl B 5 i0 Tryz.underlying112 Tryz.underlying9 hi hz0 hz1 hz2 _ _ _ rfl HO.out s rfl ?c3 ?c4 ?c5 ?_)
 case c3 => unfold maxLen; omega
 case c4 => omega
 case c5 => omega
 intro v' w2 hown' hgrow _
 have hb2 := HB.out.grown hgrow (fun e => hne e.symm)
 have HG2 := Lib.hid (HG.out.trans (.of_own HO.out hgrow (by omega)))
 have HB2 := Lib.hid hb2
 have d1 : w2.cell? ⟨wb, 1, none⟩ = some v := hb2.cell 1
 have f1 := hb2.frozen 1
 have hl2 := hb2.lt
 have hs2 := hgrow.size
 have HO2 := Lib.hid hown'
 clear hb2 hown' hgrow HG HB HO
 obtain ⟨ao, n', cap, rfl⟩ : ∃ ao n' cap, v' = .slice ao n' cap := by
  rcases HO2.out.2 with ⟨hv, _⟩ | ⟨g, cap, cur, hv, _⟩
  ·exact ⟨_, _, _, hv⟩
  ·exact ⟨_, _, _, hv⟩
 go_wp2
 refine bodyPost_ret (v := .tuple #[.int .i64 s.size, .nilIface]) (by simp [results, Tryz.results79, go_sem]) rfl ?_
 have hg3 := grown_setCell w2 wb 1 (.slice ao n' cap)
 have hne2 : (Value.slice ao n' cap).ownBlock ≠ some wb := fun e => by
  rcases HO2.out.2 with ⟨hv, _⟩ | ⟨g, cap, cur, hv, _, hg, _⟩
  ·rw [hv] at e; cases e
  ·rw [hv] at e
   have e' : g = wb := by simpa [Value.ownBlock] using e
   subst e'
   have hb3 := HB2.out
   unfold Bk at hb3
   rw [hg] at hb3
   cases hb3
 refine ⟨rfl, ⟨_, _, .inr rfl, HB2.out.set 1 _, ?_, hB⟩, HG2.out.trans (.of_wb HB2.out hg3 (by omega) hB)⟩
 have := HO2.out.kept hg3 (.inr hne2)
 rw [byteCells_app] at this
 rw [List.length_append, Array.length_toList]
 exact this
end
theorem cells5 : Tryz.prog.cellsOf 5 = 1 := by kernel_rfl
set_option maxRecDepth 100000 in
set_option maxHeartbeats 2000000 in
theorem string_any {w : World} {B wb : Nat} {l : List UInt8} {its rus : Sl} {fit : Bool} (h : WrAt w B wb l its rus fit) (h0 : l ≠ []) (hsm : l.length ≤ 1000000) :
 Calls Tryz.prog 53 #[.pointer (some ⟨wb, 0, none⟩)] w fun e w' => e = .returned (.string ⟨l.toArray⟩) ∧ Below B w w' := by
 obtain ⟨p, v, hp, hb, hown, hB⟩ := h
 have hl0 : l.length ≠ 0 := by simpa using h0
 obtain ⟨g, cap, cur, rfl, hge, hbg, hnc, hcm, hcs, htake⟩ : ∃ g cap cur, v = .slice (some ⟨g, 0, none⟩) l.length cap ∧ B ≤ g ∧ w.heap[g]? = some (.cells cur 5 (0, 0)) ∧ l.length ≤ cap ∧ cap ≤ maxLen ∧ cur.size = cap * 1 ∧ cur.toList.take (l.length * 1) = Lib.byteCells l := by
  rcases hown.2 with ⟨_, hz⟩ | ⟨g, cap, cur, hv, r⟩
  ·exact absurd hz hl0
  ·exact ⟨g, cap, cur, hv, r⟩
 have c1 : w.drew.cell? ⟨wb, 1, none⟩ = some (.slice (some ⟨g, 0, none⟩) l.length cap) := hb.cell 1
 have c1' : w.cell? ⟨wb, 1, none⟩ = some (.slice (some ⟨g, 0, none⟩) l.length cap) := hb.cell 1
 have hlt := hb.lt
 have hSD : (Builtin.unsafeSliceData_ #[112] 162 #[.slice (some ⟨g, 0, none⟩) l.length cap]).run Tryz.prog w.drew = .ok (.pointer (some ⟨g, 0, none⟩)) w.drew :=
  Lib.run_unsafeSliceData_row _ _ _ _ _ _ (by omega)
 have hUS : (Builtin.unsafeString_ #[162, 3] 9 #[.pointer (some ⟨g, 0, none⟩), .int .i64 l.length]).run Tryz.prog w.drew = .ok (.string ⟨l.toArray⟩) (w.drew.freeze ⟨g, 0, none⟩ l.length) := by
  refine Lib.run_unsafeString_row w.drew 162 3 9 5 Tryz.underlying162 cells5 g cur.size (by have hg' : w.drew.heap[g]? = some (.cells cur 5 (0, 0)) := hbg; simp [World.shape?, hg']) l h0 (by omega) (by omega) ?_
  intro j x hx
  have := hown.cells (g := g) rfl j (.int .u8 x.toNat) (by simp [Lib.byteCells, hx])
  exact this
 clear hb hown htake hcs hnc hcm hbg
 generalize l.length = n at *
 go_enter Tryz.func53, Tryz.ntmps53
 go_wp2
 go_region
 all_goals (go_wp2; go_ret; exact ⟨rfl, Lib.below_freeze (Below.drew (Below.refl B w)) (p := ⟨g, 0, none⟩) hge _⟩)
theorem toks_mem {s : ByteArray} {t : Tok} : ∀ p, t ∈ toksFrom s p → ∃ q, q < s.size ∧ t = nextT s q := by
 intro p
 induction hm : s.size - p using Nat.strongRecOn generalizing p with
 | _ m ih =>
   by_cases h : p < s.size
   ·by_cases he : (nextT s p).err = 0
    ·rw [toksFrom_go h he]
     intro hx
     rcases List.mem_cons.1 hx with e | hx
     ·exact ⟨p, h, e⟩
     ·obtain ⟨h1, h2⟩ := nextT_size h
      have h3 := skipS_bd s (p + (nextT s p).text.size) h1
      have h4 := h2 he
      exact ih (s.size - skipS s (p + (nextT s p).text.size)) (by omega) _ rfl hx
    ·rw [toksFrom_err h he]
     intro hx
     exact ⟨p, h, by simpa using hx⟩
   ·rw [toksFrom_end (by omega)]
    intro hx; cases hx
theorem nextT_num {s : ByteArray} {p : Nat} (he : (nextT s p).err = 0) : 0 ≤ (nextT s p).num ∧ (nextT s p).num ≤ 1099511627776 := by
 have z : ∀ (k : Int) (x : ByteArray) (a e : Int), 0 ≤ (Tok.mk k x 0 a e).num ∧ (Tok.mk k x 0 a e).num ≤ 1099511627776 := fun _ _ _ _ => ⟨by show (0 : Int) ≤ 0; omega, by show (0 : Int) ≤ 1099511627776; omega⟩
 unfold nextT at he ⊢
 split
 ·split <;> exact z _ _ _ _
 ·rename_i h3
  rw [if_neg h3] at he
  split
  ·rename_i h4
   rw [if_pos h4] at he
   split
   ·rename_i h5; rw [if_pos h5] at he; cases he
   ·rename_i h5
    dsimp only
    refine ⟨?_, by omega⟩
    refine numE_nonneg (n := runEnd digB s (p + 1) - p) (fun i hi => ?_) _ (Nat.le_refl _)
    cases i with
    | zero => exact h4
    | succ i =>
      have := runEnd_in (f := digB) (s := s) (j := p + 1) (i := p + (i + 1)) (by omega) (by omega)
      simpa [digB] using this
  ·split
   ·exact z _ _ _ _
   ·split
    ·split <;> exact z _ _ _ _
    ·exact z _ _ _ _
theorem toks_ok {s : ByteArray} (hs : s.size ≤ 8192) {t : Tok} (h : t ∈ toks s) (he : t.err = 0) : t.text.size ≤ 8192 ∧ In64 t.num := by
 obtain ⟨q, hq, rfl⟩ := toks_mem _ h
 have h1 := (nextT_size hq).1
 have h2 := nextT_num he
 refine ⟨by omega, ?_⟩
 unfold In64; omega
def badTok (ts : List Tok) : Option Tok := ts.find? fun t => t.err != 0
theorem bad_none {ts : List Tok} (h : ∀ t ∈ ts, t.err = 0) : badTok ts = none := by
 unfold badTok
 rw [List.find?_eq_none]
 intro t ht
 simp [h t ht]
theorem bad_some {ts init : List Tok} {last : Tok} (hp : init ++ [last] <+: ts) (hi : ∀ t ∈ init, t.err = 0) (hl : last.err ≠ 0) : badTok ts = some last := by
 obtain ⟨r, rfl⟩ := hp
 unfold badTok
 rw [List.append_assoc, List.find?_append]
 have : init.find? (fun t => t.err != 0) = none := by
  rw [List.find?_eq_none]
  intro t ht
  simp [hi t ht]
 rw [this]
 simp [hl]
/-- What reading.New hands back. -/
def NewR (w : World) (s : ByteArray) (e : Ending) (w' : World) : Prop :=
 match badTok (toks s) with
 | some t => e = .returned (.tuple #[.pointer none, .int .i64 t.at_, .int .i64 t.err]) ∧ t.err ≠ 0 ∧ Below w.heap.size w w'
 | none => ∃ rb, e = .returned (.tuple #[.pointer (some ⟨rb, 0, none⟩), .int .i64 0, .int .i64 0]) ∧ RdAt w' rb (toks s) s.size ∧ w.heap.size ≤ rb ∧ Below w.heap.size w w' ∧ ∀ t ∈ toks s, t.text.size ≤ 8192 ∧ In64 t.num
set_option maxRecDepth 100000 in
theorem newR_any (s : ByteArray) (hs : s.size ≤ 8192) (w : World) (hT : Tab w) : Calls Tryz.prog 71 #[.string s] w (NewR w s) := by
 have K := Lib.hid (tokens_all s hs w hT)
 have hok := @toks_ok s hs
 have hln : (toks s).length ≤ 8192 := by
  have := toks_len s (skipS s 0)
  show (toksFrom s (skipS s 0)).length ≤ 8192
  omega
 clear hT
 go_enter Tryz.func71, Tryz.ntmps71
 go_wp2_with fail
 refine K.out.mono ?_
 intro e w1 hp
 clear K
 rcases hp with ⟨hz, v, rfl, hown, hb⟩ | ⟨init, last, hpre, hi, hl, rfl, hb⟩
 ·have hbad := bad_none hz
  have hQ : ∀ (e : Ending) (w' : World), (∃ rb, e = .returned (.tuple #[.pointer (some ⟨rb, 0, none⟩), .int .i64 0, .int .i64 0]) ∧ RdAt w' rb (toks s) s.size ∧ w.heap.size ≤ rb ∧ Below w.heap.size w w' ∧ ∀ t ∈ toks s, t.text.size ≤ 8192 ∧ In64 t.num) → NewR w s e w' := fun e w' h => by
   unfold NewR; rw [hbad]; exact h
  have HQ := Lib.hid hQ
  have HT := Lib.hid (fun t ht => hok ht (hz t ht))
  have hrow : ∃ A c, v = .slice A (toks s).length c ∧ TRow w1 186 A (kcells (toks s)) ∧ (toks s).length ≤ c ∧ ∀ b off, A = some ⟨b, off, none⟩ → b < w1.heap.size := by
   rcases hown.2 with ⟨hv, h0⟩ | ⟨g, cap, cur, hv, hge, hg, hc, _⟩
   ·exact ⟨none, 0, by rw [hv, h0], .inl (by rw [List.eq_nil_of_length_eq_zero h0]; rfl), by omega, fun b off h => by cases h⟩
   ·refine ⟨some ⟨g, 0, none⟩, cap, hv, TRow.of_own (hv ▸ hown), hc, fun b off h => ?_⟩
    cases h
    exact (Array.getElem?_eq_some_iff.1 hg).1
  obtain ⟨A, c, rfl, hrw, hc, hlt⟩ := hrow
  have HY := Lib.hid hb
  have HR : Hid (RdAt (w1.alloc (.cells #[.slice A (toks s).length c, .int .i64 s.size] 176)) w1.heap.size (toks s) s.size) :=
   Lib.hid ⟨A, c, Bk.new w1 176 _, hrw.keep (.alloc 186 w1 _), hc, hln, hlt⟩
  clear hbad hQ hz hown hb hrw hlt hok
  generalize toks s = ts at *
  go_wp2
  refine bodyPost_ret (v := .tuple #[.pointer (some ⟨w1.heap.size, 0, none⟩), .int .i64 0, .int .i64 0]) (by simp [results, Tryz.results71, go_sem]) rfl ?_
  exact HQ.out _ _ ⟨_, rfl, HR.out, HY.out.size, HY.out.alloc HY.out.size _, HT.out⟩
 ·have hbad := bad_some hpre hi hl
  have hQ : ∀ (e : Ending) (w' : World), (e = .returned (.tuple #[.pointer none, .int .i64 last.at_, .int .i64 last.err]) ∧ last.err ≠ 0 ∧ Below w.heap.size w w') → NewR w s e w' := fun e w' h => by
   unfold NewR; rw [hbad]; exact h
  have HQ := Lib.hid hQ
  have HY := Lib.hid hb
  have HL := Lib.hid hl
  have hl' : ¬ last.err = 0 := hl
  clear hbad hQ hpre hi hb hok hl
  go_wp2
  refine bodyPost_ret (v := .tuple #[.pointer none, .int .i64 last.at_, .int .i64 last.err]) (by simp [results, Tryz.results71, go_sem]) rfl ?_
  exact HQ.out _ _ ⟨rfl, HL.out, HY.out⟩
theorem gPow : Tryz.prog.globalNamed "internal/strconv.uint64pow10" = some 0 := by kernel_rfl
def TabP (W : World) : Prop := Lib.TabIs Tryz.prog W "internal/strconv.uint64pow10" .u64 Lib.pow10Tab
theorem TabP.lt {W : World} (h : TabP W) : 0 < W.heap.size := by
 unfold TabP Lib.TabIs World.var? at h
 rw [gPow] at h
 rcases Nat.eq_zero_or_pos W.heap.size with h0 | h0
 ·have : W.heap[0]? = none := Array.getElem?_eq_none (by omega)
  simp [this] at h
 ·exact h0
theorem TabP.below {B : Nat} {W W' : World} (h : TabP W) (hb : Below B W W') (hB : 0 < B) : TabP W' := by
 unfold TabP Lib.TabIs World.var? at h ⊢
 rw [gPow] at h ⊢
 simp only [Option.bind_some] at h ⊢
 rw [hb.block 0 hB]
 exact h
theorem below_growN (w : World) (k : Nat) (os : Array Obj) : Below w.heap.size w (Sort.grow (w.drewN k) os) := ⟨rfl, rfl, rfl, by simp [Sort.grow], fun i hi => by
 show (w.heap ++ os)[i]? = _
 rw [Array.getElem?_append_left hi]⟩
theorem itoa_any (n : Int) (hn : In64 n) (w : World) (hT : TabP w) : Calls Tryz.prog 83 #[.int .i64 n] w fun e w' => e = .returned (.string ⟨(Lib.itoa n).toArray⟩) ∧ Below w.heap.size w w' := by
 refine (Tryz.strconv_Itoa n hn.1 hn.2 w hT).mono ?_
 rintro e w' ⟨rfl, k, os, rfl⟩
 exact ⟨rfl, below_growN _ _ _⟩
theorem fitG_bad {s : ByteArray} {init : List Tok} {last : Tok} (hp : init ++ [last] <+: toks s) (hl : last.err ≠ 0) : fitG s = false := by
 unfold fitG
 obtain ⟨r, hr⟩ := hp
 rw [← hr]
 cases init with
 | nil =>
   cases r with
   | nil => simp [hl]
   | cons x xs => rfl
 | cons y ys => cases ys <;> rfl
theorem WrAt.lt {w : World} {B wb : Nat} {bs : List UInt8} {its rus : Sl} {fit : Bool} (h : WrAt w B wb bs its rus fit) : wb < w.heap.size := by
 obtain ⟨p, v, _, hb, _⟩ := h; exact hb.lt
theorem WrAt.below {w w' : World} {B wb : Nat} {bs : List UInt8} {its rus : Sl} {fit : Bool} (h : WrAt w B wb bs its rus fit) (hb : Below w.heap.size w w') : WrAt w' B wb bs its rus fit := by
 obtain ⟨p, v, h1, h2, h3, h4⟩ := h
 exact ⟨p, v, h1, h2.below hb h2.lt, h3.kept (grown_of_below hb none) (by cases v.ownBlock <;> simp), h4⟩
theorem WrAt.unfit {w : World} {B wb : Nat} {bs : List UInt8} {its rus : Sl} {fit : Bool} (h : WrAt w B wb bs its rus fit) (hB : B ≤ w.heap.size) : WrAt (w.setCell ⟨wb, 4, none⟩ (.bool false)) B wb bs its rus false ∧ GrW B w (w.setCell ⟨wb, 4, none⟩ (.bool false)) := by
 obtain ⟨p, v, h1, h2, h3, h4⟩ := h
 have hgr := grown_setCell w wb 4 (.bool false)
 have hne : v.ownBlock ≠ some wb := fun e => by
  rcases h3.2 with ⟨hv, _⟩ | ⟨g, cap, cur, hv, _, hg, _⟩
  ·rw [hv] at e; cases e
  ·rw [hv] at e
   have e' : g = wb := by simpa [Value.ownBlock] using e
   subst e'
   unfold Bk at h2
   rw [hg] at h2
   cases h2
 exact ⟨⟨p, v, h1, h2.set 4 _, h3.kept hgr (.inr hne), h4⟩, .of_wb h2 hgr hB h4⟩
theorem WrAt.cells {w : World} {B wb : Nat} {bs : List UInt8} {its rus : Sl} {fit : Bool} (h : WrAt w B wb bs its rus fit) : w.cell? ⟨wb, 2, none⟩ = some (.slice its.A its.n its.c) ∧ w.cell? ⟨wb, 3, none⟩ = some (.slice rus.A rus.n rus.c) ∧ w.cell? ⟨wb, 4, none⟩ = some (.bool fit) ∧ w.frozen? ⟨wb, 4, none⟩ = false := by
 obtain ⟨p, v, h1, h2, h3, h4⟩ := h
 exact ⟨h2.cell 2, h2.cell 3, h2.cell 4, h2.frozen 4⟩
/-- What name leaves of the writer. -/
def NameW (w : World) (B wb : Nat) (bs : List UInt8) (its rus : Sl) (fit : Bool) (s : ByteArray) (ok : Bool) (e : Ending) (w' : World) : Prop := e = .returned (.string s) ∧ WrAt w' B wb bs its rus (fit && ok) ∧ GrW B w w'
/-- Whether a name can be read again. -/
def wordOk (l : List ByteArray) (k : Nat) : Bool := fitG (l[k]?.getD ⟨#[]⟩) && decide (nameIx l (l[k]?.getD ⟨#[]⟩) = some k)
set_option maxRecDepth 100000 in
set_option maxHeartbeats 2000000 in
theorem nameW_any {w : World} {B wb : Nat} {bs : List UInt8} {its rus : Sl} {fit : Bool} {A : Option Addr} {n c : Nat} {l : List ByteArray} (k : Nat) (h : WrAt w B wb bs its rus fit) (hBw : B ≤ w.heap.size) (hT : Tab w) (hN : NmV w A n l) (hk : k < l.length) (hs : (l[k]).size ≤ 8192) :
 Calls Tryz.prog 82 #[.pointer (some ⟨wb, 0, none⟩), .slice A n c, .int .i64 k] w (NameW w B wb bs its rus fit l[k] (wordOk l k)) := by
 have hwo : wordOk l k = (fitG l[k] && decide (nameIx l l[k] = some k)) := by
  unfold wordOk; rw [List.getElem?_eq_getElem hk]; rfl
 rw [hwo]
 obtain ⟨b, off, rfl, hbb, c0⟩ := hN.at_ k hk
 have hkn : k < n := by have := hN.len; omega
 have hn := hN.small
 have KT := Lib.hid (tokens_all l[k] hs w hT)
 have H := Lib.hid h
 have HN := Lib.hid hN
 have hix : nameIx l l[k] ≠ none := by
  intro e
  have : ∀ (l : List ByteArray) (s : ByteArray), s ∈ l → nameIx l s ≠ none := by
   intro l s
   induction l with
   | nil => intro h; cases h
   | cons x xs ih =>
     intro h
     simp only [nameIx]
     split
     ·simp
     ·rename_i hne
      rcases List.mem_cons.1 h with e | h
      ·exact absurd e.symm hne
      ·have := ih h
       cases hq : nameIx xs s with
       | none => exact absurd hq this
       | some j => simp
  exact this l _ (List.getElem_mem hk) e
 obtain ⟨j, hj⟩ := Option.ne_none_iff_exists'.1 hix
 have hixo : ixOf l l[k] = j := by unfold ixOf; rw [hj]
 have hjl := nameIx_lt hj
 rw [hj]
 have hl := h.lt
 clear h hN hwo hix hj
 generalize hnm : l[k] = nm at *
 go_enter Tryz.func82, Tryz.ntmps82
 go_wp2_with fail
 refine KT.out.mono ?_
 intro e w1 hp
 clear KT
 rcases hp with ⟨hz, v, rfl, hown, hb⟩ | ⟨init, last, hpre, hi, hlt, rfl, hb⟩
 ·have hrow : ∃ A c, v = .slice A (toks nm).length c ∧ TRow w1 186 A (kcells (toks nm)) := by
   rcases hown.2 with ⟨hv, h0⟩ | ⟨g, cap, cur, hv, hge, hg, hc, _⟩
   ·exact ⟨none, 0, by rw [hv, h0], .inl (by rw [List.eq_nil_of_length_eq_zero h0]; rfl)⟩
   ·exact ⟨some ⟨g, 0, none⟩, cap, hv, TRow.of_own (hv ▸ hown)⟩
  obtain ⟨A', c', rfl, hrw⟩ := hrow
  obtain ⟨x2, x3, x4, f4⟩ := (H.out.below hb).cells
  have hl1 := (H.out.below hb).lt
  have HU := Lib.hid ((H.out.below hb).unfit (Nat.le_trans hBw hb.size))
  have HW := Lib.hid (H.out.below hb)
  have HG := Lib.hid (GrW.of_below (B := B) hb hBw)
  have HN1 := Lib.hid (HN.out.below hb)
  have c1 := (show w1.cell? ⟨b, off + k, none⟩ = some (.string nm) from by rw [hb.cell hbb]; exact c0)
  clear hb hown
  by_cases hl : (toks nm).length = 1
  ·obtain ⟨tk, htk⟩ := List.length_eq_one_iff.1 hl
   rw [htk] at hrw
   obtain ⟨g, off', rfl, hgb, d⟩ := TRow.at_ (f := Tok.cells) (n := 4) (fun _ => rfl) hrw 0 (by simp) (by omega)
   have d0 := d 0 _ rfl
   have d1 := d 1 _ rfl
   simp only [Nat.mul_zero, Nat.add_zero, List.getElem_cons_zero] at d0 d1
   have he0 := hz tk (by rw [htk]; simp)
   have hfe : fitG nm = (decide (tk.kind = 0) && decide (tk.text = nm)) := by
    unfold fitG; rw [htk]; simp [he0]
   have HF := Lib.hid hfe
   rw [hl]
   have KX := Lib.hid (index_any (c := c) nm HN1.out)
   rw [hixo] at KX
   clear hfe hrw hz hl htk he0 d
   generalize tk.kind = kk at *
   generalize tk.text = tx at *
   by_cases hk0 : kk = 0
   ·by_cases htx : tx = nm
    ·by_cases hjk : j = k
     ·subst hk0; subst htx; subst hjk
      have e2 : (tx.toList == tx.toList) = true := by simp
      have HR := Lib.hid (show NameW w B wb bs its rus fit tx (fitG tx && decide (some j = some j)) (.returned (.string tx)) w1 from ⟨rfl, by rw [HF.out]; simpa using HW.out, HG.out⟩)
      go_wp2_with fail
      refine KX.out.mono ?_
      rintro e2 w2 ⟨rfl, rfl⟩
      go_wp2
      go_ret
      exact HR.out
     ·subst hk0; subst htx
      have e2 : (tx.toList == tx.toList) = true := by simp
      have hjk2 : ¬ (j : Int) = k := by omega
      have HR := Lib.hid (show NameW w B wb bs its rus fit tx (fitG tx && decide (some j = some k)) (.returned (.string tx)) (w1.setCell ⟨wb, 4, none⟩ (.bool false)) from ⟨rfl, by rw [HF.out]; simpa [hjk] using HU.out.1, HG.out.trans HU.out.2⟩)
      go_wp2_with fail
      refine KX.out.mono ?_
      rintro e2 w2 ⟨rfl, rfl⟩
      go_wp2
      go_ret
      exact HR.out
    ·have e2 := eqL tx nm
     have e3 : (tx.toList == nm.toList) = false := by rw [e2]; simp [htx]
     clear e2
     have HR := Lib.hid (show NameW w B wb bs its rus fit nm (fitG nm && decide (some j = some k)) (.returned (.string nm)) (w1.setCell ⟨wb, 4, none⟩ (.bool false)) from ⟨rfl, by rw [HF.out]; simpa [htx] using HU.out.1, HG.out.trans HU.out.2⟩)
     go_wp2
     go_ret
     exact HR.out
   ·have hk1 : (kk == 0) = false := by simpa using hk0
    go_wp2
    go_ret
    exact ⟨rfl, by rw [HF.out]; simpa [hk0] using HU.out.1, HG.out.trans HU.out.2⟩
  ·have hf : fitG nm = false := by
    unfold fitG
    split
    ·rename_i t e; rw [e] at hl; exact absurd rfl hl
    ·rfl
   have hl' : ¬ (((toks nm).length : Nat) : Int) = 1 := by omega
   have HF := Lib.hid hf
   clear hf hrw hl
   generalize toks nm = ts at *
   go_wp2
   go_ret
   exact ⟨rfl, by rw [HF.out]; simpa using HU.out.1, HG.out.trans HU.out.2⟩
 ·have HF := Lib.hid (fitG_bad hpre hlt)
  obtain ⟨x2, x3, x4, f4⟩ := (H.out.below hb).cells
  have hl1 := (H.out.below hb).lt
  have HU := Lib.hid ((H.out.below hb).unfit (Nat.le_trans hBw hb.size))
  have HG := Lib.hid (GrW.of_below (B := B) hb hBw)
  have hlt' : ¬ last.err = 0 := hlt
  have hlt2 : (last.err == 0) = false := by simpa using hlt
  clear hpre hi hlt hb
  go_wp2
  go_ret
  exact ⟨rfl, by rw [HF.out]; simpa using HU.out.1, HG.out.trans HU.out.2⟩
def nmAt (l : List ByteArray) (k : Int) : ByteArray := l[k.toNat]?.getD ⟨#[]⟩
/-- The text of a condition. -/
def condT (rn it : List ByteArray) (op : ByteArray) (a b : Int) : List UInt8 :=
 (op.data.toList ++ [32]) ++ (if op = sKind then (nmAt kindNs a).data.toList else if op = sRule then (nmAt rn a).data.toList else if op = sItem then (nmAt it a).data.toList else if op = sMore then (Lib.itoa a ++ [32]) ++ (nmAt it b).data.toList else if isTwo op then (Lib.itoa a ++ [46, 46]) ++ Lib.itoa b else Lib.itoa a)
/-- Whether a kid stands in parentheses. -/
def parT (op k : ByteArray) : Bool := (decide (k = sAnd) || decide (k = sOr)) && (decide (op = sNot) || decide (op = k) || decide (op = sAnd))
def wrapT (p : Bool) (l : List UInt8) : List UInt8 := if p then ([40] ++ l) ++ [41] else l
/-- What stands ahead of a kid. -/
def sepT (op : ByteArray) (first : Bool) : List UInt8 := if first then [] else ([32] ++ op.data.toList) ++ [32]
mutual
def Mk.text (rn it : List ByteArray) : Mk → List UInt8
 | .node op a b ks => if op = sAnd ∨ op = sOr then Mk.textL rn it op true ks else if op = sNot then [110, 111, 116, 32] ++ Mk.textL rn it op true ks else condT rn it op a b
def Mk.textL (rn it : List ByteArray) (op : ByteArray) : Bool → List Mk → List UInt8
 | _, [] => []
 | f, k :: ks => (sepT op f ++ wrapT (parT op k.op) (Mk.text rn it k)) ++ Mk.textL rn it op false ks
end
/-- Whether the names of a condition can be read again. -/
def condF (rn it : List ByteArray) (op : ByteArray) (a b : Int) : Bool := if op = sRule then wordOk rn a.toNat else if op = sItem then wordOk it a.toNat else if op = sMore then wordOk it b.toNat else true
mutual
def Mk.named (rn it : List ByteArray) : Mk → Bool
 | .node op a b ks => condF rn it op a b && Mk.namedL rn it ks
def Mk.namedL (rn it : List ByteArray) : List Mk → Bool
 | [] => true
 | k :: ks => Mk.named rn it k && Mk.namedL rn it ks
end
theorem textL_snoc (rn it : List ByteArray) (op : ByteArray) (ks : List Mk) (k : Mk) : ∀ f, Mk.textL rn it op f (ks ++ [k]) = Mk.textL rn it op f ks ++ (sepT op (f && ks.isEmpty) ++ wrapT (parT op k.op) (Mk.text rn it k)) := by
 induction ks with
 | nil => intro f; cases f <;> simp [Mk.textL]
 | cons x xs ih => intro f; simp [Mk.textL, ih]
theorem namedL_snoc (rn it : List ByteArray) (ks : List Mk) (k : Mk) : Mk.namedL rn it (ks ++ [k]) = (Mk.namedL rn it ks && Mk.named rn it k) := by
 induction ks with
 | nil => simp [Mk.namedL]
 | cons x xs ih => simp [Mk.namedL, ih, Bool.and_assoc]
theorem checkL_mem {ni nr : Nat} {ks : List Mk} (h : Mk.checkL ni nr ks = 0) : ∀ k ∈ ks, k.check ni nr = 0 := by
 induction ks with
 | nil => intro k hk; cases hk
 | cons x xs ih =>
   simp only [Mk.checkL] at h
   split at h
   ·rename_i hx; exact absurd h hx
   ·rename_i hx
    intro k hk
    rcases List.mem_cons.1 hk with rfl | hk
    ·exact Classical.not_not.1 hx
    ·exact ih h k hk
theorem check_node {ni nr : Nat} {op : ByteArray} {a b : Int} {ks : List Mk} (h : (Mk.node op a b ks).check ni nr = 0) : aloneE ni nr op a b ks.length = 0 ∧ ∀ k ∈ ks, k.check ni nr = 0 := by
 simp only [Mk.check] at h
 split at h
 ·rename_i hx; exact absurd h hx
 ·rename_i hx
  exact ⟨Classical.not_not.1 hx, checkL_mem h⟩
theorem alone_cond {ni nr : Nat} {op : ByteArray} {a b : Int} {n : Nat} (h : aloneE ni nr op a b n = 0) (h1 : op ≠ sAnd) (h2 : op ≠ sOr) (h3 : op ≠ sNot) : isOp op = true ∧ n = 0 ∧ namesOk op ni nr a b = true ∧ rangeK op a b = true := by
 unfold aloneE at h
 rw [if_neg (by simp [h1, h2]), if_neg h3] at h
 split at h
 ·cases h
 ·rename_i h4
  split at h
  ·cases h
  ·rename_i h5
   split at h
   ·cases h
   ·rename_i h6
    simp only [not_or] at h4
    exact ⟨by simpa using h4.1, by omega, by simpa using h5, by simpa using h6⟩
theorem alone_not {ni nr : Nat} {a b : Int} {n : Nat} (h : aloneE ni nr sNot a b n = 0) : n = 1 := by
 unfold aloneE at h
 rw [if_neg (by decide), if_pos rfl] at h
 split at h
 ·cases h
 ·rename_i h4; simp only [not_or] at h4; exact Classical.not_not.1 h4.1
theorem isOp_size {op : ByteArray} (h : isOp op = true) : op.data.toList.length ≤ 7 := by
 unfold isOp at h
 simp only [Bool.or_eq_true, decide_eq_true_eq] at h
 rcases h with ((((((rfl | rfl) | rfl) | rfl) | rfl) | rfl) | rfl) | rfl <;> decide
theorem nmAt_len {l : List ByteArray} (h : ∀ s ∈ l, s.size ≤ 8192) (k : Int) : (nmAt l k).data.toList.length ≤ 8192 := by
 unfold nmAt
 cases hq : l[k.toNat]? with
 | none => decide
 | some s => exact h s (List.mem_of_getElem? hq)
theorem kind_len : ∀ s ∈ kindNs, s.size ≤ 8192 := by decide
theorem condT_len {rn it : List ByteArray} (h1 : ∀ s ∈ rn, s.size ≤ 8192) (h2 : ∀ s ∈ it, s.size ≤ 8192) {op : ByteArray} (ho : isOp op = true) {a b : Int} (ha : In64 a) (hb : In64 b) : (condT rn it op a b).length ≤ 8230 := by
 have i1 := Lib.itoa_length_le a ha.1 ha.2
 have i2 := Lib.itoa_length_le b hb.1 hb.2
 have o := isOp_size ho
 have k0 := nmAt_len kind_len a
 have k1 := nmAt_len h1 a
 have k2 := nmAt_len h2 a
 have k3 := nmAt_len h2 b
 unfold condT
 simp only [List.length_append, List.length_cons, List.length_nil]
 split
 ·omega
 split
 ·omega
 split
 ·omega
 split
 ·simp only [List.length_append, List.length_cons, List.length_nil]; omega
 split
 ·simp only [List.length_append, List.length_cons, List.length_nil]; omega
 ·omega
theorem wrapT_len (p : Bool) (l : List UInt8) : (wrapT p l).length ≤ l.length + 2 := by
 cases p <;> simp [wrapT]
theorem joinop_len {op : ByteArray} (h : op = sAnd ∨ op = sOr ∨ op = sNot) : op.data.toList.length ≤ 3 := by
 rcases h with rfl | rfl | rfl <;> decide
theorem sepT_len {op : ByteArray} (h : op = sAnd ∨ op = sOr ∨ op = sNot) (f : Bool) : (sepT op f).length ≤ 5 := by
 have := joinop_len h
 cases f <;> simp [sepT]; simpa using this
inductive Mk.In : Mk → Prop
 | mk (op : ByteArray) (a b : Int) (ks : List Mk) (ha : In64 a) (hb : In64 b) (each : ∀ k ∈ ks, Mk.In k) : Mk.In (.node op a b ks)
theorem textL_len {rn it : List ByteArray} {op : ByteArray} (h : op = sAnd ∨ op = sOr ∨ op = sNot) {ks : List Mk} (hk : ∀ k ∈ ks, (Mk.text rn it k).length + 7 ≤ 8250 * k.size) : ∀ f, (Mk.textL rn it op f ks).length ≤ 8250 * Mk.sizeL ks := by
 induction ks with
 | nil => intro f; simp [Mk.textL]
 | cons x xs ih =>
   intro f
   have h1 := hk x (List.mem_cons_self ..)
   have h2 := ih (fun k hk' => hk k (List.mem_cons_of_mem _ hk')) false
   have h3 := wrapT_len (parT op x.op) (Mk.text rn it x)
   have h4 := sepT_len h f
   simp only [Mk.textL, List.length_append, Mk.sizeL]
   omega
theorem text_len {rn it : List ByteArray} {ni nr : Nat} (h1 : ∀ s ∈ rn, s.size ≤ 8192) (h2 : ∀ s ∈ it, s.size ≤ 8192) : ∀ m : Mk, m.In → m.check ni nr = 0 → (Mk.text rn it m).length + 7 ≤ 8250 * m.size := by
 intro m
 induction m using Mk.ind with
 | h op a b ks ih =>
   intro hi hc
   obtain ⟨c1, c2⟩ := check_node hc
   cases hi with
   | mk _ _ _ _ ha hb each =>
     have hks := fun k hk => ih k hk (each k hk) (c2 k hk)
     simp only [Mk.text, Mk.size]
     split
     ·rename_i hj
      have := textL_len (op := op) (by rcases hj with h | h <;> simp [h]) hks true
      omega
     ·rename_i hj
      split
      ·rename_i hn
       have := textL_len (op := op) (by simp [hn]) hks true
       simp only [List.length_append, List.length_cons, List.length_nil]
       omega
      ·rename_i hn
       simp only [not_or] at hj
       obtain ⟨ho, _, _, _⟩ := alone_cond c1 hj.1 hj.2 hn
       have := condT_len h1 h2 ho ha hb
       omega
theorem MkM.Ok.in_ {w : World} {t : TypeId} {P : Nat → Prop} {m : MkM} (h : m.Ok w t P) : m.core.In := by
 induction h with
 | mk op a b ks s row len small hop ha hb _ ih =>
   refine .mk _ _ _ _ ha hb fun k hk => ?_
   rw [coreL_map] at hk
   obtain ⟨x, hx, rfl⟩ := List.mem_map.1 hk
   exact ih x hx
end Go.Proofs.YtocodlpgaamblaaGreatDoor
