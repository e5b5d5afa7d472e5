/- The generator of changed catalogs: a copy of a row, a number, a changed amount list. The generator of changed catalogs: a changed item, a changed rule. The generator of changed catalogs: a changed tax, a changed table. The generator of changed catalogs: a changed table. The generator of changed catalogs: a number's digits; a catalog whose lists are rows of its own. The generator of changed catalogs: a list copied, an element written anew. -/
import Derived.Test.YthjfdfdgbpbanaaGreatDoorS1x17
import Derived.Test.YthjfdfdgbpbanaaGreatDoorS1x18
import Derived.Laws.AppendOwnNone
set_option linter.unusedVariables false
set_option linter.unusedSimpArgs false
open Go.RowKit
namespace Go.Proofs.YthjfdfdgbpbanaaGreatDoor
section
theorem pcells_set (l : List P2) (k : Nat) (x y : Int) (h : k < l.length) : pcells (l.set k (x, y)) = ((pcells l).set (k * 2) (.int .i64 x)).set (k * 2 + 1) (.int .i64 y) := by
 induction l generalizing k with
 | nil => simp at h
 | cons a l ih =>
   cases k with
   | zero => simp [pcells]
   | succ k =>
     have := ih k (by simpa using h)
     have e : (k + 1) * 2 = k * 2 + 1 + 1 := by omega
     simp only [pcells, List.set_cons_succ, List.flatMap_cons] at this ⊢
     rw [this, e]
     simp [pc]
/-- An amount list that is changed, and the new amount in its box. -/
structure AmB (V W : World) (g bx : Nat) (x y : Int) (v : Value) (n : Nat) (l : List P2) : Prop where
 st : GSt V W g
 own : W.ownsRow V.heap.size 136 2 v n (pcells l)
 bk : Bk W bx 136 [.int .i64 x, .int .i64 y]
 ge : V.heap.size ≤ bx
 far : ∀ b, v.ownBlock = some b → b < bx
section
variable {V W W' : World} {g bx n : Nat} {x y : Int} {v : Value} {l : List P2}
theorem AmB.next (h : AmB V W g bx x y v n l) (k : GSt W W' g) : AmB V W' g bx x y v n l :=
 ⟨h.st.trans k, k.own h.own (fun e => by have := row_base h.own g e; have := h.st.lt; omega), k.bk h.bk (by have := h.st.lt; have := h.ge; omega), h.ge, h.far⟩
theorem AmB.below (h : AmB V W g bx x y v n l) (hb : Below W.heap.size W W') : AmB V W' g bx x y v n l := h.next ((GSt.refl h.st.ok).below hb)
theorem AmB.put {gv cap k : Nat} (h : AmB V W g bx x y (.slice (some ⟨gv, 0, none⟩) n cap) n l) (hl : l.length = n) (hk : k < n) :
 (((W.setCell ⟨gv, k * 2, none⟩ (.int .i64 x)).setCell ⟨gv, k * 2 + 1, none⟩ (.int .i64 y))).ownsRow V.heap.size 136 2 (.slice (some ⟨gv, 0, none⟩) n cap) n (pcells (l.set k (x, y))) ∧ GSt V ((W.setCell ⟨gv, k * 2, none⟩ (.int .i64 x)).setCell ⟨gv, k * 2 + 1, none⟩ (.int .i64 y)) g := by
 have hb := row_base h.own gv rfl
 refine ⟨?_, (h.st.set _ _ _ hb).set _ _ _ hb⟩
 rw [pcells_set l k x y (by omega)]
 exact ((h.own.stored (k * 2) (.int .i64 x)).1.stored (k * 2 + 1) (.int .i64 y)).1
end
end
section
/-- A struct in its box, its result's box behind it; a generator has gone on. -/
structure BxAt (V W : World) (g : Nat) (ty : TypeId) (xs zs : List Value) : Prop where
 st : GSt V W g
 bk : Bk W V.heap.size ty xs
 res : Bk W (V.heap.size + 1) ty zs
section
variable {V W W' : World} {g : Nat} {ty : TypeId} {xs zs : List Value}
theorem BxAt.next (h : BxAt V W g ty xs zs) (k : GSt W W' g) : BxAt V W' g ty xs zs :=
 ⟨h.st.trans k, k.bk h.bk (by have := h.st.lt; omega), k.bk h.res (by have := h.st.lt; omega)⟩
theorem BxAt.below (h : BxAt V W g ty xs zs) (hb : Below W.heap.size W W') : BxAt V W' g ty xs zs := h.next ((GSt.refl h.st.ok).below hb)
theorem BxAt.set (h : BxAt V W g ty xs zs) (k : Nat) (u : Value) (xs' : List Value) (hx : xs.set k u = xs') : BxAt V (W.setCell ⟨V.heap.size, k, none⟩ u) g ty xs' zs :=
 ⟨h.st.set _ _ _ (Nat.le_refl _), hx ▸ h.bk.set k u, h.res.far (by simp) _⟩
theorem BxAt.new {w : World} {g : Nat} (h : GOk w g) (ty : TypeId) (xs zs : List Value) : BxAt w ((w.alloc (.cells xs.toArray ty)).alloc (.cells zs.toArray ty)) g ty xs zs := by
 have k := Bk.new (w.alloc (.cells xs.toArray ty)) ty zs
 rw [World.size_alloc] at k
 exact ⟨((GSt.refl h).alloc _).alloc _, (Bk.new w ty xs).alloc _, k⟩
end
theorem RuM.Ok.next {V W : World} {g : Nat} {r : RuM} (h : r.Ok V) (k : GSt V W g) (hg : GOk V g) : r.Ok W := h.keep (k.keep hg 136 (by decide))
theorem RuM.Ok.set {V W : World} {g k : Nat} {u : Value} {xs zs : List Value} {r : RuM} (h : r.Ok W) (hb : BxAt V W g 103 xs zs) : r.Ok (W.setCell ⟨V.heap.size, k, none⟩ u) := h.keep (Keep.setCell hb.bk (by decide) _)
end
section
theorem BxAt.fin2 {V W : World} {g n c : Nat} {ty : TypeId} {nm : ByteArray} {A : Option Addr} (h : BxAt V W g ty [.string nm, .slice A n c] [.string ⟨#[]⟩, .slice none 0 0]) :
 GSt V ((W.setCell ⟨V.heap.size + 1, 0, none⟩ (.string nm)).setCell ⟨V.heap.size + 1, 1, none⟩ (.slice A n c)) g ∧
 (∀ q, q ≠ ty → Keep q W ((W.setCell ⟨V.heap.size + 1, 0, none⟩ (.string nm)).setCell ⟨V.heap.size + 1, 1, none⟩ (.slice A n c))) ∧
 ((W.setCell ⟨V.heap.size + 1, 0, none⟩ (.string nm)).setCell ⟨V.heap.size + 1, 1, none⟩ (.slice A n c)).heap[V.heap.size + 1]? = some (.cells #[.string nm, .slice A n c] ty (0, 0)) := by
 have q0 := h.res
 have q1 := q0.set 0 (.string nm)
 have q2 := q1.set 1 (.slice A n c)
 exact ⟨(h.st.set _ _ _ (by omega)).set _ _ _ (by omega), fun q hq => (Keep.setCell (k := 0) q0 (Ne.symm hq) (.string nm)).trans (Keep.setCell (k := 1) q1 (Ne.symm hq) (.slice A n c)), q2⟩
theorem TbM.Ok.keeps {W W' : World} {t : TbM} (h : t.Ok W) (h1 : Keep 109 W W') (h2 : Keep 136 W W') : t.Ok W' := ⟨h.rows.keep h1 h2, h.name⟩
theorem TxM.Ok.keeps {W W' : World} {t : TxM} (h : t.Ok W) (h1 : Keep 129 W W') : t.Ok W' := ⟨h.brs.keep h1, h.name⟩
def WfP (l : List P2) : Prop := ∀ p ∈ l, (-9223372036854775808 ≤ p.1 ∧ p.1 ≤ 9223372036854775807) ∧ -9223372036854775808 ≤ p.2 ∧ p.2 ≤ 9223372036854775807
theorem WfP.snoc {l : List P2} {x y : Int} (h : WfP l) (hx : In64 x) (hy : In64 y) : WfP (l ++ [(x, y)]) := fun p hp => by
 rcases List.mem_append.1 hp with h1 | h1
 ·exact h p h1
 ·rw [List.mem_singleton.1 h1]; exact ⟨hx, hy⟩
theorem WfP.take {l : List P2} (h : WfP l) (k : Nat) : WfP (l.take k) := fun p hp => h p (List.mem_of_mem_take hp)
/-- A tax in its box, and its brackets' copy. -/
structure XsAt (V W : World) (g : Nat) (nm : ByteArray) (vb v : Value) (n : Nat) (l : List P2) : Prop where
 bx : BxAt V W g 115 [.string nm, vb] [.string ⟨#[]⟩, .slice none 0 0]
 own : W.ownsRow V.heap.size 129 2 v n (pcells l)
 len : l.length = n
 wf : WfP l
section
variable {V W W' : World} {g n : Nat} {nm : ByteArray} {vb v : Value} {l : List P2}
theorem XsAt.next (h : XsAt V W g nm vb v n l) (k : GSt W W' g) : XsAt V W' g nm vb v n l :=
 ⟨h.bx.next k, k.own h.own (fun e => by have := row_base h.own g e; have := h.bx.st.lt; omega), h.len, h.wf⟩
theorem XsAt.below (h : XsAt V W g nm vb v n l) (hb : Below W.heap.size W W') : XsAt V W' g nm vb v n l := h.next ((GSt.refl h.bx.st.ok).below hb)
theorem XsAt.app {v' : Value} {x y : Int} {m : Nat} (h : XsAt V W g nm vb v n l) (hg : W.grownBy W' v.ownBlock) (ho : W'.ownsRow V.heap.size 129 2 v' m (pcells l ++ [.int .i64 x, .int .i64 y])) (hm : m = n + 1) (hx : In64 x) (hy : In64 y) : XsAt V W' g nm vb v' m (l ++ [(x, y)]) := by
 have hbase := row_base h.own
 exact ⟨⟨h.bx.st.grow hg hbase, h.bx.bk.grown hg (fun e => row_neT h.own h.bx.bk (by decide) e.symm), h.bx.res.grown hg (fun e => row_neT h.own h.bx.res (by decide) e.symm)⟩, by rw [pcells_snoc]; exact ho, by simp [h.len, hm], h.wf.snoc hx hy⟩
theorem XsAt.put (h : XsAt V W g nm vb v n l) (u : Value) : XsAt V (W.setCell ⟨V.heap.size, 1, none⟩ u) g nm u v n l :=
 ⟨h.bx.set 1 u _ rfl, h.own.kept (grown_setCell W _ 1 u) (.inr (row_neT h.own h.bx.bk (by decide))), h.len, h.wf⟩
def TxB (V : World) (g : Nat) (e : Ending) (W : World) : Prop := ∃ t : TxM, e = .returned t.val ∧ t.Ok W ∧ GSt V W g
theorem XsAt.fin {A : Option Addr} {c : Nat} (h : XsAt V W g nm (.slice A n c) (.slice A n c) n l) (hn : n ≤ 1000) (hs : nm.size ≤ 8192) :
 TxB V g (.returned (.agg #[.string nm, .slice A n c])) ((W.setCell ⟨V.heap.size + 1, 0, none⟩ (.string nm)).setCell ⟨V.heap.size + 1, 1, none⟩ (.slice A n c)) := by
 obtain ⟨f1, f2, _⟩ := h.bx.fin2
 have hl := h.len
 exact ⟨⟨nm, l, ⟨A, n, c⟩⟩, rfl, TxM.Ok.keeps ⟨⟨TRow.of_own h.own, hl.symm, by dsimp only; omega, h.wf⟩, hs⟩ (f2 129 (by decide)), f1⟩
end
end
section
theorem rcells_set (rows : List RwM) (k : Nat) (l2 : List P2) (s : Sl) (h : k < rows.length) : (rows.set k ⟨rows[k].weight, l2, s⟩).flatMap RwM.cells = (rows.flatMap RwM.cells).set (k * 2 + 1) (.slice s.A s.n s.c) := by
 induction rows generalizing k with
 | nil => simp at h
 | cons a rows ih =>
   cases k with
   | zero => simp
   | succ k =>
     have := ih k (by simpa using h)
     have e : (k + 1) * 2 + 1 = k * 2 + 1 + 1 + 1 := by omega
     rw [List.set_cons_succ, List.flatMap_cons, List.flatMap_cons, e]
     simp only [List.getElem_cons_succ, this]
     simp [RwM.cells]
/-- A table in its box, and its rows' copy. -/
structure RsAt (V W : World) (g q : Nat) (nm : ByteArray) (vb v : Value) (n : Nat) (rows : List RwM) : Prop where
 bx : BxAt V W g 107 [.string nm, vb] [.string ⟨#[]⟩, .slice none 0 0]
 own : W.ownsRow V.heap.size 109 2 v n (rows.flatMap RwM.cells)
 len : rows.length = n
 each : ∀ r ∈ rows, r.Ok W
 short : ∀ r ∈ rows, r.give.length ≤ q + 1
section
variable {V W W' : World} {g q n : Nat} {nm : ByteArray} {vb v : Value} {rows : List RwM}
theorem RsAt.next (h : RsAt V W g q nm vb v n rows) (k : GSt W W' g) : RsAt V W' g q nm vb v n rows :=
 ⟨h.bx.next k, k.own h.own (fun e => by have := row_base h.own g e; have := h.bx.st.lt; omega), h.len, fun r hr => PrV.keep (h.each r hr) (k.keep h.bx.st.ok 136 (by decide)), h.short⟩
theorem RsAt.below (h : RsAt V W g q nm vb v n rows) (hb : Below W.heap.size W W') : RsAt V W' g q nm vb v n rows := h.next ((GSt.refl h.bx.st.ok).below hb)
theorem RsAt.app {v' : Value} {x : Int} {m : Nat} (h : RsAt V W g q nm vb v n rows) (hg : W.grownBy W' v.ownBlock) (ho : W'.ownsRow V.heap.size 109 2 v' m (rows.flatMap RwM.cells ++ [.int .i64 x, .slice none 0 0])) (hm : m = n + 1) : RsAt V W' g q nm vb v' m (rows ++ [⟨x, [], sl0⟩]) := by
 have hbase := row_base h.own
 refine ⟨⟨h.bx.st.grow hg hbase, h.bx.bk.grown hg (fun e => row_neT h.own h.bx.bk (by decide) e.symm), h.bx.res.grown hg (fun e => row_neT h.own h.bx.res (by decide) e.symm)⟩, by rw [List.flatMap_append]; exact ho, by simp [h.len, hm], fun r hr => ?_, fun r hr => ?_⟩
 ·rcases List.mem_append.1 hr with h1 | h1
  ·exact PrV.keep (h.each r h1) (Keep.own h.own hg (by decide))
  ·rw [List.mem_singleton.1 h1]; exact ⟨.inl rfl, rfl, by simp, by simp⟩
 ·rcases List.mem_append.1 hr with h1 | h1
  ·exact h.short r h1
  ·rw [List.mem_singleton.1 h1]; simp
theorem RsAt.put (h : RsAt V W g q nm vb v n rows) (u : Value) : RsAt V (W.setCell ⟨V.heap.size, 1, none⟩ u) g q nm u v n rows :=
 ⟨h.bx.set 1 u _ rfl, h.own.kept (grown_setCell W _ 1 u) (.inr (row_neT h.own h.bx.bk (by decide))), h.len, fun r hr => PrV.keep (h.each r hr) (Keep.setCell h.bx.bk (by decide) _), h.short⟩
theorem RsAt.give {gv cap k : Nat} {B : Option Addr} {m2 c2 : Nat} {l2 : List P2} (h : RsAt V W g q nm vb (.slice (some ⟨gv, 0, none⟩) n cap) n rows) (hk : k < rows.length) (hp : PrV W 136 ⟨B, m2, c2⟩ l2) (hl : l2.length ≤ q + 1) :
 RsAt V (W.setCell ⟨gv, k * 2 + 1, none⟩ (.slice B m2 c2)) g q nm vb (.slice (some ⟨gv, 0, none⟩) n cap) n (rows.set k ⟨rows[k].weight, l2, ⟨B, m2, c2⟩⟩) := by
 have hb := row_base h.own gv rfl
 have hne1 := row_neT h.own h.bx.bk (by decide)
 have hne2 := row_neT h.own h.bx.res (by decide)
 have hK : Keep 136 W (W.setCell ⟨gv, k * 2 + 1, none⟩ (.slice B m2 c2)) := Keep.own h.own (grown_setCell W gv _ _) (by decide)
 refine ⟨⟨h.bx.st.set _ _ _ hb, h.bx.bk.far (fun e => hne1 (by rw [e]; rfl)) _, h.bx.res.far (fun e => hne2 (by rw [e]; rfl)) _⟩, ?_, by simpa using h.len, fun r hr => ?_, fun r hr => ?_⟩
 ·rw [rcells_set rows k l2 ⟨B, m2, c2⟩ hk]; exact (h.own.stored (k * 2 + 1) (.slice B m2 c2)).1
 ·rcases List.mem_or_eq_of_mem_set hr with h1 | h1
  ·exact PrV.keep (h.each r h1) hK
  ·rw [h1]; exact PrV.keep hp hK
 ·rcases List.mem_or_eq_of_mem_set hr with h1 | h1
  ·exact h.short r h1
  ·rw [h1]; exact hl
def TbB (V : World) (g q : Nat) (e : Ending) (W : World) : Prop := ∃ t : TbM, e = .returned t.val ∧ t.Ok W ∧ (∀ r ∈ t.rows, r.give.length ≤ q + 1) ∧ GSt V W g
theorem RsAt.fin {A : Option Addr} {c : Nat} (h : RsAt V W g q nm (.slice A n c) (.slice A n c) n rows) (hn : n ≤ 1000) (hs : nm.size ≤ 8192) :
 TbB V g q (.returned (.agg #[.string nm, .slice A n c])) ((W.setCell ⟨V.heap.size + 1, 0, none⟩ (.string nm)).setCell ⟨V.heap.size + 1, 1, none⟩ (.slice A n c)) := by
 obtain ⟨f1, f2, _⟩ := h.bx.fin2
 have hl := h.len
 exact ⟨⟨nm, rows, ⟨A, n, c⟩⟩, rfl, TbM.Ok.keeps ⟨⟨TRow.of_own h.own, hl.symm, by dsimp only; omega, h.each⟩, hs⟩ (f2 109 (by decide)) (f2 136 (by decide)), h.short, f1⟩
end
end
section
theorem row_ne2 {W : World} {base e1 e2 s1 s2 n1 n2 b : Nat} {v1 v2 : Value} {x1 x2 : List Value} (h : W.ownsRow base e1 s1 v1 n1 x1) (k : W.ownsRow base e2 s2 v2 n2 x2) (hne : e1 ≠ e2) (h2 : v2.ownBlock = some b) : v1.ownBlock ≠ some b := by
 rcases k.2 with ⟨h0, _⟩ | ⟨g', cap, cur, hv, _, hc, _⟩
 ·rw [h0] at h2; cases h2
 ·rw [hv] at h2
  cases h2
  intro h3
  rcases h.2 with ⟨h0, _⟩ | ⟨g2, cap2, cur2, hv2, _, hc2, _⟩
  ·rw [h0] at h3; cases h3
  ·rw [hv2] at h3
   cases h3
   rw [hc] at hc2
   cases hc2
   exact hne rfl
theorem own_far {W W' : World} {base e1 e2 s1 s2 n1 n2 : Nat} {v1 v2 : Value} {x1 x2 : List Value} (h : W.ownsRow base e1 s1 v1 n1 x1) (k : W.ownsRow base e2 s2 v2 n2 x2) (hne : e1 ≠ e2) (hg : W.grownBy W' v2.ownBlock) : W'.ownsRow base e1 s1 v1 n1 x1 := by
 cases hb : v2.ownBlock with
 | none =>
   rw [hb] at hg
   cases h1 : v1.ownBlock with
   | none => exact h.kept hg (.inl h1)
   | some b => exact h.kept hg (.inr (by rw [h1]; simp))
 | some b => rw [hb] at hg; exact h.kept hg (.inr (row_ne2 h k hne hb))
/-- A catalog in its box, its four lists rows of its own; amount lists are short. -/
structure CtO (V W : World) (g rb cb q : Nat) (m : CatM) : Prop where
 ct : CtAt V W g rb cb m
 oi : W.ownsRow V.heap.size 89 7 (.slice m.si.A m.si.n m.si.c) m.items.length (icells m.items)
 or_ : W.ownsRow V.heap.size 103 9 (.slice m.sr.A m.sr.n m.sr.c) m.rules.length (rucells m.rules)
 ot : W.ownsRow V.heap.size 107 2 (.slice m.st.A m.st.n m.st.c) m.tables.length (tbcells m.tables)
 ox : W.ownsRow V.heap.size 115 2 (.slice m.sx.A m.sx.n m.sx.c) m.taxes.length (txcells m.taxes)
 short : ∀ r ∈ m.rules, ruSmall q r
 rows : ∀ t ∈ m.tables, ∀ r ∈ t.rows, r.give.length ≤ q
section
variable {V W W' : World} {g rb cb q : Nat} {m : CatM}
theorem CtO.next (h : CtO V W g rb cb q m) (k : GSt W W' g) : CtO V W' g rb cb q m :=
 ⟨h.ct.next k, k.own h.oi (fun e => by have := row_base h.oi g e; have := h.ct.st.lt; omega), k.own h.or_ (fun e => by have := row_base h.or_ g e; have := h.ct.st.lt; omega), k.own h.ot (fun e => by have := row_base h.ot g e; have := h.ct.st.lt; omega), k.own h.ox (fun e => by have := row_base h.ox g e; have := h.ct.st.lt; omega), h.short, h.rows⟩
theorem CtO.below (h : CtO V W g rb cb q m) (hb : Below W.heap.size W W') : CtO V W' g rb cb q m := h.next ((GSt.refl h.ct.st.ok).below hb)
theorem CtO.addI {A' : Option Addr} {k' c' : Nat} {t : It} (h : CtO V W g rb cb q m) (hg : W.grownBy W' (Value.slice m.si.A m.si.n m.si.c).ownBlock)
 (hn : W'.ownsRow V.heap.size 89 7 (.slice A' k' c') k' (icells (m.items ++ [t]))) (hk : k' = m.items.length + 1) (hsm : k' ≤ 100000) (ht : t.name.size ≤ 8192) :
 Bk W' cb 28 (catSL m.si m.sr m.st m.sx) ∧ CtO V (W'.setCell ⟨cb, 0, none⟩ (.slice A' k' c')) g rb cb q { m with items := m.items ++ [t], si := ⟨A', k', c'⟩ } := by
 have hk2 : k' = (m.items ++ [t]).length := by simpa using hk
 obtain ⟨h1, h2, h3⟩ := h.ct.addI h.oi hg hn hk2 hsm ht
 exact ⟨h1, h2, by rw [← hk2]; exact h3, (own_far h.or_ h.oi (by decide) hg).kept (grown_setCell W' cb 0 _) (.inr (row_neT (own_far h.or_ h.oi (by decide) hg) h1 (by decide))), (own_far h.ot h.oi (by decide) hg).kept (grown_setCell W' cb 0 _) (.inr (row_neT (own_far h.ot h.oi (by decide) hg) h1 (by decide))), (own_far h.ox h.oi (by decide) hg).kept (grown_setCell W' cb 0 _) (.inr (row_neT (own_far h.ox h.oi (by decide) hg) h1 (by decide))), h.short, h.rows⟩
theorem CtO.addR {A' : Option Addr} {k' c' : Nat} {t : RuM} (h : CtO V W g rb cb q m) (hg : W.grownBy W' (Value.slice m.sr.A m.sr.n m.sr.c).ownBlock)
 (hn : W'.ownsRow V.heap.size 103 9 (.slice A' k' c') k' (rucells (m.rules ++ [t]))) (hk : k' = m.rules.length + 1) (hsm : k' ≤ 100000) (ht : t.Ok W') (hs : ruSmall q t) :
 Bk W' cb 28 (catSL m.si m.sr m.st m.sx) ∧ CtO V (W'.setCell ⟨cb, 1, none⟩ (.slice A' k' c')) g rb cb q { m with rules := m.rules ++ [t], sr := ⟨A', k', c'⟩ } := by
 have hk2 : k' = (m.rules ++ [t]).length := by simpa using hk
 obtain ⟨h1, h2, h3⟩ := h.ct.addR h.or_ hg hn hk2 hsm ht
 exact ⟨h1, h2, (own_far h.oi h.or_ (by decide) hg).kept (grown_setCell W' cb 1 _) (.inr (row_neT (own_far h.oi h.or_ (by decide) hg) h1 (by decide))), by rw [← hk2]; exact h3, (own_far h.ot h.or_ (by decide) hg).kept (grown_setCell W' cb 1 _) (.inr (row_neT (own_far h.ot h.or_ (by decide) hg) h1 (by decide))), (own_far h.ox h.or_ (by decide) hg).kept (grown_setCell W' cb 1 _) (.inr (row_neT (own_far h.ox h.or_ (by decide) hg) h1 (by decide))), fun x hx => by
  rcases List.mem_append.1 hx with hx | hx
  ·exact h.short x hx
  ·rw [List.mem_singleton.1 hx]; exact hs, h.rows⟩
theorem CtO.addT {A' : Option Addr} {k' c' : Nat} {t : TbM} (h : CtO V W g rb cb q m) (hg : W.grownBy W' (Value.slice m.st.A m.st.n m.st.c).ownBlock)
 (hn : W'.ownsRow V.heap.size 107 2 (.slice A' k' c') k' (tbcells (m.tables ++ [t]))) (hk : k' = m.tables.length + 1) (hsm : k' ≤ 100000) (ht : t.Ok W') (hs : ∀ r ∈ t.rows, r.give.length ≤ q) :
 Bk W' cb 28 (catSL m.si m.sr m.st m.sx) ∧ CtO V (W'.setCell ⟨cb, 2, none⟩ (.slice A' k' c')) g rb cb q { m with tables := m.tables ++ [t], st := ⟨A', k', c'⟩ } := by
 have hk2 : k' = (m.tables ++ [t]).length := by simpa using hk
 obtain ⟨h1, h2, h3⟩ := h.ct.addT h.ot hg hn hk2 hsm ht
 exact ⟨h1, h2, (own_far h.oi h.ot (by decide) hg).kept (grown_setCell W' cb 2 _) (.inr (row_neT (own_far h.oi h.ot (by decide) hg) h1 (by decide))), (own_far h.or_ h.ot (by decide) hg).kept (grown_setCell W' cb 2 _) (.inr (row_neT (own_far h.or_ h.ot (by decide) hg) h1 (by decide))), by rw [← hk2]; exact h3, (own_far h.ox h.ot (by decide) hg).kept (grown_setCell W' cb 2 _) (.inr (row_neT (own_far h.ox h.ot (by decide) hg) h1 (by decide))), h.short, fun x hx => by
  rcases List.mem_append.1 hx with hx | hx
  ·exact h.rows x hx
  ·rw [List.mem_singleton.1 hx]; exact hs⟩
theorem CtO.addX {A' : Option Addr} {k' c' : Nat} {t : TxM} (h : CtO V W g rb cb q m) (hg : W.grownBy W' (Value.slice m.sx.A m.sx.n m.sx.c).ownBlock)
 (hn : W'.ownsRow V.heap.size 115 2 (.slice A' k' c') k' (txcells (m.taxes ++ [t]))) (hk : k' = m.taxes.length + 1) (hsm : k' ≤ 100000) (ht : t.Ok W') :
 Bk W' cb 28 (catSL m.si m.sr m.st m.sx) ∧ CtO V (W'.setCell ⟨cb, 3, none⟩ (.slice A' k' c')) g rb cb q { m with taxes := m.taxes ++ [t], sx := ⟨A', k', c'⟩ } := by
 have hk2 : k' = (m.taxes ++ [t]).length := by simpa using hk
 obtain ⟨h1, h2, h3⟩ := h.ct.addX h.ox hg hn hk2 hsm ht
 exact ⟨h1, h2, (own_far h.oi h.ox (by decide) hg).kept (grown_setCell W' cb 3 _) (.inr (row_neT (own_far h.oi h.ox (by decide) hg) h1 (by decide))), (own_far h.or_ h.ox (by decide) hg).kept (grown_setCell W' cb 3 _) (.inr (row_neT (own_far h.or_ h.ox (by decide) hg) h1 (by decide))), (own_far h.ot h.ox (by decide) hg).kept (grown_setCell W' cb 3 _) (.inr (row_neT (own_far h.ot h.ox (by decide) hg) h1 (by decide))), by rw [← hk2]; exact h3, h.short, h.rows⟩
end
end
/-- What Bent leaves. -/
def BentG (w : World) (e : Ending) (W : World) : Prop := ∃ m : CatM, e = .returned m.val ∧ m.Ok W ∧ (∀ r ∈ m.rules, ruSmall 4 r) ∧ (∀ t ∈ m.tables, ∀ r ∈ t.rows, r.give.length ≤ 4) ∧ Below w.heap.size w W
theorem CtO.done {w V W : World} {g rb cb : Nat} {m : CatM} (h : CtO V W g rb cb 4 m) (hb : Below w.heap.size w V) (hg : w.heap.size ≤ g) (hr : w.heap.size ≤ rb) :
 BentG w (.returned (.agg #[.slice m.si.A m.si.n m.si.c, .slice m.sr.A m.sr.n m.sr.c, .slice m.st.A m.st.n m.st.c, .slice m.sx.A m.sx.n m.sx.c])) ((((W.setCell ⟨rb, 0, none⟩ (.slice m.si.A m.si.n m.si.c)).setCell ⟨rb, 1, none⟩ (.slice m.sr.A m.sr.n m.sr.c)).setCell ⟨rb, 2, none⟩ (.slice m.st.A m.st.n m.st.c)).setCell ⟨rb, 3, none⟩ (.slice m.sx.A m.sx.n m.sx.c)) ∧
 ((((W.setCell ⟨rb, 0, none⟩ (.slice m.si.A m.si.n m.si.c)).setCell ⟨rb, 1, none⟩ (.slice m.sr.A m.sr.n m.sr.c)).setCell ⟨rb, 2, none⟩ (.slice m.st.A m.st.n m.st.c)).setCell ⟨rb, 3, none⟩ (.slice m.sx.A m.sx.n m.sx.c)).heap[rb]? = some (.cells #[.slice m.si.A m.si.n m.si.c, .slice m.sr.A m.sr.n m.sr.c, .slice m.st.A m.st.n m.st.c, .slice m.sx.A m.sx.n m.sx.c] 28 (0, 0)) := by
 have q0 := h.ct.res
 have q1 := q0.set 0 (.slice m.si.A m.si.n m.si.c)
 have q2 := q1.set 1 (.slice m.sr.A m.sr.n m.sr.c)
 have q3 := q2.set 2 (.slice m.st.A m.st.n m.st.c)
 have q4 := q3.set 3 (.slice m.sx.A m.sx.n m.sx.c)
 have hb1 := ((((h.ct.st.bel hb hg).setCell (p := ⟨rb, 0, none⟩) hr (.slice m.si.A m.si.n m.si.c)).setCell (p := ⟨rb, 1, none⟩) hr (.slice m.sr.A m.sr.n m.sr.c)).setCell (p := ⟨rb, 2, none⟩) hr (.slice m.st.A m.st.n m.st.c)).setCell (p := ⟨rb, 3, none⟩) hr (.slice m.sx.A m.sx.n m.sx.c)
 exact ⟨⟨m, rfl, h.ct.ok.keeps fun t h1 h2 => (((Keep.setCell q0 (Ne.symm h2) _).trans (Keep.setCell q1 (Ne.symm h2) _)).trans (Keep.setCell q2 (Ne.symm h2) _)).trans (Keep.setCell q3 (Ne.symm h2) _), h.short, h.rows, hb1⟩, q4⟩
end Go.Proofs.YthjfdfdgbpbanaaGreatDoor
