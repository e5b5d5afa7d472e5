/- The reference lexer's Tokens on any text; what a name is to both lexers. What a name is to both lexers: catalog.fits and the reference's Word on any text. Catalogs in memory: rows of a type, and what keeps them. Cells of the elements of a catalog's lists; every, on these lists, with whatever test. differ, on the lists of a catalog. catalog's namesFit, namesDiffer and withinLimits on any catalog. catalog's withinLimits on any catalog. catalog's tests on lists of amounts: sorted, and units in range. catalog.contains on any two lists of amounts. catalog's ruleFormed on any rule. Tests of numbers: ruleInRange, and the closures of weightsInRange and taxInRange. Brackets: the plain law of their form; taxFormed and the reference's TaxErrors (turned from the tax seat). The reference's names on any catalog. catalog.wellFormed on any catalog. catalog.inRange and Valid on any catalog. A region that draws its order, by an invariant that each operation keeps: no branching over orders. A region that draws its order: operations that only read, then one operation of any kind for which all of them must be done, then operations that only read and wait for it. It runs as its text stands. A region that draws its order: loads that hold in every world that meets a condition are taken first, and from an operation on that waits for all of them the rest is walked as it comes. What version.Merge does to items, its memory; rewrite on a catalog of items alone. The walk of version.Merge on catalogs of items alone, where nothing stands against it. The contracts of Missing, Last, Start, and of Add where an item without counterpart is held. The contract of lives: the example of the section. The walk of lives. Arguments: a slice of integers, opened; the table of kinds from the row's list; what a row's end wants. version.names and New on items with any names (turned from A21, A23). The reference's Item and alike. The generator of catalogs: its memory, next, some, amounts. The generator of catalogs: amounts and item. The plain law of amounts that come back. Marks as trees: what they mean, their normal form, how many there are. Marks in memory. The generator of marks: its memory, next; the number of marks in a mark. The number of marks in a mark, its depth: the reference. A drawn region whose last operation does not wait for all the others by itself. -/
import Derived.Test.YtocodlpgaamblaaGreatDoorS1
import Derived.Test.YtocodlpgaamblaaGreatDoorS2
import Derived.Laws.StructEq
import Derived.BigQuiet
import Derived.Maps.AppendAt
import Derived.RegionTactic
import Derived.StillTailTactics
import Derived.OrdersHeld
import Derived.Deep.MidRow
import Derived.Test.YtocodlpgaamblaaGreatDoorCards
import Derived.Test.YtocodlpgaamblaaGreatDoorTie
import Derived.WalkKit
import Derived.ProofKit
import Derived.OpenShut
import Derived.Deep.DeepHandedRow
import Derived.Lib.LaidTab
set_option linter.unusedVariables false
set_option linter.unusedSimpArgs false
open Go.RowKit
namespace Go.Proofs.YtocodlpgaamblaaGreatDoor
set_option linter.unusedVariables false
set_option linter.unusedSimpArgs false
def fitG (s : ByteArray) : Bool := match toks s with
 | [t] => decide (t.err = 0) && decide (t.kind = 0) && decide (t.text = s)
 | _ => false
section
set_option linter.unusedVariables false
set_option linter.unusedSimpArgs false
section
def Keep (t : TypeId) (w w' : World) : Prop := ∀ (b : Nat) (cur : Array Value) (fl : Nat × Nat), w.heap[b]? = some (Obj.cells cur t fl) → w'.heap[b]? = some (Obj.cells cur t fl)
theorem Keep.refl (t : TypeId) (w : World) : Keep t w w := fun _ _ _ h => h
theorem Keep.trans {t : TypeId} {a b c : World} (h : Keep t a b) (k : Keep t b c) : Keep t a c := fun b cur fl hb => k b cur fl (h b cur fl hb)
theorem Keep.below {t : TypeId} {w w' : World} (hb : Below w.heap.size w w') : Keep t w w' := fun b _ _ h => (hb.block b (Array.getElem?_eq_some_iff.1 h).1).trans h
theorem Keep.grown {t : TypeId} {w w' : World} {g : Nat} (hg : w.grownBy w' (some g)) (hn : ∀ cur fl, w.heap[g]? ≠ some (.cells cur t fl)) : Keep t w w' := fun b cur fl h => by
 have hne : some b ≠ some g := fun e => hn cur fl (by cases e; exact h)
 exact (hg.block b (Array.getElem?_eq_some_iff.1 h).1 hne).trans h
theorem Keep.alloc (t : TypeId) (w : World) (o : Obj) : Keep t w (w.alloc o) := .below ((Below.refl _ _).alloc (Nat.le_refl _) o)
theorem Keep.setCell {t t' : TypeId} {w : World} {g k : Nat} {xs : List Value} (hB : Bk w g t' xs) (hne : t' ≠ t) (u : Value) : Keep t w (w.setCell ⟨g, k, none⟩ u) :=
 .grown (grown_setCell w g k u) fun cur fl h => by
  unfold Bk at hB
  rw [hB] at h
  cases h
  exact hne rfl
theorem Keep.own {t e : TypeId} {w w' : World} {base size n : Nat} {v : Value} {xs : List Value} (h : w.ownsRow base e size v n xs) (hg : w.grownBy w' v.ownBlock) (hne : e ≠ t) : Keep t w w' := by
 rcases h.2 with ⟨rfl, _⟩ | ⟨g, cap, cur, rfl, _, hc, _⟩
 ·exact fun b cur fl h => (hg.block b (Array.getElem?_eq_some_iff.1 h).1 (by simp [Value.ownBlock])).trans h
 ·refine .grown (g := g) hg fun cur' fl' h' => ?_
  rw [hc] at h'
  cases h'
  exact hne rfl
def TRow (w : World) (t : TypeId) (A : Option Addr) (xs : List Value) : Prop :=
 xs = [] ∨ ∃ b off cur fl, A = some ⟨b, off, none⟩ ∧ w.heap[b]? = some (.cells cur t fl) ∧ ∀ j u, xs[j]? = some u → cur[off + j]? = some u
theorem TRow.keep {w w' : World} {t : TypeId} {A : Option Addr} {xs : List Value} (h : TRow w t A xs) (hk : Keep t w w') : TRow w' t A xs := by
 rcases h with h | ⟨b, off, cur, fl, hA, hb, hc⟩
 ·exact .inl h
 ·exact .inr ⟨b, off, cur, fl, hA, hk b cur fl hb, hc⟩
theorem TRow.row {w : World} {t : TypeId} {A : Option Addr} {xs : List Value} (h : TRow w t A xs) : Row w w.heap.size A xs := by
 rcases h with h | ⟨b, off, cur, fl, hA, hb, hc⟩
 ·exact .inl h
 ·refine .inr ⟨b, off, hA, (Array.getElem?_eq_some_iff.1 hb).1, fun j u hu => ?_⟩
  simp [World.cell?, hb, hc j u hu]
theorem TRow.of_own {w : World} {e : TypeId} {base size n : Nat} {A : Option Addr} {c : Nat} {xs : List Value} (h : w.ownsRow base e size (.slice A n c) n xs) : TRow w e A xs := by
 rcases h.2 with ⟨hv, hn⟩ | ⟨g, cap, cur, hv, _, hc, _, _, _, ht⟩
 ·left
  have := h.1
  rw [hn] at this
  exact List.eq_nil_of_length_eq_zero (by simpa using this)
 ·cases hv
  refine .inr ⟨g, 0, cur, (0, 0), rfl, hc, fun j u hu => ?_⟩
  rw [Nat.zero_add]
  rw [← ht, List.getElem?_take] at hu
  split at hu
  ·simpa using hu
  ·cases hu
section
variable {α : Type} {f : α → List Value} {n : Nat}
theorem flat_len (hf : ∀ x, (f x).length = n) (l : List α) : (l.flatMap f).length = l.length * n := by
 induction l with
 | nil => simp
 | cons x l ih => rw [List.flatMap_cons, List.length_append, ih, hf, List.length_cons, Nat.add_mul]; omega
theorem flat_get (hf : ∀ x, (f x).length = n) (l : List α) (k r : Nat) (hk : k < l.length) (hr : r < n) : (l.flatMap f)[k * n + r]? = (f l[k])[r]? := by
 induction l generalizing k with
 | nil => simp at hk
 | cons x l ih =>
   rw [List.flatMap_cons]
   cases k with
   | zero =>
     rw [List.getElem?_append_left (by rw [hf]; omega)]
     simp
   | succ k =>
     rw [List.getElem?_append_right (by rw [hf, Nat.add_mul]; omega)]
     have e : (k + 1) * n + r - (f x).length = k * n + r := by rw [hf, Nat.add_mul]; omega
     rw [e, ih k (by simpa using hk)]
     simp
theorem TRow.at_ {w : World} {t : TypeId} {A : Option Addr} {l : List α} (hf : ∀ x, (f x).length = n) (h : TRow w t A (l.flatMap f)) (k : Nat) (hk : k < l.length) (hn : 0 < n) :
 ∃ b off, A = some ⟨b, off, none⟩ ∧ b < w.heap.size ∧ ∀ r u, (f l[k])[r]? = some u → w.cell? ⟨b, off + k * n + r, none⟩ = some u := by
 have hlen := flat_len hf l
 have hkn : k * n + n ≤ l.length * n := by
  have : (k + 1) * n ≤ l.length * n := Nat.mul_le_mul_right n hk
  rw [Nat.add_mul] at this; omega
 obtain ⟨b, off, hA, hb, hc⟩ := h.row.at_ 0 (by rw [hlen]; omega)
 refine ⟨b, off, hA, hb, fun r u hu => ?_⟩
 have hr : r < n := by have := (List.getElem?_eq_some_iff.1 hu).1; rw [hf] at this; exact this
 rw [Nat.add_assoc]
 exact hc _ u ((flat_get hf l k r hk hr).trans hu)
end
abbrev P2 := Int × Int
abbrev pc (p : P2) : List Value := [.int .i64 p.1, .int .i64 p.2]
def pcells (l : List P2) : List Value := l.flatMap pc
theorem pc_len (p : P2) : (pc p).length = 2 := rfl
theorem pcells_snoc (l : List P2) (p : P2) : pcells (l ++ [p]) = pcells l ++ pc p := by simp [pcells]
structure PrV (w : World) (t : TypeId) (s : Sl) (l : List P2) : Prop where
 row : TRow w t s.A (pcells l)
 len : s.n = l.length
 small : s.n ≤ 100000
 wf : ∀ p ∈ l, (-9223372036854775808 ≤ p.1 ∧ p.1 ≤ 9223372036854775807) ∧ -9223372036854775808 ≤ p.2 ∧ p.2 ≤ 9223372036854775807
theorem PrV.keep {w w' : World} {t : TypeId} {s : Sl} {l : List P2} (h : PrV w t s l) (hk : Keep t w w') : PrV w' t s l := ⟨h.row.keep hk, h.len, h.small, h.wf⟩
theorem PrV.below {w w' : World} {t : TypeId} {s : Sl} {l : List P2} (h : PrV w t s l) (hb : Below w.heap.size w w') : PrV w' t s l := h.keep (.below hb)
theorem PrV.at_ {w : World} {t : TypeId} {s : Sl} {l : List P2} (h : PrV w t s l) (k : Nat) (hk : k < l.length) : ∃ b off, s.A = some ⟨b, off, none⟩ ∧ b < w.heap.size ∧ w.cell? ⟨b, off + k * 2, none⟩ = some (.int .i64 l[k].1) ∧ w.cell? ⟨b, off + k * 2 + 1, none⟩ = some (.int .i64 l[k].2) := by
 obtain ⟨b, off, hA, hb, hc⟩ := TRow.at_ (f := pc) pc_len h.row k hk (by omega)
 exact ⟨b, off, hA, hb, hc 0 _ rfl, hc 1 _ rfl⟩
structure RuM where
 name : ByteArray
 spawn : Bool
 level : Int
 time : Int
 chance : Int
 of_ : Int
 take : List P2
 give : List P2
 back : List P2
 st : Sl
 sg : Sl
 sb : Sl
abbrev RuM.cells (r : RuM) : List Value := [.string r.name, .bool r.spawn, .int .i64 r.level, .int .i64 r.time, .int .i64 r.chance, .int .i64 r.of_, .slice r.st.A r.st.n r.st.c, .slice r.sg.A r.sg.n r.sg.c, .slice r.sb.A r.sb.n r.sb.c]
abbrev RuM.val (r : RuM) : Value := .agg #[.string r.name, .bool r.spawn, .int .i64 r.level, .int .i64 r.time, .int .i64 r.chance, .int .i64 r.of_, .slice r.st.A r.st.n r.st.c, .slice r.sg.A r.sg.n r.sg.c, .slice r.sb.A r.sb.n r.sb.c]
theorem RuM.len (r : RuM) : r.cells.length = 9 := rfl
structure RuM.Ok (w : World) (r : RuM) : Prop where
 take : PrV w 132 r.st r.take
 give : PrV w 132 r.sg r.give
 back : PrV w 132 r.sb r.back
 name : r.name.size ≤ 8192
theorem RuM.Ok.keep {w w' : World} {r : RuM} (h : r.Ok w) (hk : Keep 132 w w') : r.Ok w' := ⟨h.take.keep hk, h.give.keep hk, h.back.keep hk, h.name⟩
structure RulesV (w : World) (s : Sl) (l : List RuM) : Prop where
 row : TRow w 80 s.A (l.flatMap RuM.cells)
 len : s.n = l.length
 small : s.n ≤ 100000
 each : ∀ r ∈ l, r.Ok w
theorem RulesV.keep {w w' : World} {s : Sl} {l : List RuM} (h : RulesV w s l) (h1 : Keep 80 w w') (h2 : Keep 132 w w') : RulesV w' s l := ⟨h.row.keep h1, h.len, h.small, fun r hr => (h.each r hr).keep h2⟩
theorem RulesV.below {w w' : World} {s : Sl} {l : List RuM} (h : RulesV w s l) (hb : Below w.heap.size w w') : RulesV w' s l := h.keep (.below hb) (.below hb)
structure RwM where
 weight : Int
 give : List P2
 sg : Sl
abbrev RwM.cells (r : RwM) : List Value := [.int .i64 r.weight, .slice r.sg.A r.sg.n r.sg.c]
abbrev RwM.val (r : RwM) : Value := .agg #[.int .i64 r.weight, .slice r.sg.A r.sg.n r.sg.c]
theorem RwM.len (r : RwM) : r.cells.length = 2 := rfl
def RwM.Ok (w : World) (r : RwM) : Prop := PrV w 132 r.sg r.give
structure RowsV (w : World) (s : Sl) (l : List RwM) : Prop where
 row : TRow w 88 s.A (l.flatMap RwM.cells)
 len : s.n = l.length
 small : s.n ≤ 100000
 each : ∀ r ∈ l, r.Ok w
theorem RowsV.keep {w w' : World} {s : Sl} {l : List RwM} (h : RowsV w s l) (h1 : Keep 88 w w') (h2 : Keep 132 w w') : RowsV w' s l := ⟨h.row.keep h1, h.len, h.small, fun r hr => PrV.keep (h.each r hr) h2⟩
theorem RowsV.below {w w' : World} {s : Sl} {l : List RwM} (h : RowsV w s l) (hb : Below w.heap.size w w') : RowsV w' s l := h.keep (.below hb) (.below hb)
structure TbM where
 name : ByteArray
 rows : List RwM
 sr : Sl
abbrev TbM.cells (t : TbM) : List Value := [.string t.name, .slice t.sr.A t.sr.n t.sr.c]
abbrev TbM.val (t : TbM) : Value := .agg #[.string t.name, .slice t.sr.A t.sr.n t.sr.c]
theorem TbM.len (t : TbM) : t.cells.length = 2 := rfl
structure TbM.Ok (w : World) (t : TbM) : Prop where
 rows : RowsV w t.sr t.rows
 name : t.name.size ≤ 8192
structure TablesV (w : World) (s : Sl) (l : List TbM) : Prop where
 row : TRow w 86 s.A (l.flatMap TbM.cells)
 len : s.n = l.length
 small : s.n ≤ 100000
 each : ∀ t ∈ l, t.Ok w
theorem TablesV.keep {w w' : World} {s : Sl} {l : List TbM} (h : TablesV w s l) (h0 : Keep 86 w w') (h1 : Keep 88 w w') (h2 : Keep 132 w w') : TablesV w' s l := ⟨h.row.keep h0, h.len, h.small, fun r hr => ⟨(h.each r hr).rows.keep h1 h2, (h.each r hr).name⟩⟩
theorem TablesV.below {w w' : World} {s : Sl} {l : List TbM} (h : TablesV w s l) (hb : Below w.heap.size w w') : TablesV w' s l := h.keep (.below hb) (.below hb) (.below hb)
structure TxM where
 name : ByteArray
 brs : List P2
 sb : Sl
abbrev TxM.cells (t : TxM) : List Value := [.string t.name, .slice t.sb.A t.sb.n t.sb.c]
abbrev TxM.val (t : TxM) : Value := .agg #[.string t.name, .slice t.sb.A t.sb.n t.sb.c]
theorem TxM.len (t : TxM) : t.cells.length = 2 := rfl
structure TxM.Ok (w : World) (t : TxM) : Prop where
 brs : PrV w 90 t.sb t.brs
 name : t.name.size ≤ 8192
structure TaxesV (w : World) (s : Sl) (l : List TxM) : Prop where
 row : TRow w 93 s.A (l.flatMap TxM.cells)
 len : s.n = l.length
 small : s.n ≤ 100000
 each : ∀ t ∈ l, t.Ok w
theorem TaxesV.keep {w w' : World} {s : Sl} {l : List TxM} (h : TaxesV w s l) (h0 : Keep 93 w w') (h1 : Keep 90 w w') : TaxesV w' s l := ⟨h.row.keep h0, h.len, h.small, fun r hr => ⟨(h.each r hr).brs.keep h1, (h.each r hr).name⟩⟩
theorem TaxesV.below {w w' : World} {s : Sl} {l : List TxM} (h : TaxesV w s l) (hb : Below w.heap.size w w') : TaxesV w' s l := h.keep (.below hb) (.below hb)
structure ItsV (w : World) (s : Sl) (l : List It) : Prop where
 row : TRow w 76 s.A (l.flatMap It.cells)
 len : s.n = l.length
 small : s.n ≤ 100000
 each : ∀ t ∈ l, t.name.size ≤ 8192
theorem It.len (t : It) : t.cells.length = 7 := rfl
theorem ItsV.keep {w w' : World} {s : Sl} {l : List It} (h : ItsV w s l) (h0 : Keep 76 w w') : ItsV w' s l := ⟨h.row.keep h0, h.len, h.small, h.each⟩
theorem ItsV.below {w w' : World} {s : Sl} {l : List It} (h : ItsV w s l) (hb : Below w.heap.size w w') : ItsV w' s l := h.keep (.below hb)
structure CatM where
 items : List It
 rules : List RuM
 tables : List TbM
 taxes : List TxM
 si : Sl
 sr : Sl
 st : Sl
 sx : Sl
abbrev CatM.val (m : CatM) : Value := catS m.si m.sr m.st m.sx
structure CatM.Ok (w : World) (m : CatM) : Prop where
 items : ItsV w m.si m.items
 rules : RulesV w m.sr m.rules
 tables : TablesV w m.st m.tables
 taxes : TaxesV w m.sx m.taxes
theorem CatM.Ok.below {w w' : World} {m : CatM} (h : m.Ok w) (hb : Below w.heap.size w w') : m.Ok w' := ⟨h.items.below hb, h.rules.below hb, h.tables.below hb, h.taxes.below hb⟩
end
theorem RulesV.at_ {w : World} {s : Sl} {l : List RuM} (h : RulesV w s l) (k : Nat) (hk : k < l.length) : ∃ b off, s.A = some ⟨b, off, none⟩ ∧ b < w.heap.size ∧ w.cell? ⟨b, off + k * 9, none⟩ = some (.string l[k].name) ∧ w.cell? ⟨b, off + k * 9 + 1, none⟩ = some (.bool l[k].spawn) ∧ w.cell? ⟨b, off + k * 9 + 2, none⟩ = some (.int .i64 l[k].level) ∧ w.cell? ⟨b, off + k * 9 + 3, none⟩ = some (.int .i64 l[k].time) ∧ w.cell? ⟨b, off + k * 9 + 4, none⟩ = some (.int .i64 l[k].chance) ∧ w.cell? ⟨b, off + k * 9 + 5, none⟩ = some (.int .i64 l[k].of_) ∧ w.cell? ⟨b, off + k * 9 + 6, none⟩ = some (.slice l[k].st.A l[k].st.n l[k].st.c) ∧ w.cell? ⟨b, off + k * 9 + 7, none⟩ = some (.slice l[k].sg.A l[k].sg.n l[k].sg.c) ∧ w.cell? ⟨b, off + k * 9 + 8, none⟩ = some (.slice l[k].sb.A l[k].sb.n l[k].sb.c) := by
 obtain ⟨b, off, hA, hb, hc⟩ := TRow.at_ RuM.len h.row k hk (by omega)
 exact ⟨b, off, hA, hb, hc 0 _ rfl, hc 1 _ rfl, hc 2 _ rfl, hc 3 _ rfl, hc 4 _ rfl, hc 5 _ rfl, hc 6 _ rfl, hc 7 _ rfl, hc 8 _ rfl⟩
theorem RowsV.at_ {w : World} {s : Sl} {l : List RwM} (h : RowsV w s l) (k : Nat) (hk : k < l.length) : ∃ b off, s.A = some ⟨b, off, none⟩ ∧ b < w.heap.size ∧ w.cell? ⟨b, off + k * 2, none⟩ = some (.int .i64 l[k].weight) ∧ w.cell? ⟨b, off + k * 2 + 1, none⟩ = some (.slice l[k].sg.A l[k].sg.n l[k].sg.c) := by
 obtain ⟨b, off, hA, hb, hc⟩ := TRow.at_ RwM.len h.row k hk (by omega)
 exact ⟨b, off, hA, hb, hc 0 _ rfl, hc 1 _ rfl⟩
theorem TablesV.at_ {w : World} {s : Sl} {l : List TbM} (h : TablesV w s l) (k : Nat) (hk : k < l.length) : ∃ b off, s.A = some ⟨b, off, none⟩ ∧ b < w.heap.size ∧ w.cell? ⟨b, off + k * 2, none⟩ = some (.string l[k].name) ∧ w.cell? ⟨b, off + k * 2 + 1, none⟩ = some (.slice l[k].sr.A l[k].sr.n l[k].sr.c) := by
 obtain ⟨b, off, hA, hb, hc⟩ := TRow.at_ TbM.len h.row k hk (by omega)
 exact ⟨b, off, hA, hb, hc 0 _ rfl, hc 1 _ rfl⟩
theorem TaxesV.at_ {w : World} {s : Sl} {l : List TxM} (h : TaxesV w s l) (k : Nat) (hk : k < l.length) : ∃ b off, s.A = some ⟨b, off, none⟩ ∧ b < w.heap.size ∧ w.cell? ⟨b, off + k * 2, none⟩ = some (.string l[k].name) ∧ w.cell? ⟨b, off + k * 2 + 1, none⟩ = some (.slice l[k].sb.A l[k].sb.n l[k].sb.c) := by
 obtain ⟨b, off, hA, hb, hc⟩ := TRow.at_ TxM.len h.row k hk (by omega)
 exact ⟨b, off, hA, hb, hc 0 _ rfl, hc 1 _ rfl⟩
theorem ItsV.at_ {w : World} {s : Sl} {l : List It} (h : ItsV w s l) (k : Nat) (hk : k < l.length) : ∃ b off, s.A = some ⟨b, off, none⟩ ∧ b < w.heap.size ∧ w.cell? ⟨b, off + k * 7, none⟩ = some (.string l[k].name) ∧ w.cell? ⟨b, off + k * 7 + 1, none⟩ = some (.bool l[k].object) ∧ w.cell? ⟨b, off + k * 7 + 2, none⟩ = some (.bool l[k].mixed) ∧ w.cell? ⟨b, off + k * 7 + 3, none⟩ = some (.bool l[k].coin) ∧ w.cell? ⟨b, off + k * 7 + 4, none⟩ = some (.int .i64 l[k].wear) ∧ w.cell? ⟨b, off + k * 7 + 5, none⟩ = some (.int .i64 l[k].bnd) ∧ w.cell? ⟨b, off + k * 7 + 6, none⟩ = some (.int .i64 l[k].level) := by
 obtain ⟨b, off, hA, hb, hc⟩ := TRow.at_ It.len h.row k hk (by omega)
 exact ⟨b, off, hA, hb, hc 0 _ rfl, hc 1 _ rfl, hc 2 _ rfl, hc 3 _ rfl, hc 4 _ rfl, hc 5 _ rfl, hc 6 _ rfl⟩
def hasS (l : List ByteArray) (s : ByteArray) : Bool := l.any fun t => decide (s = t)
def diffTo (l : List ByteArray) : Nat → Bool
 | 0 => true
 | k + 1 => diffTo l k && !hasS (l.take k) (l[k]?.getD ⟨#[]⟩)
def diffB (l : List ByteArray) : Bool := diffTo l l.length
def fitB (m : CatM) : Bool := (m.items.all fun t => fitG t.name) && (m.rules.all fun t => fitG t.name) && (m.tables.all fun t => fitG t.name) && (m.taxes.all fun t => fitG t.name)
def diffC (m : CatM) : Bool := diffB (m.items.map It.name) && diffB (m.rules.map RuM.name) && diffB (m.tables.map TbM.name) && diffB (m.taxes.map TxM.name)
def ruLim (r : RuM) : Bool := decide (r.take.length + r.give.length ≤ 64) && decide (r.take.length + r.back.length ≤ 64)
def tbLim (t : TbM) : Bool := decide (t.rows.length ≤ 64)
def txLim (t : TxM) : Bool := decide (t.brs.length ≤ 16)
def limC (m : CatM) : Bool := decide (m.items.length ≤ 64) && decide (m.rules.length ≤ 64) && decide (m.tables.length ≤ 32) && decide (m.taxes.length ≤ 32) && m.rules.all ruLim && m.tables.all tbLim && m.taxes.all txLim
def lastAt (l : List P2) (k : Nat) : Int := if k = 0 then -1 else (l[k - 1]?.getD (0, 0)).1
def itemK (l : List P2) (k : Nat) : Int := (l[k]?.getD (0, 0)).1
def sortTo (n : Nat) (l : List P2) : Nat → Bool
 | 0 => true
 | k + 1 => sortTo n l k && (decide (lastAt l k < itemK l k) && decide (itemK l k < n))
def sortB (n : Nat) (l : List P2) : Bool := sortTo n l l.length
def unitP (p : P2) : Bool := decide (1 ≤ p.2) && decide (p.2 ≤ 1099511627776)
def In64 (a : Int) : Prop := -9223372036854775808 ≤ a ∧ a ≤ 9223372036854775807
def MapN (w : World) (b n : Nat) (M : Int → Int) : Prop :=
 ∃ D : DataW Unit, w.ownsMap Tryz.prog 3 (plainElem Tryz.prog 3) b n D ∧ ∀ a : Int, D.atKey (.int .i64 a) (.lit (.int .i64 0)) = .lit (.int .i64 (M a))
theorem MapN.made (w : World) : MapN (w.alloc (.map #[] 0)) w.heap.size 0 fun _ => 0 := ⟨_, World.ownsMap_made w Tryz.prog 3 (plainElem Tryz.prog 3), fun _ => rfl⟩
theorem MapN.kept {w w' : World} {b n : Nat} {M : Int → Int} {row : Option Nat} (h : MapN w b n M) (hg : w.grownBy w' row) (hne : some b ≠ row) : MapN w' b n M := by
 obtain ⟨D, ho, hD⟩ := h
 exact ⟨D, ho.kept hg hne, hD⟩
theorem MapN.below {w w' : World} {b n : Nat} {M : Int → Int} (h : MapN w b n M) (hb : Below w.heap.size w w') : MapN w' b n M := h.kept (grown_of_below hb none) (by simp)
theorem MapN.lt {w : World} {b n : Nat} {M : Int → Int} (h : MapN w b n M) : b < w.heap.size := by
 obtain ⟨D, ho, hD⟩ := h
 exact ho.lt
theorem MapN.row {w w' : World} {b n B : Nat} {M : Int → Int} {A : Option Addr} {xs : List Value} (hm : MapN w b n M) (h : Row w B A xs) (hg : w.grownBy w' (some b)) (hB : B ≤ w.heap.size) : Row w' B A xs := by
 rcases h with h | ⟨b', off, hA, hb', hc⟩
 ·exact .inl h
 ·refine .inr ⟨b', off, hA, hb', fun j u hu => ?_⟩
  have hne : b' ≠ b := by
   rintro rfl
   have := hc j u hu
   obtain ⟨D, ⟨es, clock, hh, _⟩, _⟩ := hm
   simp [World.cell?, hh] at this
  exact (World.cell?_of_block (w := w) (hg.block b' (by omega) (fun e => hne (Option.some.inj e)))).trans (hc j u hu)
def nK (l : List P2) (k : Nat) : Int := (l[k]?.getD (0, 0)).2
def unitsW (l : List P2) (x : Int) : Nat → Int
 | 0 => 0
 | k + 1 => if itemK l k = x then IntKind.i64.wrap (unitsW l x k + nK l k) else unitsW l x k
def contTo (t b : List P2) : Nat → Bool
 | 0 => true
 | k + 1 => contTo t b k && decide (unitsW b (itemK b k) b.length ≤ unitsW t (itemK b k) t.length)
def contB (t b : List P2) : Bool := contTo t b b.length
def formR (nt nb : Nat) (sp : Bool) (le ti ch of_ : Int) : Bool :=
 if decide (0 < nb) && (ch == of_) then false else if sp then (nt == 0) && (nb == 0) && (le == 0) && (ti == 0) && (ch == of_) else decide (0 < nt) || (ti != 0)
def ruFormed (r : RuM) : Bool := formR r.take.length r.back.length r.spawn r.level r.time r.chance r.of_
def ruRange (r : RuM) : Bool := decide (0 ≤ r.level) && decide (r.level ≤ 100) && decide (0 ≤ r.time) && decide (r.time ≤ 1000000) && decide (1 ≤ r.of_) && decide (r.of_ ≤ 1000000) && decide (1 ≤ r.chance) && decide (r.chance ≤ r.of_)
def txP (p : P2) : Bool := decide (0 ≤ p.1) && decide (p.1 ≤ 1099511627776) && decide (0 ≤ p.2) && decide (p.2 ≤ 10000)
def wtP (r : RwM) : Bool := decide (1 ≤ r.weight) && decide (r.weight ≤ 1099511627776)
def fromAt (brs : List (Int × Int)) (i : Nat) : Int := (brs[i]?.getD (0, 0)).1
def incB (brs : List (Int × Int)) (k : Nat) : Bool := (List.range k).all fun i => i == 0 || decide (fromAt brs (i - 1) < fromAt brs i)
def formedB (brs : List (Int × Int)) : Bool := !brs.isEmpty && (fromAt brs 0 == 0) && incB brs brs.length
def strs (l : List ByteArray) : List Value := l.map Value.string
theorem strs_snoc (l : List ByteArray) (s : ByteArray) : strs (l ++ [s]) = strs l ++ [.string s] := by simp [strs]
theorem one1s (s : ByteArray) : ∀ u ∈ ([.string s] : List Value), u.oneCell' = true := by
 intro u hu
 simp only [List.mem_cons, List.not_mem_nil, or_false] at hu
 rcases hu with rfl; rfl
theorem info9 : (Tryz.prog.info? 9).map (fun i => (i.zero, i.size, i.bytes)) = some (some (.string ⟨#[]⟩), 1, 16) := by kernel_rfl
def wfR (n : Nat) (r : RuM) : Bool := sortB n r.take && sortB n r.give && sortB n r.back && ruFormed r && contB r.take r.back
def wfT (n : Nat) (t : TbM) : Bool := decide (0 < t.rows.length) && (t.rows.all fun r => sortB n r.give)
def wfX (t : TxM) : Bool := formedB t.brs
def wfC (m : CatM) : Bool := m.items.all itFormedB && m.rules.all (wfR m.items.length) && m.tables.all (wfT m.items.length) && m.taxes.all wfX
def rgR (r : RuM) : Bool := r.take.all unitP && r.give.all unitP && r.back.all unitP && ruRange r
def rgT (t : TbM) : Bool := t.rows.all wtP && (t.rows.all fun r => r.give.all unitP)
def rgX (t : TxM) : Bool := t.brs.all txP
def rgC (m : CatM) : Bool := m.items.all itRangeB && m.rules.all rgR && m.tables.all rgT && m.taxes.all rgX
def codeOf (a b c d e : Bool) : Int := if a = false then 4 else if b = false then 6 else if c = false then 8 else if d = false then 1 else if e = false then 5 else 0
def codeC (m : CatM) : Int := codeOf (limC m) (fitB m) (diffC m) (wfC m) (rgC m)
end
section
set_option linter.unusedVariables false
set_option linter.unusedSimpArgs false
def earlierB (ops : Array Oper) : Bool := (List.range ops.size).all fun i => match ops[i]? with | some o => o.after.all fun e => decide (e.on < i) | none => true
theorem earlier_spec {ops : Array Oper} (h : earlierB ops = true) {i : Nat} {o : Oper} (ho : ops[i]? = some o) : ∀ e ∈ o.after, e.on < i := by
 intro e he
 have hi : i < ops.size := (Array.getElem?_eq_some_iff.1 ho).1
 have h1 := List.all_eq_true.1 h i (List.mem_range.2 hi)
 rw [ho] at h1
 simpa using Array.all_eq_true_iff_forall_mem.1 h1 e he
def leftN (l : Array Bool) : Nat := l.toList.count false
theorem leftN_set {l : Array Bool} {i : Nat} (h : l.getD i true = false) : leftN (l.setIfInBounds i true) + 1 = leftN l := by
 have hi : i < l.size := by
  rcases Nat.lt_or_ge i l.size with h1 | h1
  ·exact h1
  ·simp [Array.getElem?_eq_none h1] at h
 have hf' : l.toList[i]'(by simpa using hi) = false := by simpa [hi] using h
 have hpos : 0 < l.toList.count false := List.count_pos_iff.2 (by rw [← hf']; exact List.getElem_mem _)
 unfold leftN
 rw [Array.toList_setIfInBounds, List.count_set (by simpa using hi), hf']
 have e1 : (if (false == false) = true then 1 else 0) = 1 := rfl
 have e2 : (if (true == false) = true then 1 else 0) = 0 := rfl
 rw [e1, e2]
 omega
theorem wpAny_inv {P : Program} {ops : Array Oper} {Q : Exit → Act → World → Prop} (hd : earlierB ops = true) (I : (Nat → Bool) → Act → World → Prop)
 (step : ∀ (i : Nat) (o : Oper) (L : Nat → Bool) (a : Act) (w : World), ops[i]? = some o → L i = false → (∀ e ∈ o.after, Region.binds .any e = true → L e.on = true) → I L a w →
  wpOp P ops Q i (fun a' w' => I (fun j => L j || j == i) a' w') a w)
 (done : ∀ (L : Nat → Bool) (a : Act) (w : World), (∀ i, i < ops.size → L i = true) → I L a w → Q .normal a w) :
 ∀ (fuel : Nat) (listed : Array Bool) (a : Act) (w : World), listed.size = ops.size → leftN listed = fuel → I (fun j => listed.getD j false) a w → wpAny P .any ops Q fuel listed a w := by
 have allOf : ∀ (listed : Array Bool), listed.size = ops.size → Region.ready .any ops listed = [] → ∀ i, i < ops.size → listed.getD i false = true := by
  intro listed hs hr i
  induction i using Nat.strongRecOn with
  | _ i ih =>
    intro hi
    cases hl : listed.getD i false with
    | true => rfl
    | false =>
      have hm : i ∈ Region.ready .any ops listed := by
       rw [mem_ready]
       refine ⟨by simpa [hs, hi] using hl, ops[i], by simp [hi], fun e he _ => ?_⟩
       have := earlier_spec hd (i := i) (o := ops[i]) (by simp [hi]) e he
       exact ih e.on this (by omega)
      rw [hr] at hm
      cases hm
 intro fuel
 induction fuel with
 | zero =>
   intro listed a w hs hl hI
   have hall : ∀ i, i < ops.size → listed.getD i false = true := by
    intro i hi
    have h0 : ¬ false ∈ listed.toList := by
     intro hm
     have := List.count_pos_iff.2 hm
     unfold leftN at hl
     omega
    have hi' : i < listed.size := by omega
    cases hx : listed[i] with
    | true => simp [hi', hx]
    | false => exact absurd (by rw [← hx]; exact Array.mem_toList_iff.2 (Array.getElem_mem hi')) h0
   refine ⟨?_, done _ a w hall hI⟩
   apply List.eq_nil_iff_forall_not_mem.2
   intro i hi
   obtain ⟨h1, o, ho, _⟩ := mem_ready.1 hi
   have hi' := (Array.getElem?_eq_some_iff.1 ho).1
   have h2 := hall i hi'
   have hi2 : i < listed.size := by omega
   simp [hi2] at h1 h2
   rw [h1] at h2
   cases h2
 | succ fuel ih =>
   intro listed a w hs hl hI
   refine ⟨fun h0 => done _ a w (allOf listed hs h0) hI, fun i hi => ?_⟩
   obtain ⟨h1, o, ho, h2⟩ := mem_ready.1 hi
   have hi' := (Array.getElem?_eq_some_iff.1 ho).1
   have hi2 : i < listed.size := by omega
   refine wpOp_mono (fun a' w' hI' => ih (listed.setIfInBounds i true) a' w' (by simpa using hs) (by have := leftN_set h1; omega) ?_) (step i o (fun j => listed.getD j false) a w ho ?_ h2 hI)
   ·have he : (fun j => (listed.setIfInBounds i true).getD j false) = fun j => listed.getD j false || j == i := by
     funext j
     by_cases hij : i = j
     ·subst hij
      simp [hi2]
     ·rw [getD_set_ne false hij]
      have : (j == i) = false := by simpa using fun e => hij e.symm
      rw [this, Bool.or_false]
    rw [he]
    exact hI'
   ·simpa [hi2] using h1
theorem getD_repl (m j : Nat) : (Array.replicate m false).getD j false = false := by
 rcases Nat.lt_or_ge j m with h | h <;> simp [h]
theorem wp_region_inv {P : Program} {ops : Array Oper} {Q : Exit → Act → World → Prop} {id : Nat} {a : Act} {w : World} (hm : P.follows .mixedOrders = true) (hd : earlierB ops = true) (I : (Nat → Bool) → Act → World → Prop)
 (h0 : I (fun _ => false) a w.drew)
 (step : ∀ (i : Nat) (o : Oper) (L : Nat → Bool) (a : Act) (w : World), ops[i]? = some o → L i = false → (∀ e ∈ o.after, Region.binds .any e = true → L e.on = true) → I L a w →
  wpOp P ops Q i (fun a' w' => I (fun j => L j || j == i) a' w') a w)
 (done : ∀ (L : Nat → Bool) (a : Act) (w : World), (∀ i, i < ops.size → L i = true) → I L a w → Q .normal a w) : (Code.region id ops true).wp P Q a w := by
 refine wp_region_any hm (wpAny_inv hd I step done ops.size _ a _ (by simp) (by simp [leftN]) ?_)
 have he : (fun j => (Array.replicate ops.size false).getD j false) = fun _ => false := by
  funext j
  exact getD_repl ops.size j
 rw [he]
 exact h0
section
section
variable {P : Program} {ops : Array Oper} {Q : Exit → Act → World → Prop} {md : Region.Mode} {S : World → Prop} {T : Nat}
def wpAnyX (P : Program) (md : Region.Mode) (ops : Array Oper) (Q : Exit → Act → World → Prop) (S : World → Prop) (T : Nat) : Nat → Array Bool → Act → World → Prop
 | 0, listed, a, w => Region.ready md ops listed = [] ∧ Q .normal a w
 | fuel + 1, listed, a, w =>
   (Region.ready md ops listed = [T] ∧ wpAny P md ops Q (fuel + 1) listed a w) ∨
   ((Region.ready md ops listed = [] → Q .normal a w) ∧
     ∀ i ∈ Region.ready md ops listed, wpOp P ops Q i (fun a' w' => S w' ∧ wpAnyX P md ops Q S T fuel (listed.setIfInBounds i true) a' w') a w)
theorem wpAny_of_X : ∀ (fuel : Nat) (listed : Array Bool) (a : Act) (w : World), wpAnyX P md ops Q S T fuel listed a w → wpAny P md ops Q fuel listed a w
 | 0, _, _, _, h => h
 | fuel + 1, _, _, _, .inl h => h.2
 | fuel + 1, _, _, _, .inr h => ⟨h.1, fun i hi => wpOp_mono (fun a' w' h' => wpAny_of_X fuel _ a' w' h'.2) (h.2 i hi)⟩
theorem wpAnyX_first {i : Nat} {oi : Oper} {v : Value} (hi : ops[i]? = some oi) (hsel : ∀ (j : Nat) (o : Oper) cs b, ops[j]? = some o → o.op ≠ .select cs b)
 (hT : Region.waitsFor md ops T i = true) (hQ : ∀ c a w, Q (.panic c) (a.put oi.dst v) w → Q (.panic c) a w) :
 ∀ (fuel : Nat) (listed : Array Bool) (a : Act) (w : World),
  (∀ j oj, ops[j]? = some oj → j ≠ i → listed.getD j true = false → (∀ e ∈ oj.after, Region.binds md e = true → e.on ≠ i) → oi.apart ops oj = true) →
  i ∈ Region.ready md ops listed → YieldsIf P ops S oi v a → S w →
  wpAnyX P md ops Q S T fuel (listed.setIfInBounds i true) (a.put oi.dst v) w → wpAnyX P md ops Q S T (fuel + 1) listed a w := by
 intro fuel
 induction fuel with
 | zero =>
   intro listed a w _ hr hy hS H
   refine .inr ⟨fun h => (by rw [h] at hr; cases hr), fun j hj => ?_⟩
   by_cases hji : j = i
   ·subst hji; exact hy.wpOp hi hS ⟨hS, H⟩
   ·have := ready_mono hj hji
    rw [H.1] at this
    cases this
 | succ fuel ih =>
   intro listed a w hfree hr hy hS H
   refine .inr ⟨fun h => (by rw [h] at hr; cases hr), fun j hj => ?_⟩
   by_cases hji : j = i
   ·subst hji; exact hy.wpOp hi hS ⟨hS, H⟩
   ·obtain ⟨hjun, oj, hoj, hall⟩ := mem_ready.1 hj
    have hnot : ∀ e ∈ oj.after, Region.binds md e = true → e.on ≠ i := fun e he hb heq => by
     have h1 := hall e he hb
     have h0 := (mem_ready.1 hr).1
     rw [heq] at h1
     rcases Nat.lt_or_ge i listed.size with h' | h'
     ·simp [h'] at h0 h1; rw [h0] at h1; cases h1
     ·simp [Array.getElem?_eq_none h'] at h1
    rcases H with H | H
    ·have h1 := ready_mono hj hji
     rw [H.1] at h1
     obtain rfl : j = T := by simpa using h1
     obtain ⟨o', ho', e, he, hb, hon⟩ := Region.waitsFor_spec hT
     cases Option.some.inj (ho'.symm.trans hoj)
     exact absurd hon (hnot e he hb)
    ·have h1 := H.2 j (ready_mono hj hji)
     have h2 := wpOp_putIf hoj (hfree j oj hoj hji hjun hnot) (fun cs b => hsel i oi cs b hi) (fun cs b => hsel j oj cs b hoj) hQ hy h1
     have hfree' : ∀ k ok, ops[k]? = some ok → k ≠ i → (listed.setIfInBounds j true).getD k true = false →
      (∀ e ∈ ok.after, Region.binds md e = true → e.on ≠ i) → oi.apart ops ok = true := fun k ok hk hki hun hno => by
      refine hfree k ok hk hki ?_ hno
      by_cases hjk : j = k
      ·subst hjk; exact hjun
      ·rw [getD_set_ne true hjk] at hun; exact hun
     refine wpOp_mono (fun a' w' h3 => ⟨h3.2.1, ih (listed.setIfInBounds j true) a' w' hfree' (ready_mono hr (Ne.symm hji)) h3.1 h3.2.1 ?_⟩) h2
     rw [Array.setIfInBounds_comm _ _ hji]
     exact h3.2.2
theorem X_take (i : Nat) (d : Option Tmp) {oi : Oper} {v : Value} {fuel : Nat} {listed listed' : Array Bool} {a : Act} {w : World} (hi : ops[i]? = some oi) (hd : oi.dst = d) (hl : listed.setIfInBounds i true = listed')
 (hB : (Region.noSelect ops && Region.free md ops listed i && (Region.ready md ops listed).contains i && Region.waitsFor md ops T i) = true)
 (hQ : ∀ c a w, Q (.panic c) (a.put oi.dst v) w → Q (.panic c) a w) (hy : Region.wanted oi (yielded ops a.tmps) = true ∧ ∀ w, S w → (execOp a.eval oi).run P w = .ok (.value v) w) (hS : S w)
 (h : wpAnyX P md ops Q S T fuel listed' (a.put d v) w) : wpAnyX P md ops Q S T (fuel + 1) listed a w := by
 simp only [Bool.and_eq_true] at hB
 subst hd hl
 exact wpAnyX_first hi (Region.noSelect_spec hB.1.1.1) hB.2 hQ fuel listed a w (Region.free_spec hi hB.1.1.2) (by simpa using hB.1.2) (.inl hy) hS h
theorem X_one (i : Nat) {o : Oper} {fuel : Nat} {listed listed' : Array Bool} {a : Act} {w : World} (hr : Region.ready md ops listed = [i]) (hl : listed.setIfInBounds i true = listed') (ho : ops[i]? = some o)
 (h : ∀ K' : Act → World → Prop, (∀ a w, S w → wpAnyX P md ops Q S T fuel listed' a w → K' a w) → if Region.wanted o (yielded ops a.tmps) = true then Oper.wp P o a w K' Q else K' (a.put o.dst undef) w) : wpAnyX P md ops Q S T (fuel + 1) listed a w := by
 subst hl
 refine .inr ⟨fun h0 => (by rw [hr] at h0; cases h0), fun j hj => ?_⟩
 rw [hr] at hj
 obtain rfl : j = i := by simpa using hj
 exact wpOp_step ho fun K hK => h K fun a w hS hX => hK a w ⟨hS, hX⟩
theorem X_tail {fuel : Nat} {listed : Array Bool} {a : Act} {w : World} (hr : Region.ready md ops listed = [T]) (h : wpAny P md ops Q (fuel + 1) listed a w) : wpAnyX P md ops Q S T (fuel + 1) listed a w := .inl ⟨hr, h⟩
theorem A_one (i : Nat) {o : Oper} {fuel : Nat} {listed listed' : Array Bool} {a : Act} {w : World} (hr : Region.ready md ops listed = [i]) (hl : listed.setIfInBounds i true = listed') (ho : ops[i]? = some o)
 (h : ∀ K' : Act → World → Prop, (∀ a w, wpAny P md ops Q fuel listed' a w → K' a w) → if Region.wanted o (yielded ops a.tmps) = true then Oper.wp P o a w K' Q else K' (a.put o.dst undef) w) : wpAny P md ops Q (fuel + 1) listed a w := by
 subst hl
 refine ⟨fun h0 => (by rw [hr] at h0; cases h0), fun j hj => ?_⟩
 rw [hr] at hj
 obtain rfl : j = i := by simpa using hj
 exact wpOp_step ho h
theorem A_done {listed : Array Bool} {a : Act} {w : World} (hr : Region.ready md ops listed = []) (h : Q .normal a w) : wpAny P md ops Q 0 listed a w := ⟨hr, h⟩
theorem wp_region_X (S : World → Prop) (T : Nat) {id n : Nat} {a : Act} {w : World} (hn : ops.size = n) (hm : P.follows .mixedOrders = true) (hS : S w.drew)
 (h : S w.drew → wpAnyX P .any ops Q S T n (Array.replicate n false) a w.drew) : (Code.region id ops true).wp P Q a w := by
 subst hn
 exact wp_region_any hm (wpAny_of_X _ _ _ _ (h hS))
end
end
end
set_option linter.unusedVariables false
set_option linter.unusedSimpArgs false
structure ItsR (w : World) (A : Option Addr) (n : Nat) (l : List It) : Prop where
 row : Row w w.heap.size A (icells l)
 len : n = l.length
 small : n ≤ 1000000
 name : ∀ t ∈ l, t.name.size ≤ 8192
theorem ItsR.below {w w' : World} {A : Option Addr} {n : Nat} {l : List It} (h : ItsR w A n l) (hb : Below w.heap.size w w') : ItsR w' A n l := ⟨(h.row.below hb).more hb.size, h.len, h.small, h.name⟩
theorem ItsR.at_ {w : World} {A : Option Addr} {n : Nat} {l : List It} (h : ItsR w A n l) (k : Nat) (hk : k < n) : ∃ b off, A = some ⟨b, off, none⟩ ∧ b < w.heap.size ∧
 w.cell? ⟨b, off + k * 7, none⟩ = some (.string (itAt l k).name) ∧ w.cell? ⟨b, off + k * 7 + 1, none⟩ = some (.bool (itAt l k).object) ∧ w.cell? ⟨b, off + k * 7 + 2, none⟩ = some (.bool (itAt l k).mixed) ∧
 w.cell? ⟨b, off + k * 7 + 3, none⟩ = some (.bool (itAt l k).coin) ∧ w.cell? ⟨b, off + k * 7 + 4, none⟩ = some (.int .i64 (itAt l k).wear) ∧ w.cell? ⟨b, off + k * 7 + 5, none⟩ = some (.int .i64 (itAt l k).bnd) ∧ w.cell? ⟨b, off + k * 7 + 6, none⟩ = some (.int .i64 (itAt l k).level) := by
 have hl : k < l.length := by have := h.len; omega
 obtain ⟨b, off, hA, hb, hc⟩ := h.row.at_ 0 (by rw [icells_length]; omega)
 have g := fun r hr => icells_get l k r hl hr
 refine ⟨b, off, hA, hb, ?_, ?_, ?_, ?_, ?_, ?_, ?_⟩
 ·exact hc _ _ (g 0 (by omega))
 ·rw [Nat.add_assoc]; exact hc _ _ (g 1 (by omega))
 ·rw [Nat.add_assoc]; exact hc _ _ (g 2 (by omega))
 ·rw [Nat.add_assoc]; exact hc _ _ (g 3 (by omega))
 ·rw [Nat.add_assoc]; exact hc _ _ (g 4 (by omega))
 ·rw [Nat.add_assoc]; exact hc _ _ (g 5 (by omega))
 ·rw [Nat.add_assoc]; exact hc _ _ (g 6 (by omega))
section
set_option linter.unusedVariables false
set_option linter.unusedSimpArgs false
section
def GOk (w : World) (g : Nat) : Prop := ∃ (A : Option Addr) (n c : Nat) (zs : List Int) (i : Int), Bk w g 73 [.slice A n c, .int .i64 i] ∧ IntsV w A n zs ∧ (∀ b off, A = some ⟨b, off, none⟩ → b < g) ∧ In64 i
section
variable {w w' V W W' X : World} {g : Nat}
theorem GOk.lt (h : GOk w g) : g < w.heap.size := by obtain ⟨A, n, c, zs, i, h1, _⟩ := h; exact h1.lt
theorem GOk.below (h : GOk w g) (hb : Below w.heap.size w w') : GOk w' g := by
 obtain ⟨A, n, c, zs, i, h1, h2, h3, h4⟩ := h
 exact ⟨A, n, c, zs, i, h1.below hb h1.lt, h2.below hb, h3, h4⟩
theorem row_far {A : Option Addr} {xs : List Value} {b B : Nat} (h : Row w B A xs) (hg : w.grownBy w' (some b)) (hf : ∀ b' off, A = some ⟨b', off, none⟩ → b' ≠ b) (hB : B ≤ w.heap.size) : Row w' B A xs := by
 rcases h with rfl | ⟨b', off, rfl, hb, hc⟩
 ·exact .inl rfl
 ·exact .inr ⟨b', off, rfl, hb, fun j u hu => (World.cell?_of_block (w := w) (hg.block b' (by omega) (fun e => hf b' off rfl (Option.some.inj e)))).trans (hc j u hu)⟩
theorem GOk.keep {b : Nat} (h : GOk w g) (hg : w.grownBy w' (some b)) (hb : g < b) : GOk w' g := by
 obtain ⟨A, n, c, zs, i, h1, h2, h3, h4⟩ := h
 exact ⟨A, n, c, zs, i, h1.grown hg (by simp; omega), ⟨(row_far h2.row hg (fun b' off e => by have := h3 b' off e; omega) (Nat.le_refl _)).more hg.size, h2.len, h2.wf⟩, h3, h4⟩
theorem GOk.row {v : Value} (h : GOk w g) (hg : w.grownBy w' v.ownBlock) (hb : ∀ b, v.ownBlock = some b → g < b) : GOk w' g := by
 cases hv : v.ownBlock with
 | none => rw [hv] at hg; exact h.below ⟨hg.os, hg.tape, hg.output, hg.size, fun b hb => hg.block b hb (by simp)⟩
 | some b => rw [hv] at hg; exact h.keep hg (hb b hv)
theorem grown_trans {a b c : World} {row : Option Nat} (h : a.grownBy b row) (k : b.grownBy c row) : a.grownBy c row :=
 ⟨k.os.trans h.os, k.tape.trans h.tape, k.output.trans h.output, Nat.le_trans h.size k.size, fun i hi hne => (k.block i (Nat.lt_of_lt_of_le hi h.size) hne).trans (h.block i hi hne)⟩
structure GSt (V W : World) (g : Nat) : Prop where
 gr : V.grownBy W (some g)
 ok : GOk W g
 lt : g < V.heap.size
theorem GSt.refl (h : GOk V g) : GSt V V g := ⟨⟨rfl, rfl, rfl, Nat.le_refl _, fun _ _ _ => rfl⟩, h, h.lt⟩
theorem GSt.trans (h : GSt V W g) (k : GSt W X g) : GSt V X g := ⟨grown_trans h.gr k.gr, k.ok, h.lt⟩
theorem GSt.size (h : GSt V W g) : V.heap.size ≤ W.heap.size := h.gr.size
theorem GSt.below (h : GSt V W g) (hb : Below W.heap.size W W') : GSt V W' g := ⟨grown_trans h.gr (grown_of_below hb _), h.ok.below hb, h.lt⟩
theorem GSt.alloc (h : GSt V W g) (o : Obj) : GSt V (W.alloc o) g := h.below ((Below.refl _ _).alloc (Nat.le_refl _) o)
theorem GSt.grow {row : Option Nat} (h : GSt V W g) (hg : W.grownBy W' row) (hr : ∀ b, row = some b → V.heap.size ≤ b) : GSt V W' g := by
 have hlt := h.lt
 refine ⟨⟨hg.os.trans h.gr.os, hg.tape.trans h.gr.tape, hg.output.trans h.gr.output, Nat.le_trans h.gr.size hg.size, fun i hi hne => (hg.block i (Nat.lt_of_lt_of_le hi h.gr.size) (fun e => ?_)).trans (h.gr.block i hi hne)⟩, ?_, hlt⟩
 ·have := hr i e.symm; omega
 ·cases row with
  | none => exact h.ok.below ⟨hg.os, hg.tape, hg.output, hg.size, fun b hb => hg.block b hb (by simp)⟩
  | some b => exact h.ok.keep hg (by have := hr b rfl; omega)
theorem GSt.set (h : GSt V W g) (b k : Nat) (u : Value) (hb : V.heap.size ≤ b) : GSt V (W.setCell ⟨b, k, none⟩ u) g := h.grow (grown_setCell W b k u) (fun b' e => by cases e; exact hb)
theorem GSt.bk (h : GSt V W g) {b : Nat} {t : TypeId} {xs : List Value} (k : Bk V b t xs) (hne : b ≠ g) : Bk W b t xs := k.grown h.gr (by simpa using hne)
theorem GSt.keep (h : GSt V W g) (hg : GOk V g) (t : TypeId) (ht : t ≠ 73) : Keep t V W := by
 obtain ⟨A, n, c, zs, i, h1, _⟩ := hg
 refine .grown h.gr fun cur fl e => ?_
 unfold Bk at h1
 rw [h1] at e
 cases e
 exact ht rfl
theorem GSt.own (h : GSt V W g) {base e size n : Nat} {v : Value} {xs : List Value} (k : V.ownsRow base e size v n xs) (hne : v.ownBlock ≠ some g) : W.ownsRow base e size v n xs := k.kept h.gr (.inr hne)
def NextG (V : World) (g : Nat) (m : Int) (e : Ending) (W : World) : Prop := ∃ x, e = .returned (.int .i64 x) ∧ 0 ≤ x ∧ x < m ∧ GSt V W g
theorem in64_wrap (x : Int) : In64 (IntKind.i64.wrap x) := by rw [IntKind.wrap_i64]; unfold In64; omega
theorem pick_q {A : Option Addr} {n c : Nat} {zs : List Int} (i m : Int) (h : IntsV w A n zs) (hi : In64 i) (hm : 1 ≤ m) (hm2 : m ≤ 9223372036854775807) (k : Nat) :
 Calls Tryz.prog 66 #[.slice A n c, .int .i64 i, .int .i64 m] (w.drewN k) fun e w' => e = .returned (.int .i64 (pick zs i m)) ∧ w' = w.drewN k :=
 (pick_any A n c zs _ i m (w.drewN k) h.row h.len h.wf hi.1 hi.2 hm hm2).mono fun _ _ ⟨a, b⟩ => ⟨a, b.symm⟩
set_option maxRecDepth 100000 in
set_option maxHeartbeats 1000000 in
theorem next_g (m : Int) (h : GOk w g) (m0 : 1 ≤ m) (m1 : m ≤ 9223372036854775807) : Calls Tryz.prog 37 #[.pointer (some ⟨g, 0, none⟩), .int .i64 m] w (NextG w g m) := by
 obtain ⟨A, n, c, zs, i, h1, h2, h3, h4⟩ := h
 have hlt := h1.lt
 have c0 : w.cell? ⟨g, 0, none⟩ = some (.slice A n c) := h1.cell 0
 have c1 : w.cell? ⟨g, 1, none⟩ = some (.int .i64 i) := h1.cell 1
 have f1 := h1.frozen 1
 obtain ⟨i2, hi2⟩ : ∃ i2, IntKind.i64.wrap (i + 1) = i2 := ⟨_, rfl⟩
 obtain ⟨i3, hi3⟩ : ∃ i3, IntKind.i64.wrap (i2 - 1) = i3 := ⟨_, rfl⟩
 have in3 : In64 i3 := by rw [← hi3]; exact in64_wrap _
 have hg := grown_setCell w g 1 (.int .i64 i2)
 have hI : IntsV (w.setCell ⟨g, 1, none⟩ (.int .i64 i2)) A n zs := ⟨(row_far h2.row hg (fun b' off e => by have := h3 b' off e; omega) (Nat.le_refl _)).more hg.size, h2.len, h2.wf⟩
 have HG : Hid (GSt w (w.setCell ⟨g, 1, none⟩ (.int .i64 i2)) g) := ⟨hg, ⟨A, n, c, zs, i2, h1.set 1 _, hI, h3, by rw [← hi2]; exact in64_wrap _⟩, hlt⟩
 have HK : Hid (Bk (w.setCell ⟨g, 1, none⟩ (.int .i64 i2)) g 73 [.slice A n c, .int .i64 i2]) := h1.set 1 _
 have HI := Lib.hid hI
 have Hin := Lib.hid in3
 clear h1 h2 h3 h4 hg hI in3
 go_enter Tryz.func37, Tryz.ntmps37
 go_wp2_with fail
 obtain ⟨W, hW⟩ : ∃ W, w.setCell ⟨g, 1, none⟩ (.int .i64 i2) = W := ⟨_, rfl⟩
 rw [hW] at HG HK HI ⊢
 clear hW c0 c1 f1
 have d0 : W.cell? ⟨g, 0, none⟩ = some (.slice A n c) := HK.out.cell 0
 have d1 : W.cell? ⟨g, 1, none⟩ = some (.int .i64 i2) := HK.out.cell 1
 have K := Lib.hid (fun q => pick_q (c := c) i3 m HI.out Hin.out m0 m1 q)
 have p0 := pick_lo zs i3 m m0
 have p1 := pick_hi zs i3 m m0
 generalize pick zs i3 m = x at *
 go_quiet ((go_at_call 66; exact Calls.quiet_of_same (K.out _)))
 go_wp2
 go_ret
 exact ⟨x, rfl, p0, p1, HG.out.below (bel_drewN (Below.refl _ _) _)⟩
def poolN (pool : List ByteArray) (turn n : Nat) : List ByteArray := (List.range n).map fun i => pool[(i + turn) % pool.length]?.getD ⟨#[]⟩
theorem poolN_succ (pool : List ByteArray) (turn n : Nat) : poolN pool turn (n + 1) = poolN pool turn n ++ [pool[(n + turn) % pool.length]?.getD ⟨#[]⟩] := by simp [poolN, List.range_succ]
@[simp] theorem poolN_length (pool : List ByteArray) (turn n : Nat) : (poolN pool turn n).length = n := by simp [poolN]
def SomeG (V : World) (g : Nat) (pool : List ByteArray) (most : Nat) (e : Ending) (W : World) : Prop :=
 ∃ v turn n, e = .returned v ∧ turn < pool.length ∧ 1 ≤ n ∧ n ≤ most ∧ W.ownsRow V.heap.size 9 1 v n (strs (poolN pool turn n)) ∧ GSt V W g
set_option maxRecDepth 100000 in
set_option maxHeartbeats 2000000 in
theorem some_g {b : Nat} (c : Nat) {pool : List ByteArray} (most : Nat) (h : GOk w g) (hp : Bk w b 9 (strs pool)) (hb : b ≠ g) (h0 : 0 < pool.length) (h1 : pool.length ≤ 1000) (m0 : 1 ≤ most) (m1 : most ≤ 1000) :
 Calls Tryz.prog 33 #[.pointer (some ⟨g, 0, none⟩), .slice (some ⟨b, 0, none⟩) pool.length c, .int .i64 most] w (SomeG w g pool most) := by
 obtain ⟨i0, hinf, hz0, hz1, hz2⟩ := info_parts info9
 obtain ⟨np, hnp⟩ : ∃ np, pool.length = np := ⟨_, rfl⟩
 have Hnp := Lib.hid hnp
 rw [hnp] at h0 h1 ⊢
 have H := Lib.hid h
 have HP := Lib.hid hp
 clear h hp hnp
 go_enter Tryz.func33, Tryz.ntmps33
 go_wp2_with fail
 (with_reducible refine (next_g (np : Int) H.out (by omega) (by omega)).mono ?_)
 rintro e w1 ⟨x, rfl, x0, x1, hs1⟩
 obtain ⟨turn, rfl⟩ := Int.eq_ofNat_of_zero_le x0
 have HS1 := Lib.hid hs1
 clear hs1 x0
 go_wp2_with fail
 (with_reducible refine (next_g (most : Int) HS1.out.ok (by omega) (by omega)).mono ?_)
 rintro e w2 ⟨y, rfl, y0, y1, hs2⟩
 obtain ⟨y, rfl⟩ := Int.eq_ofNat_of_zero_le y0
 have HS2 := Lib.hid (HS1.out.trans hs2)
 clear hs2 HS1 y0
 have HP2 := Lib.hid (HS2.out.bk HP.out hb)
 go_wp2_with fail
 go_loopw [9, 10] (fun v i wr => ∃ k : Nat, k ≤ 1 + y ∧ i = .int .i64 k ∧ wr.ownsRow w.heap.size 9 1 v k (strs (poolN pool turn k)) ∧ Bk wr b 9 (strs pool) ∧ GSt w wr g) (fun _ i _ => 1 + y - (intOf i).toNat)
 case atStart => exact ⟨0, by omega, rfl, World.ownsRow_nil _ _ _ _, HP2.out, HS2.out⟩
 case round =>
  obtain ⟨k, hk, rfl, hown, hbk, hst⟩ := hrel
  have HO := Lib.hid hown
  have HB := Lib.hid hbk
  have HS := Lib.hid hst
  have hsz := hst.size
  have hbl := HP.out.lt
  clear hown hbk hst
  by_cases hlt : k < 1 + y
  ·obtain ⟨j, hj⟩ : ∃ j, (k + turn) % np = j := ⟨_, rfl⟩
   have hjn : j < np := by rw [← hj]; exact Nat.mod_lt _ h0
   have e1 : ((k : Int) + (turn : Int)) % (np : Int) = (j : Int) := by rw [← hj]; simp
   have HT := Lib.hid (poolN_succ pool turn k)
   rw [Hnp.out, hj] at HT
   have hjp : j < pool.length := by rw [Hnp.out]; exact hjn
   have c0 : wr.cell? ⟨b, j, none⟩ = some (.string pool[j]) := (HB.out.cell j).trans (by simp [strs, hjp])
   have e2 : pool[j]?.getD ⟨#[]⟩ = pool[j] := by simp [hjp]
   rw [e2] at HT
   generalize pool[j] = s at *
   have hbw := HB.out.lt
   clear hj hjp e2
   go_wp2_with (at_builtin; refine wpList_append_own_at _ rfl _ _ 39 rfl w.heap.size 9 i0 (.string ⟨#[]⟩) 1 16 Tryz.underlying39 hinf hz0 hz1 hz2 rfl (by decide) _ k (strs (poolN pool turn k)) rfl (HO.out.alloc _) ⟨wr.heap.size, 0, none⟩ 1 1 [.string s] rfl rfl (new1 _ _ _) (one1s _) (by unfold maxLen; omega) (by omega) (by simp; omega) ?_)
   intro v' w3 hown' hgrow _ _
   have hbase := row_base HO.out
   have HB3 := Lib.hid ((HB.out.alloc (.cells #[.string s] 9)).grown hgrow (fun e => by have := hbase b e.symm; omega))
   have HS3 := Lib.hid ((HS.out.alloc (.cells #[.string s] 9)).grow hgrow hbase)
   have HO3 := Lib.hid hown'
   clear hown' hgrow
   go_wp2
   go_roundw
   case rel => exact ⟨k + 1, by omega, by go_num, by rw [HT.out, strs_snoc]; exact HO3.out, HB3.out, HS3.out⟩
   case measure => simp [intOf]; omega
  ·obtain rfl : 1 + y = k := by omega
   have ht : turn < pool.length := by rw [Hnp.out]; omega
   go_wp2
   go_ret
   exact ⟨_, turn, 1 + y, rfl, ht, by omega, by omega, HO.out, HS.out⟩
end
end
section
def Am (n : Nat) (l : List P2) : Prop := l.Pairwise (fun a b => a.1 < b.1) ∧ ∀ p ∈ l, 0 ≤ p.1 ∧ p.1 < n ∧ 1 ≤ p.2 ∧ p.2 ≤ 4
theorem Am.snoc {k : Nat} {l : List P2} (h : Am k l) {x : Int} (h1 : 1 ≤ x) (h2 : x ≤ 4) : Am (k + 1) (l ++ [((k : Int), x)]) := by
 refine ⟨List.pairwise_append.2 ⟨h.1, by simp, fun a ha b hb => ?_⟩, fun p hp => ?_⟩
 ·rw [List.mem_singleton.1 hb]; have := h.2 a ha; dsimp only; omega
 ·rcases List.mem_append.1 hp with hp | hp
  ·have := h.2 p hp; omega
  ·rw [List.mem_singleton.1 hp]; dsimp only; omega
theorem Am.mono {k n : Nat} {l : List P2} (h : Am k l) (hkn : k ≤ n) : Am n l := ⟨h.1, fun p hp => by have := h.2 p hp; omega⟩
theorem Am.sort {n : Nat} {l : List P2} (h : Am n l) : sortB n l = true := by
 have key : ∀ k, k ≤ l.length → sortTo n l k = true := by
  intro k
  induction k with
  | zero => intro _; rfl
  | succ k ih =>
    intro hk
    have hkl : k < l.length := by omega
    have e1 : itemK l k = l[k].1 := by simp [itemK, hkl]
    have hm := h.2 l[k] (List.getElem_mem hkl)
    have e2 : lastAt l k < itemK l k := by
     rw [e1]
     unfold lastAt
     split
     ·omega
     ·have := List.pairwise_iff_getElem.1 h.1 (k - 1) k (by omega) hkl (by omega)
      simpa [show k - 1 < l.length by omega] using this
    simp only [sortTo, ih (by omega), decide_eq_true e2]
    rw [e1, decide_eq_true hm.2.1]
    rfl
 exact key _ (Nat.le_refl _)
theorem Am.units {n : Nat} {l : List P2} (h : Am n l) : l.all unitP = true := by
 rw [List.all_eq_true]
 intro p hp
 have := h.2 p hp
 simp only [unitP, Bool.and_eq_true, decide_eq_true_eq]
 omega
theorem info132 : (Tryz.prog.info? 132).map (fun i => (i.zero, i.size, i.bytes)) = some (some (.agg #[.int .i64 0, .int .i64 0]), 2, 16) := by kernel_rfl
theorem new2 (w : World) (t : TypeId) (a b : Value) : ∀ j u, ([a, b] : List Value)[j]? = some u → (w.alloc (.cells #[a, b] t)).cell? ((⟨w.heap.size, 0, none⟩ : Addr).add j) = some u := by
 intro j u hj
 match j, hj with
 | 0, hj => simp at hj; subst hj; simp [Addr.add]
 | 1, hj => simp at hj; subst hj; simp [Addr.add]
 | j + 2, hj => simp at hj
theorem one2 (x y : Int) : ∀ u ∈ ([.int .i64 x, .int .i64 y] : List Value), u.oneCell' = true := by
 intro u hu
 simp only [List.mem_cons, List.not_mem_nil, or_false] at hu
 rcases hu with rfl | rfl <;> rfl
def AmtsG (V : World) (g n most : Nat) (e : Ending) (W : World) : Prop :=
 ∃ v l, e = .returned v ∧ W.ownsRow V.heap.size 132 2 v l.length (pcells l) ∧ Am n l ∧ l.length ≤ most ∧ GSt V W g
set_option maxRecDepth 100000 in
set_option maxHeartbeats 2000000 in
theorem amounts_g {w : World} {g : Nat} (n most : Nat) (h : GOk w g) (hn : n ≤ 1000) (hm : most ≤ 1000) :
 Calls Tryz.prog 36 #[.pointer (some ⟨g, 0, none⟩), .int .i64 n, .int .i64 most] w (AmtsG w g n most) := by
 obtain ⟨i0, hinf, hz0, hz1, hz2⟩ := info_parts info132
 have H := Lib.hid h
 clear h
 go_enter Tryz.func36, Tryz.ntmps36
 go_wp2_with fail
 go_loopw [7, 8, 9] (fun v lf i wr => ∃ (k : Nat) (l : List P2), k ≤ n ∧ l.length ≤ most ∧ i = .int .i64 k ∧ lf = .int .i64 ((most - l.length : Nat) : Int) ∧ wr.ownsRow w.heap.size 132 2 v l.length (pcells l) ∧ Am k l ∧ GSt w wr g) (fun _ _ i _ => n - (intOf i).toNat)
 case atStart => exact ⟨0, [], by omega, by simp, rfl, by simp, World.ownsRow_nil _ _ _ _, ⟨by simp, by simp⟩, GSt.refl H.out⟩
 case round =>
  obtain ⟨k, l, hk, hl, rfl, rfl, hown, hA, hst⟩ := hrel
  have HO := Lib.hid hown
  have HA := Lib.hid hA
  have HS := Lib.hid hst
  have hsz := hst.size
  clear hown hA hst
  obtain ⟨m, hm2⟩ : ∃ m, l.length = m := ⟨_, rfl⟩
  have Hm := Lib.hid hm2
  rw [hm2] at hl HO ⊢
  clear hm2
  obtain ⟨lf, hlf⟩ : ∃ lf, most - m = lf := ⟨_, rfl⟩
  have Hlf := Lib.hid hlf
  rw [hlf]
  have hlf2 : lf ≤ 1000 := by omega
  clear hlf
  by_cases hlt : k < n
  ·by_cases hpos : 0 < lf
   ·have a1 : decide ((0 : Int) < (lf : Int)) = true := decide_eq_true (by omega)
    go_wp2_with fail
    (with_reducible refine (next_g 3 HS.out.ok (by omega) (by omega)).mono ?_)
    rintro e w1 ⟨x, rfl, x0, x1, hs1⟩
    have HS1 := Lib.hid (HS.out.trans hs1)
    have hgne : u7.ownBlock ≠ some g := fun e => by have h1 := row_base HO.out g e; have h2 := HS.out.lt; omega
    have HO1 := Lib.hid (hs1.own HO.out hgne)
    clear hs1
    by_cases hx : x = 0
    ·subst hx
     go_wp2_with fail
     (with_reducible refine (next_g 4 HS1.out.ok (by omega) (by omega)).mono ?_)
     rintro e w2 ⟨y, rfl, y0, y1, hs2⟩
     have HS2 := Lib.hid (HS1.out.trans hs2)
     have HO2 := Lib.hid (hs2.own HO1.out hgne)
     have hsz2 := HS2.out.size
     clear hs2
     go_wp2_with (at_builtin; refine wpList_append_own_at _ rfl _ _ 78 rfl w.heap.size 132 i0 (.agg #[.int .i64 0, .int .i64 0]) 2 16 Tryz.underlying78 hinf hz0 hz1 hz2 rfl (by decide) _ m (pcells l) rfl (HO2.out.alloc _) ⟨w2.heap.size, 0, none⟩ 1 1 [.int .i64 (k : Int), .int .i64 (1 + y)] rfl rfl (new2 _ _ _ _) (one2 _ _) (by unfold maxLen; omega) (by omega) (by simp; omega) ?_)
     intro v' w3 hown' hgrow _ _
     have HS3 := Lib.hid ((HS2.out.alloc (.cells #[.int .i64 (k : Int), .int .i64 (1 + y)] 132)).grow hgrow (row_base HO2.out))
     have HO3 := Lib.hid hown'
     clear hown' hgrow
     have e1 : (lf : Int) - 1 = ((lf - 1 : Nat) : Int) := by omega
     go_wp2
     go_roundw
     case rel =>
      refine ⟨k + 1, l ++ [((k : Int), 1 + y)], by omega, ?_, by go_num, ?_, ?_, HA.out.snoc (by omega) (by omega), HS3.out⟩
      ·have := Hm.out; have := Hlf.out; simp; omega
      ·have h1 := Hm.out
       have h2 := Hlf.out
       first
        | (congr 2; simp; omega)
        | (simp; omega)
      ·have h1 := Hm.out
       rw [pcells_snoc, List.length_append, h1]
       exact HO3.out
     case measure => simp [intOf]; omega
    ·have e1 : (x == 0) = false := by simpa using hx
     go_wp2
     go_roundw
     case rel => exact ⟨k + 1, l, by omega, by have := Hm.out; omega, by go_num, by rw [Hm.out, Hlf.out], by rw [Hm.out]; exact HO1.out, HA.out.mono (by omega), HS1.out⟩
     case measure => simp [intOf]; omega
   ·have a1 : decide ((0 : Int) < (lf : Int)) = false := decide_eq_false (by omega)
    have a2 : decide (0 < lf) = false := decide_eq_false hpos
    go_wp2
    go_ret
    exact ⟨_, l, rfl, by rw [Hm.out]; exact HO.out, HA.out.mono hk, by have := Hm.out; omega, HS.out⟩
  ·go_wp2
   go_ret
   exact ⟨_, l, rfl, by rw [Hm.out]; exact HO.out, HA.out.mono hk, by have := Hm.out; omega, HS.out⟩
def ItemG (V : World) (g : Nat) (nm : ByteArray) (e : Ending) (W : World) : Prop :=
 ∃ t : It, e = .returned t.val ∧ t.name = nm ∧ itFormedB t = true ∧ itRangeB t = true ∧ GSt V W g
structure ItAt (V W : World) (g : Nat) (t : It) : Prop where
 st : GSt V W g
 res : Bk W V.heap.size 76 [.string ⟨#[]⟩, .bool false, .bool false, .bool false, .int .i64 0, .int .i64 0, .int .i64 0]
 bx : Bk W (V.heap.size + 1) 76 t.cells
section
variable {V W W' : World} {g : Nat} {t t' : It}
theorem ItAt.next (h : ItAt V W g t) (k : GSt W W' g) : ItAt V W' g t := by
 have := h.st.lt
 exact ⟨h.st.trans k, k.bk h.res (by omega), k.bk h.bx (by omega)⟩
theorem ItAt.set (h : ItAt V W g t) (j : Nat) (u : Value) (hu : t.cells.set j u = t'.cells) : ItAt V (W.setCell ⟨V.heap.size + 1, j, none⟩ u) g t' :=
 ⟨h.st.set _ _ _ (by omega), h.res.far (by simp) _, by rw [← hu]; exact h.bx.set j u⟩
end
theorem ItAt.done {V W : World} {g : Nat} {t : It} (h : ItAt V W g t) (f : itFormedB t = true) (r : itRangeB t = true) :
 ItemG V g t.name (.returned t.val) (((((((W.setCell ⟨V.heap.size, 0, none⟩ (.string t.name)).setCell ⟨V.heap.size, 1, none⟩ (.bool t.object)).setCell ⟨V.heap.size, 2, none⟩ (.bool t.mixed)).setCell ⟨V.heap.size, 3, none⟩ (.bool t.coin)).setCell ⟨V.heap.size, 4, none⟩ (.int .i64 t.wear)).setCell ⟨V.heap.size, 5, none⟩ (.int .i64 t.bnd)).setCell ⟨V.heap.size, 6, none⟩ (.int .i64 t.level)) ∧
 (((((((W.setCell ⟨V.heap.size, 0, none⟩ (.string t.name)).setCell ⟨V.heap.size, 1, none⟩ (.bool t.object)).setCell ⟨V.heap.size, 2, none⟩ (.bool t.mixed)).setCell ⟨V.heap.size, 3, none⟩ (.bool t.coin)).setCell ⟨V.heap.size, 4, none⟩ (.int .i64 t.wear)).setCell ⟨V.heap.size, 5, none⟩ (.int .i64 t.bnd)).setCell ⟨V.heap.size, 6, none⟩ (.int .i64 t.level)).heap[V.heap.size]? = some (.cells #[.string t.name, .bool t.object, .bool t.mixed, .bool t.coin, .int .i64 t.wear, .int .i64 t.bnd, .int .i64 t.level] 76 (0, 0)) := by
 refine ⟨⟨t, rfl, rfl, f, r, ?_⟩, ?_⟩
 ·exact ((((((h.st.set _ _ _ (by omega)).set _ _ _ (by omega)).set _ _ _ (by omega)).set _ _ _ (by omega)).set _ _ _ (by omega)).set _ _ _ (by omega)).set _ _ _ (by omega)
 ·exact ((((((h.res.set 0 _).set 1 _).set 2 _).set 3 _).set 4 _).set 5 _).set 6 _
set_option maxRecDepth 100000 in
set_option maxHeartbeats 2000000 in
theorem item_g {w : World} {g : Nat} (nm : ByteArray) (i : Nat) (h : GOk w g) (hi : i ≤ 1000) : Calls Tryz.prog 34 #[.pointer (some ⟨g, 0, none⟩), .string nm, .int .i64 i] w (ItemG w g nm) := by
 have hA : ItAt w ((w.alloc (.cells #[.string ⟨#[]⟩, .bool false, .bool false, .bool false, .int .i64 0, .int .i64 0, .int .i64 0] 76)).alloc (.cells #[.string nm, .bool false, .bool false, .bool false, .int .i64 0, .int .i64 0, .int .i64 0] 76)) g ⟨nm, false, false, false, 0, 0, 0⟩ := by
  have kx := Bk.new (w.alloc (.cells #[.string ⟨#[]⟩, .bool false, .bool false, .bool false, .int .i64 0, .int .i64 0, .int .i64 0] 76)) 76 [.string nm, .bool false, .bool false, .bool false, .int .i64 0, .int .i64 0, .int .i64 0]
  rw [World.size_alloc] at kx
  exact ⟨((GSt.refl h).alloc _).alloc _, (Bk.new w 76 [.string ⟨#[]⟩, .bool false, .bool false, .bool false, .int .i64 0, .int .i64 0, .int .i64 0]).alloc _, kx⟩
 have HA := Lib.hid hA
 clear h hA
 go_enter Tryz.func34, Tryz.ntmps34
 go_wp2_with fail
 (with_reducible refine (next_g 5 HA.out.st.ok (by omega) (by omega)).mono ?_)
 rintro e w1 ⟨x, rfl, x0, x1, hs1⟩
 have HA1 := Lib.hid (HA.out.next hs1)
 clear hs1 HA
 by_cases hx0 : x = 0
 ·subst hx0
  have x : w1.cell? ⟨w.heap.size + 1, 2, none⟩ = some (.bool false) := HA1.out.bx.cell 2
  have y := HA1.out.bx.frozen 2
  have z := HA1.out.bx.lt
  have HA2 := Lib.hid (HA1.out.set (t' := ⟨nm, false, true, false, 0, 0, 0⟩) 2 (.bool true) rfl)
  go_upto_region 11 with fail
  obtain ⟨W2, hW2⟩ : ∃ W2, w1.setCell ⟨w.heap.size + 1, 2, none⟩ (.bool true) = W2 := ⟨_, rfl⟩
  rw [hW2] at HA2 ⊢
  clear hW2 x y z HA1
  have x : W2.cell? ⟨w.heap.size + 1, 3, none⟩ = some (.bool false) := HA2.out.bx.cell 3
  have y := HA2.out.bx.frozen 3
  have z := HA2.out.bx.lt
  have HA9 := Lib.hid (HA2.out.set (t' := ⟨nm, false, true, ((i : Int) == 0), 0, 0, 0⟩) 3 (.bool ((i : Int) == 0)) rfl)
  go_upto_region 12 with fail
  obtain ⟨W9, hW9⟩ : ∃ W9, W2.setCell ⟨w.heap.size + 1, 3, none⟩ (.bool ((i : Int) == 0)) = W9 := ⟨_, rfl⟩
  rw [hW9] at HA9 ⊢
  clear hW9 x y z HA2
  have x0 : W9.cell? ⟨w.heap.size + 1, 0, none⟩ = some (.string nm) := HA9.out.bx.cell 0
  have r0 : W9.cell? ⟨w.heap.size, 0, none⟩ = some (.string ⟨#[]⟩) := HA9.out.res.cell 0
  have f0 := HA9.out.res.frozen 0
  have x1 : W9.cell? ⟨w.heap.size + 1, 1, none⟩ = some (.bool false) := HA9.out.bx.cell 1
  have r1 : W9.cell? ⟨w.heap.size, 1, none⟩ = some (.bool false) := HA9.out.res.cell 1
  have f1 := HA9.out.res.frozen 1
  have x2 : W9.cell? ⟨w.heap.size + 1, 2, none⟩ = some (.bool true) := HA9.out.bx.cell 2
  have r2 : W9.cell? ⟨w.heap.size, 2, none⟩ = some (.bool false) := HA9.out.res.cell 2
  have f2 := HA9.out.res.frozen 2
  have x3 : W9.cell? ⟨w.heap.size + 1, 3, none⟩ = some (.bool ((i : Int) == 0)) := HA9.out.bx.cell 3
  have r3 : W9.cell? ⟨w.heap.size, 3, none⟩ = some (.bool false) := HA9.out.res.cell 3
  have f3 := HA9.out.res.frozen 3
  have x4 : W9.cell? ⟨w.heap.size + 1, 4, none⟩ = some (.int .i64 0) := HA9.out.bx.cell 4
  have r4 : W9.cell? ⟨w.heap.size, 4, none⟩ = some (.int .i64 0) := HA9.out.res.cell 4
  have f4 := HA9.out.res.frozen 4
  have x5 : W9.cell? ⟨w.heap.size + 1, 5, none⟩ = some (.int .i64 0) := HA9.out.bx.cell 5
  have r5 : W9.cell? ⟨w.heap.size, 5, none⟩ = some (.int .i64 0) := HA9.out.res.cell 5
  have f5 := HA9.out.res.frozen 5
  have x6 : W9.cell? ⟨w.heap.size + 1, 6, none⟩ = some (.int .i64 0) := HA9.out.bx.cell 6
  have r6 : W9.cell? ⟨w.heap.size, 6, none⟩ = some (.int .i64 0) := HA9.out.res.cell 6
  have f6 := HA9.out.res.frozen 6
  have hl9 := HA9.out.bx.lt
  have HD := Lib.hid (HA9.out.done (by rfl) (by rfl))
  generalize ((i : Int) == 0) = ci at *
  go_wp2
  have t1 := HD.out.2
  refine bodyPost_ret (v := .agg #[.string nm, .bool false, .bool true, .bool ci, .int .i64 0, .int .i64 0, .int .i64 0]) (by simp [results, Tryz.results34, go_sem, World.cell?, t1]) rfl HD.out.1
 have e0 : (x == 0) = false := by simpa using hx0
 by_cases hx1 : x = 1
 rotate_left
 ·have e1 : (x == 1) = false := by simpa using hx1
  go_upto_region 11 with fail
  have x : w1.cell? ⟨w.heap.size + 1, 3, none⟩ = some (.bool false) := HA1.out.bx.cell 3
  have y := HA1.out.bx.frozen 3
  have z := HA1.out.bx.lt
  have HA9 := Lib.hid (HA1.out.set (t' := ⟨nm, false, false, ((i : Int) == 0), 0, 0, 0⟩) 3 (.bool ((i : Int) == 0)) rfl)
  go_upto_region 12 with fail
  obtain ⟨W9, hW9⟩ : ∃ W9, w1.setCell ⟨w.heap.size + 1, 3, none⟩ (.bool ((i : Int) == 0)) = W9 := ⟨_, rfl⟩
  rw [hW9] at HA9 ⊢
  clear hW9 x y z HA1
  have x0 : W9.cell? ⟨w.heap.size + 1, 0, none⟩ = some (.string nm) := HA9.out.bx.cell 0
  have r0 : W9.cell? ⟨w.heap.size, 0, none⟩ = some (.string ⟨#[]⟩) := HA9.out.res.cell 0
  have f0 := HA9.out.res.frozen 0
  have x1 : W9.cell? ⟨w.heap.size + 1, 1, none⟩ = some (.bool false) := HA9.out.bx.cell 1
  have r1 : W9.cell? ⟨w.heap.size, 1, none⟩ = some (.bool false) := HA9.out.res.cell 1
  have f1 := HA9.out.res.frozen 1
  have x2 : W9.cell? ⟨w.heap.size + 1, 2, none⟩ = some (.bool false) := HA9.out.bx.cell 2
  have r2 : W9.cell? ⟨w.heap.size, 2, none⟩ = some (.bool false) := HA9.out.res.cell 2
  have f2 := HA9.out.res.frozen 2
  have x3 : W9.cell? ⟨w.heap.size + 1, 3, none⟩ = some (.bool ((i : Int) == 0)) := HA9.out.bx.cell 3
  have r3 : W9.cell? ⟨w.heap.size, 3, none⟩ = some (.bool false) := HA9.out.res.cell 3
  have f3 := HA9.out.res.frozen 3
  have x4 : W9.cell? ⟨w.heap.size + 1, 4, none⟩ = some (.int .i64 0) := HA9.out.bx.cell 4
  have r4 : W9.cell? ⟨w.heap.size, 4, none⟩ = some (.int .i64 0) := HA9.out.res.cell 4
  have f4 := HA9.out.res.frozen 4
  have x5 : W9.cell? ⟨w.heap.size + 1, 5, none⟩ = some (.int .i64 0) := HA9.out.bx.cell 5
  have r5 : W9.cell? ⟨w.heap.size, 5, none⟩ = some (.int .i64 0) := HA9.out.res.cell 5
  have f5 := HA9.out.res.frozen 5
  have x6 : W9.cell? ⟨w.heap.size + 1, 6, none⟩ = some (.int .i64 0) := HA9.out.bx.cell 6
  have r6 : W9.cell? ⟨w.heap.size, 6, none⟩ = some (.int .i64 0) := HA9.out.res.cell 6
  have f6 := HA9.out.res.frozen 6
  have hl9 := HA9.out.bx.lt
  have HD := Lib.hid (HA9.out.done (by rfl) (by rfl))
  generalize ((i : Int) == 0) = ci at *
  go_wp2
  have t1 := HD.out.2
  refine bodyPost_ret (v := .agg #[.string nm, .bool false, .bool false, .bool ci, .int .i64 0, .int .i64 0, .int .i64 0]) (by simp [results, Tryz.results34, go_sem, World.cell?, t1]) rfl HD.out.1
 subst hx1
 by_cases hi0 : 0 < i
 rotate_left
 ·have e1 : decide ((0 : Int) < (i : Int)) = false := decide_eq_false (by omega)
  have e2 : decide (0 < i) = false := decide_eq_false hi0
  have x : w1.cell? ⟨w.heap.size + 1, 1, none⟩ = some (.bool false) := HA1.out.bx.cell 1
  have y := HA1.out.bx.frozen 1
  have z := HA1.out.bx.lt
  have HA2 := Lib.hid (HA1.out.set (t' := ⟨nm, false, false, false, 0, 0, 0⟩) 1 (.bool false) rfl)
  go_upto_region 7 with fail
  obtain ⟨W2, hW2⟩ : ∃ W2, w1.setCell ⟨w.heap.size + 1, 1, none⟩ (.bool false) = W2 := ⟨_, rfl⟩
  rw [hW2] at HA2 ⊢
  clear hW2 x y z HA1
  have ob : W2.cell? ⟨w.heap.size + 1, 1, none⟩ = some (.bool false) := HA2.out.bx.cell 1
  have obl := HA2.out.bx.lt
  go_upto_region 11 with fail
  clear ob obl
  have x : W2.cell? ⟨w.heap.size + 1, 3, none⟩ = some (.bool false) := HA2.out.bx.cell 3
  have y := HA2.out.bx.frozen 3
  have z := HA2.out.bx.lt
  have HA9 := Lib.hid (HA2.out.set (t' := ⟨nm, false, false, ((i : Int) == 0), 0, 0, 0⟩) 3 (.bool ((i : Int) == 0)) rfl)
  go_upto_region 12 with fail
  obtain ⟨W9, hW9⟩ : ∃ W9, W2.setCell ⟨w.heap.size + 1, 3, none⟩ (.bool ((i : Int) == 0)) = W9 := ⟨_, rfl⟩
  rw [hW9] at HA9 ⊢
  clear hW9 x y z HA2
  have x0 : W9.cell? ⟨w.heap.size + 1, 0, none⟩ = some (.string nm) := HA9.out.bx.cell 0
  have r0 : W9.cell? ⟨w.heap.size, 0, none⟩ = some (.string ⟨#[]⟩) := HA9.out.res.cell 0
  have f0 := HA9.out.res.frozen 0
  have x1 : W9.cell? ⟨w.heap.size + 1, 1, none⟩ = some (.bool false) := HA9.out.bx.cell 1
  have r1 : W9.cell? ⟨w.heap.size, 1, none⟩ = some (.bool false) := HA9.out.res.cell 1
  have f1 := HA9.out.res.frozen 1
  have x2 : W9.cell? ⟨w.heap.size + 1, 2, none⟩ = some (.bool false) := HA9.out.bx.cell 2
  have r2 : W9.cell? ⟨w.heap.size, 2, none⟩ = some (.bool false) := HA9.out.res.cell 2
  have f2 := HA9.out.res.frozen 2
  have x3 : W9.cell? ⟨w.heap.size + 1, 3, none⟩ = some (.bool ((i : Int) == 0)) := HA9.out.bx.cell 3
  have r3 : W9.cell? ⟨w.heap.size, 3, none⟩ = some (.bool false) := HA9.out.res.cell 3
  have f3 := HA9.out.res.frozen 3
  have x4 : W9.cell? ⟨w.heap.size + 1, 4, none⟩ = some (.int .i64 0) := HA9.out.bx.cell 4
  have r4 : W9.cell? ⟨w.heap.size, 4, none⟩ = some (.int .i64 0) := HA9.out.res.cell 4
  have f4 := HA9.out.res.frozen 4
  have x5 : W9.cell? ⟨w.heap.size + 1, 5, none⟩ = some (.int .i64 0) := HA9.out.bx.cell 5
  have r5 : W9.cell? ⟨w.heap.size, 5, none⟩ = some (.int .i64 0) := HA9.out.res.cell 5
  have f5 := HA9.out.res.frozen 5
  have x6 : W9.cell? ⟨w.heap.size + 1, 6, none⟩ = some (.int .i64 0) := HA9.out.bx.cell 6
  have r6 : W9.cell? ⟨w.heap.size, 6, none⟩ = some (.int .i64 0) := HA9.out.res.cell 6
  have f6 := HA9.out.res.frozen 6
  have hl9 := HA9.out.bx.lt
  have HD := Lib.hid (HA9.out.done (by rfl) (by rfl))
  generalize ((i : Int) == 0) = ci at *
  go_wp2
  have t1 := HD.out.2
  refine bodyPost_ret (v := .agg #[.string nm, .bool false, .bool false, .bool ci, .int .i64 0, .int .i64 0, .int .i64 0]) (by simp [results, Tryz.results34, go_sem, World.cell?, t1]) rfl HD.out.1
 have e1 : decide ((0 : Int) < (i : Int)) = true := decide_eq_true (by omega)
 have e2 : decide (0 < i) = true := decide_eq_true hi0
 have x : w1.cell? ⟨w.heap.size + 1, 1, none⟩ = some (.bool false) := HA1.out.bx.cell 1
 have y := HA1.out.bx.frozen 1
 have z := HA1.out.bx.lt
 have HA2 := Lib.hid (HA1.out.set (t' := ⟨nm, true, false, false, 0, 0, 0⟩) 1 (.bool true) rfl)
 go_upto_region 7 with fail
 obtain ⟨W2, hW2⟩ : ∃ W2, w1.setCell ⟨w.heap.size + 1, 1, none⟩ (.bool true) = W2 := ⟨_, rfl⟩
 rw [hW2] at HA2 ⊢
 clear hW2 x y z HA1
 have ob : W2.cell? ⟨w.heap.size + 1, 1, none⟩ = some (.bool true) := HA2.out.bx.cell 1
 have obl := HA2.out.bx.lt
 go_wp2_with fail
 clear ob obl
 (with_reducible refine (next_g 9 HA2.out.st.ok (by omega) (by omega)).mono ?_)
 rintro e w3 ⟨a, rfl, a0, a1, hs3⟩
 have HA3 := Lib.hid (HA2.out.next hs3)
 clear hs3 HA2
 have x : w3.cell? ⟨w.heap.size + 1, 4, none⟩ = some (.int .i64 0) := HA3.out.bx.cell 4
 have y := HA3.out.bx.frozen 4
 have z := HA3.out.bx.lt
 have HA4 := Lib.hid (HA3.out.set (t' := ⟨nm, true, false, false, 1 + a, 0, 0⟩) 4 (.int .i64 (1 + a)) rfl)
 go_upto_region 9 with fail
 obtain ⟨W4, hW4⟩ : ∃ W4, w3.setCell ⟨w.heap.size + 1, 4, none⟩ (.int .i64 (1 + a)) = W4 := ⟨_, rfl⟩
 rw [hW4] at HA4 ⊢
 clear hW4 x y z HA3
 go_wp2_with fail
 (with_reducible refine (next_g 3 HA4.out.st.ok (by omega) (by omega)).mono ?_)
 rintro e w5 ⟨b, rfl, b0, b1, hs5⟩
 have HA5 := Lib.hid (HA4.out.next hs5)
 clear hs5 HA4
 have x : w5.cell? ⟨w.heap.size + 1, 5, none⟩ = some (.int .i64 0) := HA5.out.bx.cell 5
 have y := HA5.out.bx.frozen 5
 have z := HA5.out.bx.lt
 have HA6 := Lib.hid (HA5.out.set (t' := ⟨nm, true, false, false, 1 + a, b, 0⟩) 5 (.int .i64 b) rfl)
 go_upto_region 10 with fail
 obtain ⟨W6, hW6⟩ : ∃ W6, w5.setCell ⟨w.heap.size + 1, 5, none⟩ (.int .i64 b) = W6 := ⟨_, rfl⟩
 rw [hW6] at HA6 ⊢
 clear hW6 x y z HA5
 go_wp2_with fail
 (with_reducible refine (next_g 4 HA6.out.st.ok (by omega) (by omega)).mono ?_)
 rintro e w7 ⟨d, rfl, d0, d1, hs7⟩
 have HA7 := Lib.hid (HA6.out.next hs7)
 clear hs7 HA6
 have x : w7.cell? ⟨w.heap.size + 1, 6, none⟩ = some (.int .i64 0) := HA7.out.bx.cell 6
 have y := HA7.out.bx.frozen 6
 have z := HA7.out.bx.lt
 have HA8 := Lib.hid (HA7.out.set (t' := ⟨nm, true, false, false, 1 + a, b, d⟩) 6 (.int .i64 d) rfl)
 go_upto_region 11 with fail
 obtain ⟨W8, hW8⟩ : ∃ W8, w7.setCell ⟨w.heap.size + 1, 6, none⟩ (.int .i64 d) = W8 := ⟨_, rfl⟩
 rw [hW8] at HA8 ⊢
 clear hW8 x y z HA7
 have ei : ((i : Int) == 0) = false := by simp; omega
 have Hei := Lib.hid ei
 clear ei
 have x : W8.cell? ⟨w.heap.size + 1, 3, none⟩ = some (.bool false) := HA8.out.bx.cell 3
 have y := HA8.out.bx.frozen 3
 have z := HA8.out.bx.lt
 have HA9 := Lib.hid (HA8.out.set (t' := ⟨nm, true, false, ((i : Int) == 0), 1 + a, b, d⟩) 3 (.bool ((i : Int) == 0)) rfl)
 go_upto_region 12 with fail
 obtain ⟨W9, hW9⟩ : ∃ W9, W8.setCell ⟨w.heap.size + 1, 3, none⟩ (.bool ((i : Int) == 0)) = W9 := ⟨_, rfl⟩
 rw [hW9] at HA9 ⊢
 clear hW9 x y z HA8
 have x0 : W9.cell? ⟨w.heap.size + 1, 0, none⟩ = some (.string nm) := HA9.out.bx.cell 0
 have r0 : W9.cell? ⟨w.heap.size, 0, none⟩ = some (.string ⟨#[]⟩) := HA9.out.res.cell 0
 have f0 := HA9.out.res.frozen 0
 have x1 : W9.cell? ⟨w.heap.size + 1, 1, none⟩ = some (.bool true) := HA9.out.bx.cell 1
 have r1 : W9.cell? ⟨w.heap.size, 1, none⟩ = some (.bool false) := HA9.out.res.cell 1
 have f1 := HA9.out.res.frozen 1
 have x2 : W9.cell? ⟨w.heap.size + 1, 2, none⟩ = some (.bool false) := HA9.out.bx.cell 2
 have r2 : W9.cell? ⟨w.heap.size, 2, none⟩ = some (.bool false) := HA9.out.res.cell 2
 have f2 := HA9.out.res.frozen 2
 have x3 : W9.cell? ⟨w.heap.size + 1, 3, none⟩ = some (.bool ((i : Int) == 0)) := HA9.out.bx.cell 3
 have r3 : W9.cell? ⟨w.heap.size, 3, none⟩ = some (.bool false) := HA9.out.res.cell 3
 have f3 := HA9.out.res.frozen 3
 have x4 : W9.cell? ⟨w.heap.size + 1, 4, none⟩ = some (.int .i64 (1 + a)) := HA9.out.bx.cell 4
 have r4 : W9.cell? ⟨w.heap.size, 4, none⟩ = some (.int .i64 0) := HA9.out.res.cell 4
 have f4 := HA9.out.res.frozen 4
 have x5 : W9.cell? ⟨w.heap.size + 1, 5, none⟩ = some (.int .i64 b) := HA9.out.bx.cell 5
 have r5 : W9.cell? ⟨w.heap.size, 5, none⟩ = some (.int .i64 0) := HA9.out.res.cell 5
 have f5 := HA9.out.res.frozen 5
 have x6 : W9.cell? ⟨w.heap.size + 1, 6, none⟩ = some (.int .i64 d) := HA9.out.bx.cell 6
 have r6 : W9.cell? ⟨w.heap.size, 6, none⟩ = some (.int .i64 0) := HA9.out.res.cell 6
 have f6 := HA9.out.res.frozen 6
 have hl9 := HA9.out.bx.lt
 have HD := Lib.hid (HA9.out.done (by have q1 : decide (0 ≤ b) = true := decide_eq_true b0; have q2 : decide (b ≤ 2) = true := decide_eq_true (by omega); simp only [itFormedB, if_true, Hei.out, q1, q2]; rfl) (by have q1 : decide (1 ≤ 1 + a) = true := decide_eq_true (by omega); have q2 : decide (1 + a ≤ 1048576) = true := decide_eq_true (by omega); have q3 : decide (0 ≤ d) = true := decide_eq_true d0; have q4 : decide (d ≤ 100) = true := decide_eq_true (by omega); simp only [itRangeB, q1, q2, q3, q4]; rfl))
 generalize ((i : Int) == 0) = ci at *
 go_wp2
 have t1 := HD.out.2
 refine bodyPost_ret (v := .agg #[.string nm, .bool true, .bool false, .bool ci, .int .i64 (1 + a), .int .i64 b, .int .i64 d]) (by simp [results, Tryz.results34, go_sem, World.cell?, t1]) rfl HD.out.1
end
end
set_option linter.unusedVariables false
set_option linter.unusedSimpArgs false
inductive SubA : List P2 → List P2 → Prop where
 | nil : SubA [] []
 | skip {t b : List P2} (p : P2) : SubA t b → SubA (t ++ [p]) b
 | take {t b : List P2} (x N m : Int) : SubA t b → 1 ≤ m → m ≤ N → SubA (t ++ [(x, N)]) (b ++ [(x, m)])
theorem SubA.len {t b : List P2} (h : SubA t b) : b.length ≤ t.length := by
 induction h with
 | nil => exact Nat.le_refl _
 | skip p _ ih => simp; omega
 | take x N m _ _ _ ih => simp; omega
theorem SubA.empty (t : List P2) : SubA t [] := by
 have : ∀ k, k ≤ t.length → SubA (t.take k) [] := by
  intro k
  induction k with
  | zero => intro _; exact .nil
  | succ k ih => intro hk; rw [List.take_succ_eq_append_getElem (by omega)]; exact .skip _ (ih (by omega))
 have h := this t.length (Nat.le_refl _)
 rwa [List.take_length] at h
theorem Am.init {n : Nat} {l : List P2} {p : P2} (h : Am n (l ++ [p])) : Am n l := ⟨(List.pairwise_append.1 h.1).1, fun q hq => h.2 q (List.mem_append_left _ hq)⟩
theorem SubA.am {n : Nat} {t b : List P2} (h : SubA t b) : Am n t → Am n b ∧ ∀ q ∈ b, ∃ p ∈ t, p.1 = q.1 ∧ q.2 ≤ p.2 := by
 induction h with
 | nil => intro h; exact ⟨h, by simp⟩
 | skip p _ ih =>
   intro h
   obtain ⟨h1, h2⟩ := ih h.init
   refine ⟨h1, fun q hq => ?_⟩
   obtain ⟨p', hp', e⟩ := h2 q hq
   exact ⟨p', List.mem_append_left _ hp', e⟩
 | take x N m _ h1 h2 ih =>
   intro h
   obtain ⟨i1, i2⟩ := ih h.init
   have hx := h.2 (x, N) (by simp)
   dsimp only at hx
   refine ⟨⟨List.pairwise_append.2 ⟨i1.1, by simp, fun a ha c hc => ?_⟩, fun p hp => ?_⟩, fun q hq => ?_⟩
   ·rw [List.mem_singleton.1 hc]
    obtain ⟨p', hp', e, _⟩ := i2 a ha
    have := (List.pairwise_append.1 h.1).2.2 p' hp' (x, N) (by simp)
    rw [← e]; exact this
   ·rcases List.mem_append.1 hp with hp | hp
    ·exact i1.2 p hp
    ·rw [List.mem_singleton.1 hp]; dsimp only; omega
   ·rcases List.mem_append.1 hq with hq | hq
    ·obtain ⟨p', hp', e⟩ := i2 q hq
     exact ⟨p', List.mem_append_left _ hp', e⟩
    ·rw [List.mem_singleton.1 hq]
     exact ⟨(x, N), by simp, rfl, h2⟩
theorem unitsW_at {n : Nat} {l : List P2} (h : Am n l) {j : Nat} (hj : j < l.length) : ∀ k, k ≤ l.length → unitsW l l[j].1 k = if j < k then l[j].2 else 0 := by
 intro k
 induction k with
 | zero => intro _; simp [unitsW]
 | succ k ih =>
   intro hk
   have hkl : k < l.length := by omega
   have e1 : itemK l k = l[k].1 := by simp [itemK, hkl]
   have e2 : nK l k = l[k].2 := by simp [nK, hkl]
   have hm := h.2 l[k] (List.getElem_mem hkl)
   simp only [unitsW, ih (by omega), e1, e2]
   rcases Nat.lt_trichotomy j k with h1 | h1 | h1
   ·have := List.pairwise_iff_getElem.1 h.1 j k hj hkl h1
    rw [if_neg (by omega), if_pos h1, if_pos (by omega)]
   ·subst h1
    rw [if_pos rfl, if_neg (by omega), if_pos (by omega), Int.zero_add]
    exact IntWalk.i64_in _ (by omega)
   ·have := List.pairwise_iff_getElem.1 h.1 k j hkl hj h1
    rw [if_neg (by omega), if_neg (by omega), if_neg (by omega)]
theorem unitsW_mem {n : Nat} {l : List P2} (h : Am n l) {p : P2} (hp : p ∈ l) : unitsW l p.1 l.length = p.2 := by
 obtain ⟨j, hj, rfl⟩ := List.getElem_of_mem hp
 rw [unitsW_at h hj _ (Nat.le_refl _), if_pos hj]
theorem SubA.cont {n : Nat} {t b : List P2} (h : SubA t b) (ht : Am n t) : contB t b = true := by
 obtain ⟨hb, hs⟩ := h.am ht
 have key : ∀ k, k ≤ b.length → contTo t b k = true := by
  intro k
  induction k with
  | zero => intro _; rfl
  | succ k ih =>
    intro hk
    have hkl : k < b.length := by omega
    have e1 : itemK b k = b[k].1 := by simp [itemK, hkl]
    obtain ⟨p, hp, e, hle⟩ := hs b[k] (List.getElem_mem hkl)
    have u1 := unitsW_mem hb (List.getElem_mem hkl)
    have u2 := unitsW_mem ht hp
    rw [e] at u2
    simp only [contTo, ih (by omega), Bool.true_and, e1, u1, u2, decide_eq_true_eq]
    exact hle
 exact key _ (Nat.le_refl _)
inductive Mk where
 | node (op : ByteArray) (a b : Int) (kids : List Mk)
def Mk.op : Mk → ByteArray | .node op _ _ _ => op
def Mk.a : Mk → Int | .node _ a _ _ => a
def Mk.b : Mk → Int | .node _ _ b _ => b
def Mk.kids : Mk → List Mk | .node _ _ _ ks => ks
theorem Mk.ind {P : Mk → Prop} (h : ∀ op a b ks, (∀ k ∈ ks, P k) → P (.node op a b ks)) : ∀ m, P m :=
 fun m => Mk.rec (motive_1 := P) (motive_2 := fun ks => ∀ k ∈ ks, P k) (fun op a b ks ih => h op a b ks ih) (fun _ hk => absurd hk List.not_mem_nil)
  (fun x xs hx hxs k hk => by
   rcases List.mem_cons.1 hk with e | hk
   ·exact e ▸ hx
   ·exact hxs k hk) m
mutual
/-- The number of marks. -/
def Mk.size : Mk → Nat | .node _ _ _ ks => Mk.sizeL ks + 1
def Mk.sizeL : List Mk → Nat | [] => 0 | k :: ks => k.size + Mk.sizeL ks
end
mutual
def Mk.depth : Mk → Nat | .node _ _ _ ks => Mk.depthL ks + 1
def Mk.depthL : List Mk → Nat | [] => 0 | k :: ks => max k.depth (Mk.depthL ks)
end
theorem Mk.size_mem {k : Mk} {ks : List Mk} (h : k ∈ ks) : k.size ≤ Mk.sizeL ks := by
 induction ks with
 | nil => cases h
 | cons x xs ih =>
   rcases List.mem_cons.1 h with e | h
   ·subst e; simp [Mk.sizeL]
   ·have := ih h; simp [Mk.sizeL]; omega
mutual
def Mk.val : Mk → (ByteArray → Int → Int → Bool) → Bool
 | .node op a b ks, f => if op = ⟨#[97, 110, 100]⟩ then Mk.allV ks f else if op = ⟨#[111, 114]⟩ then Mk.anyV ks f else if op = ⟨#[110, 111, 116]⟩ then !Mk.anyV ks f else f op a b
def Mk.allV : List Mk → (ByteArray → Int → Int → Bool) → Bool | [], _ => true | k :: ks, f => k.val f && Mk.allV ks f
def Mk.anyV : List Mk → (ByteArray → Int → Int → Bool) → Bool | [], _ => false | k :: ks, f => k.val f || Mk.anyV ks f
end
theorem Mk.allV_eq (ks : List Mk) (f) : Mk.allV ks f = ks.all (·.val f) := by
 induction ks with
 | nil => rfl
 | cons x xs ih => simp [Mk.allV, ih]
theorem Mk.anyV_eq (ks : List Mk) (f) : Mk.anyV ks f = ks.any (·.val f) := by
 induction ks with
 | nil => rfl
 | cons x xs ih => simp [Mk.anyV, ih]
mutual
/-- Normal's function. -/
def Mk.norm : Mk → Bool → Mk
 | .node op a b ks, no =>
   if op = ⟨#[97, 110, 100]⟩ ∨ op = ⟨#[111, 114]⟩ then .node (if decide (op = ⟨#[111, 114]⟩) != no then ⟨#[111, 114]⟩ else ⟨#[97, 110, 100]⟩) 0 0 (Mk.normL ks no)
   else if op = ⟨#[110, 111, 116]⟩ then
    match Mk.normL ks (!no) with
    | [k] => k
    | l => .node (if no then ⟨#[111, 114]⟩ else ⟨#[97, 110, 100]⟩) 0 0 l
   else if no then .node ⟨#[110, 111, 116]⟩ 0 0 [.node op a b []] else .node op a b []
def Mk.normL : List Mk → Bool → List Mk | [], _ => [] | k :: ks, no => k.norm no :: Mk.normL ks no
end
theorem Mk.normL_eq (ks : List Mk) (no) : Mk.normL ks no = ks.map (·.norm no) := by
 induction ks with
 | nil => rfl
 | cons x xs ih => simp [Mk.normL, ih]
abbrev nAnd : ByteArray := ⟨#[97, 110, 100]⟩
abbrev nOr : ByteArray := ⟨#[111, 114]⟩
abbrev nNot : ByteArray := ⟨#[110, 111, 116]⟩
abbrev joinOp (b : Bool) : ByteArray := if b then nOr else nAnd
theorem norm_join {op : ByteArray} (a b : Int) (ks : List Mk) (no : Bool) (h : op = nAnd ∨ op = nOr) : (Mk.node op a b ks).norm no = .node (joinOp (decide (op = nOr) != no)) 0 0 (ks.map (·.norm no)) := by
 simp only [Mk.norm, if_pos h, Mk.normL_eq]
theorem norm_not1 (a b : Int) (k : Mk) (no : Bool) : (Mk.node nNot a b [k]).norm no = k.norm (!no) := by
 simp [Mk.norm, Mk.normL]
theorem norm_not (a b : Int) (ks : List Mk) (no : Bool) (h : ks.length ≠ 1) : (Mk.node nNot a b ks).norm no = .node (joinOp no) 0 0 (ks.map (·.norm !no)) := by
 simp only [Mk.norm, Mk.normL_eq]
 rw [if_neg (by decide), if_pos trivial]
 split
 ·rename_i k hk
  have := congrArg List.length hk
  simp at this
  exact absurd this h
 ·rfl
theorem norm_alone {op : ByteArray} (a b : Int) (ks : List Mk) (no : Bool) (h : ¬ (op = nAnd ∨ op = nOr)) (h2 : op ≠ nNot) : (Mk.node op a b ks).norm no = if no then .node nNot 0 0 [.node op a b []] else .node op a b [] := by
 simp only [Mk.norm]
 rw [if_neg h, if_neg h2]
theorem val_and (a b : Int) (ks : List Mk) (f) : (Mk.node nAnd a b ks).val f = ks.all (·.val f) := by simp [Mk.val, Mk.allV_eq]
theorem val_or (a b : Int) (ks : List Mk) (f) : (Mk.node nOr a b ks).val f = ks.any (·.val f) := by
 simp only [Mk.val, Mk.anyV_eq]
 rw [if_neg (by decide), if_pos trivial]
theorem val_not (a b : Int) (ks : List Mk) (f) : (Mk.node nNot a b ks).val f = !ks.any (·.val f) := by
 simp only [Mk.val, Mk.anyV_eq]
 rw [if_neg (by decide), if_neg (by decide), if_pos trivial]
theorem val_alone {op : ByteArray} (a b : Int) (ks : List Mk) (h : ¬ (op = nAnd ∨ op = nOr)) (h2 : op ≠ nNot) (f) : (Mk.node op a b ks).val f = f op a b := by
 have h3 := not_or.1 h
 simp only [Mk.val]
 rw [if_neg h3.1, if_neg h3.2, if_neg h2]
def cntL (f : Mk → Nat) (most : Nat) : List Mk → Nat → Nat
 | [], n => n
 | k :: ks, n => if most < n + f k then most + 1 else cntL f most ks (n + f k)
def cntP (most : Nat) : Nat → Mk → Nat
 | 0, _ => most + 1
 | d + 1, m => cntL (cntP most d) most m.kids 1
theorem cntL_is (f : Mk → Nat) (most d : Nat) (ks : List Mk) (hf : ∀ k ∈ ks, (f k ≤ most ↔ k.size ≤ most ∧ k.depth ≤ d) ∧ (f k ≤ most → f k = k.size)) :
 ∀ n, n ≤ most → (cntL f most ks n ≤ most ↔ n + Mk.sizeL ks ≤ most ∧ Mk.depthL ks ≤ d) ∧ (cntL f most ks n ≤ most → cntL f most ks n = n + Mk.sizeL ks) ∧ cntL f most ks n ≤ most + 1 := by
 induction ks with
 | nil => intro n hn; simp [cntL, Mk.sizeL, Mk.depthL, hn]; omega
 | cons k ks ih =>
   intro n hn
   obtain ⟨h1, h2⟩ := hf k (List.mem_cons_self ..)
   have ih' := ih (fun x hx => hf x (List.mem_cons_of_mem _ hx))
   simp only [cntL, Mk.sizeL, Mk.depthL]
   by_cases hb : most < n + f k
   ·rw [if_pos hb]
    refine ⟨⟨fun h => absurd h (by omega), fun h => ?_⟩, fun h => absurd h (by omega), by omega⟩
    have := h2 (h1.2 ⟨by omega, by omega⟩)
    omega
   ·rw [if_neg hb]
    have hk : f k ≤ most := by omega
    have e := h2 hk
    obtain ⟨i1, i2, i3⟩ := ih' (n + f k) (by omega)
    have hd := (h1.1 hk).2
    refine ⟨⟨fun h => ?_, fun h => ?_⟩, fun h => ?_, i3⟩
    ·have := i1.1 h; omega
    ·exact i1.2 ⟨by omega, by omega⟩
    ·have := i2 h; omega
theorem cntP_is (most : Nat) (hm : 1 ≤ most) : ∀ d m, (cntP most d m ≤ most ↔ m.size ≤ most ∧ m.depth ≤ d) ∧ (cntP most d m ≤ most → cntP most d m = m.size) ∧ cntP most d m ≤ most + 1 := by
 intro d
 induction d with
 | zero =>
   intro m
   cases m
   simp only [cntP, Mk.depth]
   exact ⟨⟨fun h => absurd h (by omega), fun h => absurd h.2 (by omega)⟩, fun h => absurd h (by omega), Nat.le_refl _⟩
 | succ d ih =>
   intro m
   cases m with
   | node op a b ks =>
     obtain ⟨h1, h2, h3⟩ := cntL_is (cntP most d) most d ks (fun k _ => ⟨(ih k).1, (ih k).2.1⟩) 1 hm
     simp only [cntP, Mk.kids, Mk.size, Mk.depth]
     refine ⟨⟨fun h => ?_, fun h => h1.2 ⟨by omega, by omega⟩⟩, fun h => ?_, h3⟩
     ·have := h1.1 h; omega
     ·have := h2 h; omega
theorem cntP_over {most d : Nat} {m : Mk} (hm : 1 ≤ most) : most < cntP most d m ↔ most < m.size ∨ d < m.depth := by
 have := (cntP_is most hm d m).1
 constructor
 ·intro h
  by_cases h1 : most < m.size
  ·exact .inl h1
  ·exact .inr (by
    by_cases h2 : d < m.depth
    ·exact h2
    ·exact absurd (this.2 ⟨by omega, by omega⟩) (by omega))
 ·intro h
  by_cases h1 : cntP most d m ≤ most
  ·have := this.1 h1; omega
  ·omega
section
/-- A row of values in a block of type t that has the property P. -/
def PRow (w : World) (t : TypeId) (P : Nat → Prop) (A : Option Addr) (xs : List Value) : Prop :=
 xs = [] ∨ ∃ b off cur fl, A = some ⟨b, off, none⟩ ∧ P b ∧ w.heap[b]? = some (Obj.cells cur t fl) ∧ ∀ j u, xs[j]? = some u → cur[off + j]? = some u
theorem PRow.trow {w : World} {t : TypeId} {P : Nat → Prop} {A : Option Addr} {xs : List Value} (h : PRow w t P A xs) : TRow w t A xs := by
 rcases h with h | ⟨b, off, cur, fl, hA, _, hb, hc⟩
 ·exact .inl h
 ·exact .inr ⟨b, off, cur, fl, hA, hb, hc⟩
theorem PRow.grown {w w' : World} {row : Option Nat} {t : TypeId} {P : Nat → Prop} {A : Option Addr} {xs : List Value} (h : PRow w t P A xs) (hg : w.grownBy w' row) (hp : ∀ b, P b → some b ≠ row) : PRow w' t P A xs := by
 rcases h with h | ⟨b, off, cur, fl, hA, hP, hb, hc⟩
 ·exact .inl h
 ·exact .inr ⟨b, off, cur, fl, hA, hP, (hg.block b (Array.getElem?_eq_some_iff.1 hb).1 (hp b hP)).trans hb, hc⟩
theorem PRow.mono {w : World} {t : TypeId} {P Q : Nat → Prop} {A : Option Addr} {xs : List Value} (h : PRow w t P A xs) (hp : ∀ b, b < w.heap.size → P b → Q b) : PRow w t Q A xs := by
 rcases h with h | ⟨b, off, cur, fl, hA, hP, hb, hc⟩
 ·exact .inl h
 ·exact .inr ⟨b, off, cur, fl, hA, hp b (Array.getElem?_eq_some_iff.1 hb).1 hP, hb, hc⟩
theorem PRow.of_own {w : World} {e : TypeId} {base size n : Nat} {A : Option Addr} {c : Nat} {xs : List Value} (h : w.ownsRow base e size (.slice A n c) n xs) : PRow w e (fun b => some b = (Value.slice A n c).ownBlock ∧ base ≤ b) A xs := by
 rcases h.2 with ⟨hv, hn⟩ | ⟨g, cap, cur, hv, hge, hc, _, _, _, ht⟩
 ·left
  have := h.1
  rw [hn] at this
  exact List.eq_nil_of_length_eq_zero (by simpa using this)
 ·cases hv
  refine .inr ⟨g, 0, cur, (0, 0), rfl, ⟨rfl, hge⟩, hc, fun j u hu => ?_⟩
  rw [Nat.zero_add]
  rw [← ht, List.getElem?_take] at hu
  split at hu
  ·simpa using hu
  ·cases hu
/-- A mark, and where its lists lie. -/
structure MkM where
 op : ByteArray
 a : Int
 b : Int
 ks : List MkM
 s : Sl
mutual
/-- What a mark says, wherever its lists lie. -/
def MkM.core : MkM → Mk | ⟨op, a, b, ks, _⟩ => .node op a b (MkM.coreL ks)
def MkM.coreL : List MkM → List Mk | [] => [] | k :: ks => k.core :: MkM.coreL ks
end
theorem coreL_map (ks : List MkM) : MkM.coreL ks = ks.map MkM.core := by
 induction ks with
 | nil => rfl
 | cons x xs ih => simp [MkM.coreL, ih]
theorem coreL_len (ks : List MkM) : (MkM.coreL ks).length = ks.length := by simp [coreL_map]
def MkM.cells (m : MkM) : List Value := [.string m.op, .int .i64 m.a, .int .i64 m.b, .slice m.s.A m.s.n m.s.c]
abbrev MkM.val (m : MkM) : Value := .agg #[.string m.op, .int .i64 m.a, .int .i64 m.b, .slice m.s.A m.s.n m.s.c]
theorem MkM.cells_len (m : MkM) : m.cells.length = 4 := rfl
def mcells (l : List MkM) : List Value := l.flatMap MkM.cells
theorem mcells_snoc (l : List MkM) (m : MkM) : mcells (l ++ [m]) = mcells l ++ m.cells := by simp [mcells]
theorem mcells_len (l : List MkM) : (mcells l).length = l.length * 4 := flat_len MkM.cells_len l
inductive MkM.Ok (W : World) (t : TypeId) (P : Nat → Prop) : MkM → Prop
 | mk (op : ByteArray) (a b : Int) (ks : List MkM) (s : Sl) (row : PRow W t P s.A (mcells ks)) (len : s.n = ks.length) (small : s.n ≤ 100000) (hop : op.size ≤ 8192)
   (ha : -9223372036854775808 ≤ a ∧ a ≤ 9223372036854775807) (hb : -9223372036854775808 ≤ b ∧ b ≤ 9223372036854775807) (each : ∀ k ∈ ks, MkM.Ok W t P k) : MkM.Ok W t P ⟨op, a, b, ks, s⟩
section
variable {W W' : World} {t : TypeId} {P Q : Nat → Prop} {m : MkM}
theorem MkM.Ok.row (h : m.Ok W t P) : PRow W t P m.s.A (mcells m.ks) := by cases h; assumption
theorem MkM.Ok.len (h : m.Ok W t P) : m.s.n = m.ks.length := by cases h; assumption
theorem MkM.Ok.small (h : m.Ok W t P) : m.s.n ≤ 100000 := by cases h; assumption
theorem MkM.Ok.hop (h : m.Ok W t P) : m.op.size ≤ 8192 := by cases h; assumption
theorem MkM.Ok.ha (h : m.Ok W t P) : -9223372036854775808 ≤ m.a ∧ m.a ≤ 9223372036854775807 := by cases h; assumption
theorem MkM.Ok.hb (h : m.Ok W t P) : -9223372036854775808 ≤ m.b ∧ m.b ≤ 9223372036854775807 := by cases h; assumption
theorem MkM.Ok.each (h : m.Ok W t P) : ∀ k ∈ m.ks, k.Ok W t P := by cases h; assumption
theorem MkM.Ok.grown {row : Option Nat} (h : m.Ok W t P) (hg : W.grownBy W' row) (hp : ∀ b, P b → some b ≠ row) : m.Ok W' t P := by
 induction h with
 | mk op a b ks s row len small hop ha hb _ ih => exact .mk op a b ks s (row.grown hg hp) len small hop ha hb ih
theorem MkM.Ok.bel (h : m.Ok W t P) (hb : Below W.heap.size W W') : m.Ok W' t P := h.grown (grown_of_below hb none) (by simp)
theorem MkM.Ok.mono (h : m.Ok W t P) (hp : ∀ b, b < W.heap.size → P b → Q b) : m.Ok W t Q := by
 induction h with
 | mk op a b ks s row len small hop ha hb _ ih => exact .mk op a b ks s (row.mono hp) len small hop ha hb ih
theorem MkM.Ok.any (h : m.Ok W t P) : m.Ok W t (fun _ => True) := h.mono fun _ _ _ => trivial
/-- All that lies in memory now lies below. -/
theorem MkM.Ok.lt (h : m.Ok W t P) : m.Ok W t (fun b => P b ∧ b < W.heap.size) := h.mono fun _ h1 h2 => ⟨h2, h1⟩
theorem MkM.Ok.at_ (h : m.Ok W t P) (k : Nat) (hk : k < m.ks.length) : ∃ b off, m.s.A = some ⟨b, off, none⟩ ∧ b < W.heap.size ∧ W.cell? ⟨b, off + k * 4, none⟩ = some (.string m.ks[k].op) ∧ W.cell? ⟨b, off + k * 4 + 1, none⟩ = some (.int .i64 m.ks[k].a) ∧ W.cell? ⟨b, off + k * 4 + 2, none⟩ = some (.int .i64 m.ks[k].b) ∧ W.cell? ⟨b, off + k * 4 + 3, none⟩ = some (.slice m.ks[k].s.A m.ks[k].s.n m.ks[k].s.c) := by
 obtain ⟨b, off, hA, hb, hc⟩ := TRow.at_ (f := MkM.cells) MkM.cells_len h.row.trow k hk (by omega)
 exact ⟨b, off, hA, hb, hc 0 _ rfl, hc 1 _ rfl, hc 2 _ rfl, hc 3 _ rfl⟩
end
theorem MkM.ind {p : MkM → Prop} (h : ∀ m, (∀ k ∈ m.ks, p k) → p m) : ∀ m, p m :=
 fun m => MkM.rec (motive_1 := p) (motive_2 := fun ks => ∀ k ∈ ks, p k) (fun op a b ks s ih => h ⟨op, a, b, ks, s⟩ ih) (fun _ hk => absurd hk List.not_mem_nil)
  (fun x xs hx hxs k hk => by
   rcases List.mem_cons.1 hk with e | hk
   ·exact e ▸ hx
   ·exact hxs k hk) m
end
section
def KOk (w : World) (g : Nat) : Prop := ∃ (A : Option Addr) (n c : Nat) (zs : List Int) (i : Int), Bk w g 97 [.slice A n c, .int .i64 i] ∧ IntsV w A n zs ∧ (∀ b off, A = some ⟨b, off, none⟩ → b < g) ∧ In64 i
section
variable {w w' V W W' X : World} {g : Nat}
theorem KOk.lt (h : KOk w g) : g < w.heap.size := by obtain ⟨A, n, c, zs, i, h1, _⟩ := h; exact h1.lt
theorem KOk.below (h : KOk w g) (hb : Below w.heap.size w w') : KOk w' g := by
 obtain ⟨A, n, c, zs, i, h1, h2, h3, h4⟩ := h
 exact ⟨A, n, c, zs, i, h1.below hb h1.lt, h2.below hb, h3, h4⟩
theorem KOk.keep {b : Nat} (h : KOk w g) (hg : w.grownBy w' (some b)) (hb : g < b) : KOk w' g := by
 obtain ⟨A, n, c, zs, i, h1, h2, h3, h4⟩ := h
 exact ⟨A, n, c, zs, i, h1.grown hg (by simp; omega), ⟨(row_far h2.row hg (fun b' off e => by have := h3 b' off e; omega) (Nat.le_refl _)).more hg.size, h2.len, h2.wf⟩, h3, h4⟩
theorem KOk.row {v : Value} (h : KOk w g) (hg : w.grownBy w' v.ownBlock) (hb : ∀ b, v.ownBlock = some b → g < b) : KOk w' g := by
 cases hv : v.ownBlock with
 | none => rw [hv] at hg; exact h.below ⟨hg.os, hg.tape, hg.output, hg.size, fun b hb => hg.block b hb (by simp)⟩
 | some b => rw [hv] at hg; exact h.keep hg (hb b hv)
structure KSt (V W : World) (g : Nat) : Prop where
 gr : V.grownBy W (some g)
 ok : KOk W g
 lt : g < V.heap.size
theorem KSt.refl (h : KOk V g) : KSt V V g := ⟨⟨rfl, rfl, rfl, Nat.le_refl _, fun _ _ _ => rfl⟩, h, h.lt⟩
theorem KSt.trans (h : KSt V W g) (k : KSt W X g) : KSt V X g := ⟨grown_trans h.gr k.gr, k.ok, h.lt⟩
theorem KSt.size (h : KSt V W g) : V.heap.size ≤ W.heap.size := h.gr.size
theorem KSt.below (h : KSt V W g) (hb : Below W.heap.size W W') : KSt V W' g := ⟨grown_trans h.gr (grown_of_below hb _), h.ok.below hb, h.lt⟩
theorem KSt.alloc (h : KSt V W g) (o : Obj) : KSt V (W.alloc o) g := h.below ((Below.refl _ _).alloc (Nat.le_refl _) o)
theorem KSt.grow {row : Option Nat} (h : KSt V W g) (hg : W.grownBy W' row) (hr : ∀ b, row = some b → V.heap.size ≤ b) : KSt V W' g := by
 have hlt := h.lt
 refine ⟨⟨hg.os.trans h.gr.os, hg.tape.trans h.gr.tape, hg.output.trans h.gr.output, Nat.le_trans h.gr.size hg.size, fun i hi hne => (hg.block i (Nat.lt_of_lt_of_le hi h.gr.size) (fun e => ?_)).trans (h.gr.block i hi hne)⟩, ?_, hlt⟩
 ·have := hr i e.symm; omega
 ·cases row with
  | none => exact h.ok.below ⟨hg.os, hg.tape, hg.output, hg.size, fun b hb => hg.block b hb (by simp)⟩
  | some b => exact h.ok.keep hg (by have := hr b rfl; omega)
theorem KSt.set (h : KSt V W g) (b k : Nat) (u : Value) (hb : V.heap.size ≤ b) : KSt V (W.setCell ⟨b, k, none⟩ u) g := h.grow (grown_setCell W b k u) (fun b' e => by cases e; exact hb)
theorem KSt.bk (h : KSt V W g) {b : Nat} {t : TypeId} {xs : List Value} (k : Bk V b t xs) (hne : b ≠ g) : Bk W b t xs := k.grown h.gr (by simpa using hne)
theorem KSt.keep (h : KSt V W g) (hg : KOk V g) (t : TypeId) (ht : t ≠ 97) : Keep t V W := by
 obtain ⟨A, n, c, zs, i, h1, _⟩ := hg
 refine .grown h.gr fun cur fl e => ?_
 unfold Bk at h1
 rw [h1] at e
 cases e
 exact ht rfl
theorem KSt.own (h : KSt V W g) {base e size n : Nat} {v : Value} {xs : List Value} (k : V.ownsRow base e size v n xs) (hne : v.ownBlock ≠ some g) : W.ownsRow base e size v n xs := k.kept h.gr (.inr hne)
def NextK (V : World) (g : Nat) (m : Int) (e : Ending) (W : World) : Prop := ∃ x, e = .returned (.int .i64 x) ∧ 0 ≤ x ∧ x < m ∧ KSt V W g
set_option maxRecDepth 100000 in
set_option maxHeartbeats 1000000 in
theorem next_k (m : Int) (h : KOk w g) (m0 : 1 ≤ m) (m1 : m ≤ 9223372036854775807) : Calls Tryz.prog 59 #[.pointer (some ⟨g, 0, none⟩), .int .i64 m] w (NextK w g m) := by
 obtain ⟨A, n, c, zs, i, h1, h2, h3, h4⟩ := h
 have hlt := h1.lt
 have c0 : w.cell? ⟨g, 0, none⟩ = some (.slice A n c) := h1.cell 0
 have c1 : w.cell? ⟨g, 1, none⟩ = some (.int .i64 i) := h1.cell 1
 have f1 := h1.frozen 1
 obtain ⟨i2, hi2⟩ : ∃ i2, IntKind.i64.wrap (i + 1) = i2 := ⟨_, rfl⟩
 obtain ⟨i3, hi3⟩ : ∃ i3, IntKind.i64.wrap (i2 - 1) = i3 := ⟨_, rfl⟩
 have in3 : In64 i3 := by rw [← hi3]; exact in64_wrap _
 have hg := grown_setCell w g 1 (.int .i64 i2)
 have hI : IntsV (w.setCell ⟨g, 1, none⟩ (.int .i64 i2)) A n zs := ⟨(row_far h2.row hg (fun b' off e => by have := h3 b' off e; omega) (Nat.le_refl _)).more hg.size, h2.len, h2.wf⟩
 have HG : Hid (KSt w (w.setCell ⟨g, 1, none⟩ (.int .i64 i2)) g) := ⟨hg, ⟨A, n, c, zs, i2, h1.set 1 _, hI, h3, by rw [← hi2]; exact in64_wrap _⟩, hlt⟩
 have HK : Hid (Bk (w.setCell ⟨g, 1, none⟩ (.int .i64 i2)) g 97 [.slice A n c, .int .i64 i2]) := h1.set 1 _
 have HI := Lib.hid hI
 have Hin := Lib.hid in3
 clear h1 h2 h3 h4 hg hI in3
 go_enter Tryz.func59, Tryz.ntmps59
 go_wp2_with fail
 obtain ⟨W, hW⟩ : ∃ W, w.setCell ⟨g, 1, none⟩ (.int .i64 i2) = W := ⟨_, rfl⟩
 rw [hW] at HG HK HI ⊢
 clear hW c0 c1 f1
 have d0 : W.cell? ⟨g, 0, none⟩ = some (.slice A n c) := HK.out.cell 0
 have d1 : W.cell? ⟨g, 1, none⟩ = some (.int .i64 i2) := HK.out.cell 1
 have K := Lib.hid (fun q => pick_q (c := c) i3 m HI.out Hin.out m0 m1 q)
 have p0 := pick_lo zs i3 m m0
 have p1 := pick_hi zs i3 m m0
 generalize pick zs i3 m = x at *
 go_quiet ((go_at_call 66; exact Calls.quiet_of_same (K.out _)))
 go_wp2
 go_ret
 exact ⟨x, rfl, p0, p1, HG.out.below (bel_drewN (Below.refl _ _) _)⟩
end
end
theorem sizeL_app (l : List Mk) (k : Mk) : Mk.sizeL (l ++ [k]) = Mk.sizeL l + k.size := by
 induction l with
 | nil => simp [Mk.sizeL]
 | cons x xs ih => simp [Mk.sizeL, ih]; omega
theorem sizeL_le (l : List Mk) (j : Nat) : Mk.sizeL (l.take j) ≤ Mk.sizeL l := by
 induction l generalizing j with
 | nil => simp
 | cons x xs ih =>
   cases j with
   | zero => simp [Mk.sizeL]
   | succ j => simp only [List.take_succ_cons, Mk.sizeL]; have := ih j; omega
theorem core_size (M : MkM) : M.core.size = 1 + Mk.sizeL (M.ks.map MkM.core) := by cases M; simp [MkM.core, Mk.size, coreL_map]; omega
theorem kid_size {M t : MkM} (h : t ∈ M.ks) : t.core.size < M.core.size := by
 rw [core_size M]
 have := Mk.size_mem (List.mem_map_of_mem (f := MkM.core) h)
 omega
set_option maxRecDepth 100000 in
set_option maxHeartbeats 1000000 in
theorem size_any : ∀ (M : MkM) (w : World) (P : Nat → Prop), M.Ok w 35 P → M.core.size ≤ 1000000000 → Calls Tryz.prog 41 #[.agg #[.string M.op, .int .i64 M.a, .int .i64 M.b, .slice M.s.A M.s.n M.s.c]] w fun e w' => e = .returned (.int .i64 (M.core.size : Nat)) ∧ Below w.heap.size w w' := by
 intro M
 induction M using MkM.ind with
 | h M ih =>
   intro w P h hsm
   have y : Below w.heap.size w (w.alloc (.cells #[.string M.op, .int .i64 M.a, .int .i64 M.b, .slice M.s.A M.s.n M.s.c] 35)) := (Below.refl _ _).alloc (Nat.le_refl _) _
   have Hn := Lib.hid h.len
   have H := Lib.hid h
   have hs := h.small
   have HI := Lib.hid ih
   have HS := Lib.hid hsm
   have hT := core_size M
   have HKS : Hid (∀ t ∈ M.ks, t.core.size < M.core.size) := fun t ht => kid_size ht
   generalize M.core.size = T at *
   have HT := Lib.hid hT
   obtain ⟨mop, ma, mbb, l, s⟩ := M
   dsimp only [MkM.ks, MkM.s, MkM.op, MkM.a, MkM.b] at *
   obtain ⟨A, n, c⟩ := s
   dsimp only at *
   have B0 := Lib.hid (Bk.new w 35 [.string mop, .int .i64 ma, .int .i64 mbb, .slice A n c])
   clear h ih hT hsm
   go_enter Tryz.func41, Tryz.ntmps41
   go_wp2_with fail
   go_loopw [3, 4] (fun v i wr => ∃ k x : Nat, k ≤ n ∧ i = .int .i64 k ∧ x = 1 + Mk.sizeL ((l.take k).map MkM.core) ∧ v = .int .i64 x ∧ Below w.heap.size w wr ∧ Bk wr w.heap.size 35 [.string mop, .int .i64 ma, .int .i64 mbb, .slice A n c]) (fun _ i _ => n - (intOf i).toNat)
   case atStart => exact ⟨0, 1, Nat.zero_le _, rfl, rfl, rfl, y, B0.out⟩
   case round =>
    obtain ⟨k, x, hk, rfl, hx, rfl, hb, hbx⟩ := hrel
    have HB := Lib.hid hb
    have HX := Lib.hid hbx
    have hsz := hb.size
    have hxl := hbx.lt
    have b3 : wr.cell? ⟨w.heap.size, 3, none⟩ = some (.slice A n c) := hbx.cell 3
    have hxT : x ≤ T := by
     have h1 := sizeL_le (l.map MkM.core) k
     rw [← List.map_take] at h1
     have h2 := HT.out
     omega
    have hxb : x ≤ 1000000000 := Nat.le_trans hxT HS.out
    by_cases hlt : k < n
    ·have hkl : k < l.length := by have := Hn.out; omega
     obtain ⟨b, off, rfl, hbb, c0, c1, c2, c3⟩ := (H.out.bel hb).at_ k hkl
     dsimp only [MkM.ks, MkM.s] at c0 c1 c2 c3
     have hmem := List.getElem_mem hkl
     have HX2 : Hid (x + l[k].core.size = 1 + Mk.sizeL ((l.take (k + 1)).map MkM.core)) := by
      show _ = _
      rw [List.take_succ_eq_append_getElem hkl, List.map_append, List.map_cons, List.map_nil, sizeL_app, hx]; omega
     have hks := HKS.out _ hmem
     have HC := Lib.hid (HI.out l[k] hmem wr P ((H.out.bel hb).each l[k] hmem) (by have := HS.out; omega))
     have hzb : l[k].core.size ≤ 1000000000 := by have := HS.out; omega
     clear hmem hx hb hbx hks
     generalize l[k] = t at *
     generalize t.core.size = z at *
     clear hkl
     have hwz : IntKind.i64.wrap ((x : Int) + (z : Int)) = ((x + z : Nat) : Int) := by simp [IntKind.wrap_i64]; omega
     go_wp2_with fail
     refine HC.out.mono ?_
     rintro e w1 ⟨rfl, hb1⟩
     have HB3 := Lib.hid (HB.out.trans (hb1.mono HB.out.size))
     have HX3 := Lib.hid (HX.out.below hb1 HX.out.lt)
     clear HC hb1 HB HX
     generalize hxz : x + z = xz at *
     go_wp2
     go_roundw
     case rel => exact ⟨k + 1, xz, by omega, by go_num, HX2.out, rfl, HB3.out, HX3.out⟩
     case measure => simp [intOf]; omega
    ·have hkn : k = n := by omega
     have HF : Hid (x = T) := by
      show x = T
      rw [hx, HT.out, hkn, List.take_of_length_le (by have := Hn.out; omega)]
     clear hx hkn
     go_wp2
     go_ret
     exact ⟨by rw [HF.out]; rfl, HB.out⟩
section
section
variable {P : Program} {ops : Array Oper} {Q : Exit → Act → World → Prop} {md : Region.Mode} {S : World → Prop} {T : Nat}
theorem wpAnyX_firstU {i : Nat} {oi : Oper} {v : Value} (hi : ops[i]? = some oi) (hsel : ∀ (j : Nat) (o : Oper) cs b, ops[j]? = some o → o.op ≠ .select cs b)
 (hT : ops[T]? = none) (hQ : ∀ c a w, Q (.panic c) (a.put oi.dst v) w → Q (.panic c) a w) :
 ∀ (fuel : Nat) (listed : Array Bool) (a : Act) (w : World),
  (∀ j oj, ops[j]? = some oj → j ≠ i → listed.getD j true = false → (∀ e ∈ oj.after, Region.binds md e = true → e.on ≠ i) → oi.apart ops oj = true) →
  i ∈ Region.ready md ops listed → YieldsIf P ops S oi v a → S w →
  wpAnyX P md ops Q S T fuel (listed.setIfInBounds i true) (a.put oi.dst v) w → wpAnyX P md ops Q S T (fuel + 1) listed a w := by
 intro fuel
 induction fuel with
 | zero =>
   intro listed a w _ hr hy hS H
   refine .inr ⟨fun h => (by rw [h] at hr; cases hr), fun j hj => ?_⟩
   by_cases hji : j = i
   ·subst hji; exact hy.wpOp hi hS ⟨hS, H⟩
   ·have := ready_mono hj hji
    rw [H.1] at this
    cases this
 | succ fuel ih =>
   intro listed a w hfree hr hy hS H
   refine .inr ⟨fun h => (by rw [h] at hr; cases hr), fun j hj => ?_⟩
   by_cases hji : j = i
   ·subst hji; exact hy.wpOp hi hS ⟨hS, H⟩
   ·obtain ⟨hjun, oj, hoj, hall⟩ := mem_ready.1 hj
    have hnot : ∀ e ∈ oj.after, Region.binds md e = true → e.on ≠ i := fun e he hb heq => by
     have h1 := hall e he hb
     have h0 := (mem_ready.1 hr).1
     rw [heq] at h1
     rcases Nat.lt_or_ge i listed.size with h' | h'
     ·simp [h'] at h0 h1; rw [h0] at h1; cases h1
     ·simp [Array.getElem?_eq_none h'] at h1
    rcases H with H | H
    ·have h1 := ready_mono hj hji
     rw [H.1] at h1
     obtain rfl : j = T := by simpa using h1
     rw [hT] at hoj; cases hoj
    ·have h1 := H.2 j (ready_mono hj hji)
     have h2 := wpOp_putIf hoj (hfree j oj hoj hji hjun hnot) (fun cs b => hsel i oi cs b hi) (fun cs b => hsel j oj cs b hoj) hQ hy h1
     have hfree' : ∀ k ok, ops[k]? = some ok → k ≠ i → (listed.setIfInBounds j true).getD k true = false →
      (∀ e ∈ ok.after, Region.binds md e = true → e.on ≠ i) → oi.apart ops ok = true := fun k ok hk hki hun hno => by
      refine hfree k ok hk hki ?_ hno
      by_cases hjk : j = k
      ·subst hjk; exact hjun
      ·rw [getD_set_ne true hjk] at hun; exact hun
     refine wpOp_mono (fun a' w' h3 => ⟨h3.2.1, ih (listed.setIfInBounds j true) a' w' hfree' (ready_mono hr (Ne.symm hji)) h3.1 h3.2.1 ?_⟩) h2
     rw [Array.setIfInBounds_comm _ _ hji]
     exact h3.2.2
theorem X_takeU (i : Nat) (d : Option Tmp) {oi : Oper} {v : Value} {fuel : Nat} {listed listed' : Array Bool} {a : Act} {w : World} (hi : ops[i]? = some oi) (hd : oi.dst = d) (hl : listed.setIfInBounds i true = listed')
 (hB : (Region.noSelect ops && Region.free md ops listed i && (Region.ready md ops listed).contains i) = true) (hT : ops[T]? = none)
 (hQ : ∀ c a w, Q (.panic c) (a.put oi.dst v) w → Q (.panic c) a w) (hy : Region.wanted oi (yielded ops a.tmps) = true ∧ ∀ w, S w → (execOp a.eval oi).run P w = .ok (.value v) w) (hS : S w)
 (h : wpAnyX P md ops Q S T fuel listed' (a.put d v) w) : wpAnyX P md ops Q S T (fuel + 1) listed a w := by
 simp only [Bool.and_eq_true] at hB
 subst hd hl
 exact wpAnyX_firstU hi (Region.noSelect_spec hB.1.1) hT hQ fuel listed a w (Region.free_spec hi hB.1.2) (by simpa using hB.2) (.inl hy) hS h
theorem X_done {listed : Array Bool} {a : Act} {w : World} (hr : Region.ready md ops listed = []) (h : Q .normal a w) : wpAnyX P md ops Q S T 0 listed a w := ⟨hr, h⟩
end
end
end Go.Proofs.YtocodlpgaamblaaGreatDoor
