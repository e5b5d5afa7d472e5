/- The contract of Bent on a catalog of one tax, where the tax is bent. -/
import Derived.Test.YtlgedljhheficaaGreatDoorA36
import Derived.Deep.RegionHeld3
namespace Go.Proofs.YtlgedljhheficaaGreatDoor
open Go.RowKit

theorem info25 : (Tryz.prog.info? 25).map (fun i => (i.zero, i.size, i.bytes)) = some (some (.agg #[.string ⟨#[]⟩, .slice none 0 0]), 2, 40) := by kernel_rfl

/-- What lies in memory in Bent: w is the world at its call. -/
structure CtS (w W : World) (gt cap : Nat) (v3 : Value) (nT : ByteArray) (vT : Value) (A : Option Addr) (na ca : Nat) (zs : List Int) (i : Int) : Prop where
  res : Bk W (w.heap.size + 1) 61 [.slice none 0 0, .slice none 0 0, .slice none 0 0, .slice none 0 0]
  gen : GAt W (w.heap.size + 1 + 1) A na ca zs i
  out : Bk W (w.heap.size + 1 + 1 + 1) 61 [.slice none 0 0, .slice none 0 0, .slice none 0 0, v3]
  tx : W.ownsRow w.heap.size 25 2 (.slice (some ⟨gt, 0, none⟩) 1 cap) 1 [.string nT, vT]
  gr : Below w.heap.size w W
  far : ∀ b off, A = some ⟨b, off, none⟩ → b < w.heap.size
section
variable {w W W' : World} {gt cap : Nat} {v3 : Value} {nT : ByteArray} {vT : Value} {A : Option Addr} {na ca : Nat} {zs : List Int} {i i' : Int}
theorem CtS.next (h : CtS w W gt cap v3 nT vT A na ca zs i) (hG : GAt W' (w.heap.size + 1 + 1) A na ca zs i') (hg : W.grownBy W' (some (w.heap.size + 1 + 1))) : CtS w W' gt cap v3 nT vT A na ca zs i' :=
  ⟨h.res.grown hg (by simp), hG, h.out.grown hg (by simp), h.tx.kept hg (.inr (row_ne h.tx h.gen.bk (by decide))), h.gr.grown hg h.gr.size (fun k e => by cases e; omega), h.far⟩
theorem CtS.setOut (h : CtS w W gt cap v3 nT vT A na ca zs i) (u : Value) : CtS w (W.setCell ⟨w.heap.size + 1 + 1 + 1, 3, none⟩ u) gt cap u nT vT A na ca zs i := by
  have hg := grown_set W (w.heap.size + 1 + 1 + 1) 3 u
  exact ⟨h.res.grown hg (by simp), h.gen.keep hg (by omega) (fun b' off e => by have := h.far b' off e; omega), h.out.set 3 u, h.tx.kept hg (.inr (row_ne h.tx h.out (by decide))), h.gr.setCell (by simp; omega) u, h.far⟩
theorem CtS.gt_base (h : CtS w W gt cap v3 nT vT A na ca zs i) : w.heap.size ≤ gt := row_base h.tx gt rfl
theorem CtS.cells (h : CtS w W gt cap v3 nT vT A na ca zs i) : W.cell? ⟨gt, 0, none⟩ = some (.string nT) ∧ W.cell? ⟨gt, 1, none⟩ = some vT ∧ W.frozen? ⟨gt, 0, none⟩ = false ∧ W.frozen? ⟨gt, 1, none⟩ = false ∧ gt < W.heap.size := by
  refine ⟨h.tx.cellAt 0 (by omega), h.tx.cellAt 1 (by omega), h.tx.frozenAt 0, h.tx.frozenAt 1, ?_⟩
  rcases h.tx.2 with ⟨h0, _⟩ | ⟨g, cap', cur, hv, _, hg, _⟩
  · cases h0
  · have : gt = g := by simpa using (Value.slice.inj hv).1
    subst this
    exact (Array.getElem?_eq_some_iff.1 hg).1
end

/-- What Bent leaves. -/
def BentPost (w : World) (e : Ending) (w' : World) : Prop :=
  ∃ gt cap nm A n c brs, e = .returned (.agg #[.slice none 0 0, .slice none 0 0, .slice none 0 0, .slice (some ⟨gt, 0, none⟩) 1 cap]) ∧ w'.cell? ⟨gt, 0, none⟩ = some (.string nm) ∧ w'.cell? ⟨gt, 1, none⟩ = some (.slice A n c) ∧
    Nm nm ∧ Row w' w'.heap.size A (bcells brs) ∧ n = brs.length ∧ n ≤ 100 ∧ Below w.heap.size w w'

theorem set_other (w : World) (p : Addr) {q : Addr} (h : p ≠ q) (u : Value) : (w.setCell p u).cell? q = w.cell? q := by
  first
    | exact World.cell?_setCell_other w p q u h
    | exact World.cell?_setCell_other w p u q h
    | exact World.cell?_setCell_other _ _ _ _ h
/-- The world when the result is laid. -/
abbrev lay4 (W : World) (g : Nat) (u : Value) : World := (((W.setCell ⟨g, 0, none⟩ (.slice none 0 0)).setCell ⟨g, 1, none⟩ (.slice none 0 0)).setCell ⟨g, 2, none⟩ (.slice none 0 0)).setCell ⟨g, 3, none⟩ u
set_option maxHeartbeats 1000000 in
theorem bent_end {w W w5 : World} {gt cap : Nat} {nT : ByteArray} {vT : Value} {A : Option Addr} {na ca : Nat} {zs : List Int} {i : Int} {nm2 : ByteArray} {A2 : Option Addr} {n2 c2 b : Nat} {brs2 : List (Int × Int)}
    (h : CtS w W gt cap (.slice (some ⟨gt, 0, none⟩) 1 cap) nT vT A na ca zs i) (hg : W.grownBy w5 (some (w.heap.size + 1 + 1))) (hb : b < w.heap.size) (hnm : Nm nm2) (hrow : Row w5 w5.heap.size A2 (bcells brs2)) (hn : n2 = brs2.length) (h100 : n2 ≤ 100)
    (hfar : ∀ k o, A2 = some ⟨k, o, none⟩ → k = b ∨ W.heap.size ≤ k) :
    Bk ((w5.setCell ⟨gt, 0, none⟩ (.string nm2)).setCell ⟨gt, 1, none⟩ (.slice A2 n2 c2)) (w.heap.size + 1 + 1 + 1) 61 [.slice none 0 0, .slice none 0 0, .slice none 0 0, .slice (some ⟨gt, 0, none⟩) 1 cap] ∧
    Bk ((w5.setCell ⟨gt, 0, none⟩ (.string nm2)).setCell ⟨gt, 1, none⟩ (.slice A2 n2 c2)) (w.heap.size + 1) 61 [.slice none 0 0, .slice none 0 0, .slice none 0 0, .slice none 0 0] ∧
    BentPost w (.returned (.agg #[.slice none 0 0, .slice none 0 0, .slice none 0 0, .slice (some ⟨gt, 0, none⟩) 1 cap])) (lay4 ((w5.setCell ⟨gt, 0, none⟩ (.string nm2)).setCell ⟨gt, 1, none⟩ (.slice A2 n2 c2)) (w.heap.size + 1) (.slice (some ⟨gt, 0, none⟩) 1 cap)) ∧
    (lay4 ((w5.setCell ⟨gt, 0, none⟩ (.string nm2)).setCell ⟨gt, 1, none⟩ (.slice A2 n2 c2)) (w.heap.size + 1) (.slice (some ⟨gt, 0, none⟩) 1 cap)).heap[w.heap.size + 1]? = some (.cells #[.slice none 0 0, .slice none 0 0, .slice none 0 0, .slice (some ⟨gt, 0, none⟩) 1 cap] 61 (0, 0)) := by
  have hbase := h.gt_base
  have hno : gt ≠ w.heap.size + 1 + 1 + 1 := fun e => row_ne h.tx h.out (by decide) (by rw [e]; rfl)
  have hnr : gt ≠ w.heap.size + 1 := fun e => row_ne h.tx h.res (by decide) (by rw [e]; rfl)
  have hgl := h.cells.2.2.2.2
  have hrl := h.res.lt
  have o5 := h.out.grown hg (by simp)
  have r5 := h.res.grown hg (by simp)
  have tx5 := h.tx.kept hg (.inr (row_ne h.tx h.gen.bk (by decide)))
  have o6 := (o5.far (p := ⟨gt, 0, none⟩) (fun e => hno e.symm) (.string nm2)).far (p := ⟨gt, 1, none⟩) (fun e => hno e.symm) (.slice A2 n2 c2)
  have r6 := (r5.far (p := ⟨gt, 0, none⟩) (fun e => hnr e.symm) (.string nm2)).far (p := ⟨gt, 1, none⟩) (fun e => hnr e.symm) (.slice A2 n2 c2)
  have r7 := (((r6.set 0 (.slice none 0 0)).set 1 (.slice none 0 0)).set 2 (.slice none 0 0)).set 3 (.slice (some ⟨gt, 0, none⟩) 1 cap)
  refine ⟨o6, r6, ?_, r7⟩
  have hB5 : Below w.heap.size w w5 := h.gr.grown hg h.gr.size (fun k e => by cases e; omega)
  have hB6 : Below w.heap.size w ((w5.setCell ⟨gt, 0, none⟩ (.string nm2)).setCell ⟨gt, 1, none⟩ (.slice A2 n2 c2)) := (hB5.setCell (p := ⟨gt, 0, none⟩) hbase _).setCell (p := ⟨gt, 1, none⟩) hbase _
  have hB7 : Below w.heap.size w (lay4 ((w5.setCell ⟨gt, 0, none⟩ (.string nm2)).setCell ⟨gt, 1, none⟩ (.slice A2 n2 c2)) (w.heap.size + 1) (.slice (some ⟨gt, 0, none⟩) 1 cap)) :=
    (((hB6.setCell (p := ⟨w.heap.size + 1, 0, none⟩) (by simp) _).setCell (p := ⟨w.heap.size + 1, 1, none⟩) (by simp) _).setCell (p := ⟨w.heap.size + 1, 2, none⟩) (by simp) _).setCell (p := ⟨w.heap.size + 1, 3, none⟩) (by simp) _
  have far4 : ∀ (X : World) (k : Nat), k ≠ w.heap.size + 1 → (lay4 X (w.heap.size + 1) (.slice (some ⟨gt, 0, none⟩) 1 cap)).heap[k]? = X.heap[k]? := fun X k hk => by
    unfold lay4
    rw [Below.heap_setCell _ _ _ _ hk, Below.heap_setCell _ _ _ _ hk, Below.heap_setCell _ _ _ _ hk, Below.heap_setCell _ _ _ _ hk]
  have hsz : (lay4 ((w5.setCell ⟨gt, 0, none⟩ (.string nm2)).setCell ⟨gt, 1, none⟩ (.slice A2 n2 c2)) (w.heap.size + 1) (.slice (some ⟨gt, 0, none⟩) 1 cap)).heap.size = w5.heap.size := by simp [lay4, World.setCell]
  have x0 : w5.cell? ⟨gt, 0, none⟩ = some (.string nT) := tx5.cellAt 0 (by omega)
  have x1 : w5.cell? ⟨gt, 1, none⟩ = some vT := tx5.cellAt 1 (by omega)
  have y0 : ((w5.setCell ⟨gt, 0, none⟩ (.string nm2)).setCell ⟨gt, 1, none⟩ (.slice A2 n2 c2)).cell? ⟨gt, 0, none⟩ = some (.string nm2) := by
    exact (set_other _ _ (by simp) _).trans (World.cell?_setCell_same _ _ _ x0)
  have y1 : ((w5.setCell ⟨gt, 0, none⟩ (.string nm2)).setCell ⟨gt, 1, none⟩ (.slice A2 n2 c2)).cell? ⟨gt, 1, none⟩ = some (.slice A2 n2 c2) := by
    exact World.cell?_setCell_same _ _ _ ((set_other _ _ (by simp) _).trans x1)
  refine ⟨gt, cap, nm2, A2, n2, c2, brs2, rfl, (World.cell?_of_block (far4 _ gt hnr)).trans y0, (World.cell?_of_block (far4 _ gt hnr)).trans y1, hnm, ?_, hn, h100, hB7⟩
  rcases hrow with h0 | ⟨k, o, hA, hk, hc⟩
  · exact .inl h0
  · have hkk := hfar k o hA
    have k1 : k ≠ gt := by omega
    have k2 : k ≠ w.heap.size + 1 := by omega
    refine .inr ⟨k, o, hA, by rw [hsz]; exact hk, fun j u hu => (World.cell?_of_block (w := w5) ?_).trans (hc j u hu)⟩
    rw [far4 _ k k2, Below.heap_setCell _ _ _ _ k1, Below.heap_setCell _ _ _ _ k1]

set_option maxRecDepth 100000 in
set_option maxHeartbeats 2000000 in
theorem bent_any {w : World} {bt : Nat} {nm : ByteArray} {b off n c : Nat} {brs : List (Int × Int)} {A : Option Addr} {na : Nat} (ca : Nat) {zs : List Int}
    (hbt : bt < w.heap.size) (t0 : w.cell? ⟨bt, 0, none⟩ = some (.string nm)) (t1 : w.cell? ⟨bt, 1, none⟩ = some (.slice (some ⟨b, off, none⟩) n c))
    (hc : ∀ j u, (bcells brs)[j]? = some u → w.cell? ⟨b, off + j, none⟩ = some u) (hb : b < w.heap.size) (hn : n = brs.length) (h1 : 1 ≤ n) (h6 : n ≤ 6) (hnm : Nm nm) (hl : IntsV w A na zs) (hfar : ∀ b' off', A = some ⟨b', off', none⟩ → b' < w.heap.size) (h4 : pick zs 0 6 = 4) :
    Calls Tryz.prog 34 #[.agg #[.slice none 0 0, .slice none 0 0, .slice none 0 0, .slice (some ⟨bt, 0, none⟩) 1 1], .slice A na ca] w (BentPost w) := by
  obtain ⟨i0, hinf, hz0, hz1, hz2⟩ := info_parts info25
  have HC := Lib.hid hc
  have HN := Lib.hid hn
  have HL := Lib.hid hl
  have H4 := Lib.hid h4
  clear hc hn hl h4
  go_enter Tryz.func34, Tryz.ntmps34
  go_wp2_with (at_builtin; refine wpList_append_own_at _ rfl (.tmp 35) (.tmp 37) 59 rfl w.heap.size 25 i0 (.agg #[.string ⟨#[]⟩, .slice none 0 0]) 2 40 Tryz.underlying59 hinf hz0 hz1 hz2 rfl (by decide) _ 0 [] rfl (World.ownsRow_nil _ _ _ _) ⟨bt, 0, none⟩ 1 1 [.string nm, .slice (some ⟨b, off, none⟩) n c] rfl rfl ?c1a ?c2a ?c3a ?c4a ?c5a ?_)
  case c1a =>
    intro j u hj
    match j, hj with
    | 0, hj => simp at hj; subst hj; simp [Addr.add]; rw [World.cell?_alloc_past _ _ _ (by simp; omega), World.cell?_alloc_past _ _ _ (by simp; omega), World.cell?_alloc_past _ _ _ (by simp; omega), World.cell?_alloc_past _ _ _ hbt]; exact t0
    | 1, hj => simp at hj; subst hj; simp [Addr.add]; rw [World.cell?_alloc_past _ _ _ (by simp; omega), World.cell?_alloc_past _ _ _ (by simp; omega), World.cell?_alloc_past _ _ _ (by simp; omega), World.cell?_alloc_past _ _ _ hbt]; exact t1
    | j + 2, hj => simp at hj
  case c2a =>
    intro u hu
    simp only [List.mem_cons, List.not_mem_nil, or_false] at hu
    rcases hu with rfl | rfl <;> rfl
  case c3a => unfold maxLen; omega
  case c4a => omega
  case c5a => simp; omega
  intro v' w1 hown' hgrow _ _
  have hshape : ∃ g cap, v' = .slice (some ⟨g, 0, none⟩) 1 cap := by
    rcases hown'.2 with ⟨_, h0⟩ | ⟨g, cap, cur, hv, _⟩
    · omega
    · exact ⟨g, cap, hv⟩
  obtain ⟨gt, cap, hv⟩ := hshape
  rw [hv] at hown' ⊢
  have hnone : ∀ k : Nat, some k ≠ (Value.slice none 0 0).ownBlock := fun k e => by cases e
  have hS1 : CtS w w1 gt cap (.slice none 0 0) nm (.slice (some ⟨b, off, none⟩) n c) A na ca zs 0 := by
    have hB : Below w.heap.size w w1 := (((((Below.refl _ w).alloc (Nat.le_refl _) _).alloc (by simp) _).alloc (by simp; omega) _).alloc (by simp; omega) _).grown hgrow (by simp; omega) (fun k e => by cases e)
    have kr := Bk.new (w.alloc (.cells #[.slice none 0 0, .slice none 0 0, .slice none 0 0, .slice (some ⟨bt, 0, none⟩) 1 1] 61)) 61 [.slice none 0 0, .slice none 0 0, .slice none 0 0, .slice none 0 0]
    rw [World.size_alloc] at kr
    have kg := Bk.new ((w.alloc (.cells #[.slice none 0 0, .slice none 0 0, .slice none 0 0, .slice (some ⟨bt, 0, none⟩) 1 1] 61)).alloc (.cells #[.slice none 0 0, .slice none 0 0, .slice none 0 0, .slice none 0 0] 61)) 85 [.slice A na ca, .int .i64 0]
    rw [World.size_alloc, World.size_alloc] at kg
    have ko := Bk.new (((w.alloc (.cells #[.slice none 0 0, .slice none 0 0, .slice none 0 0, .slice (some ⟨bt, 0, none⟩) 1 1] 61)).alloc (.cells #[.slice none 0 0, .slice none 0 0, .slice none 0 0, .slice none 0 0] 61)).alloc (.cells #[.slice A na ca, .int .i64 0] 85)) 61 [.slice none 0 0, .slice none 0 0, .slice none 0 0, .slice none 0 0]
    rw [World.size_alloc, World.size_alloc, World.size_alloc] at ko
    exact ⟨((kr.alloc _).alloc _).grown hgrow (hnone _), ⟨(kg.alloc _).grown hgrow (hnone _), HL.out.below hB, fun b' off' e => by have := hfar b' off' e; omega, by omega, by omega⟩, ko.grown hgrow (hnone _), hown', hB, hfar⟩
  have hS2 := hS1.setOut (.slice (some ⟨gt, 0, none⟩) 1 cap)
  have o3 : w1.cell? ⟨w.heap.size + 1 + 1 + 1, 3, none⟩ = some (.slice none 0 0) := hS1.out.cell 3
  have fo3 := hS1.out.frozen 3
  have hl3 := hS1.out.lt
  have HS2 := Lib.hid hS2
  clear hS1 hS2 hown' hgrow
  go_wp2_with fail
  obtain ⟨W2, hW2⟩ : ∃ W2, w1.setCell ⟨w.heap.size + 1 + 1 + 1, 3, none⟩ (.slice (some ⟨gt, 0, none⟩) 1 cap) = W2 := ⟨_, rfl⟩
  rw [hW2] at HS2 ⊢
  clear hW2 o3 fo3 hl3
  have K := next_any 6 HS2.out.gen (by omega) (by omega) (by omega)
  unfold NextPost at K
  rw [H4.out] at K
  have HK := Lib.hid K
  clear K
  (with_reducible refine HK.out.mono ?_)
  rintro e w3 ⟨rfl, hg3, hgr3⟩
  have HS3 := Lib.hid (HS2.out.next hg3 hgr3)
  clear HS2 HK hg3 hgr3
  have o0 : w3.cell? ⟨w.heap.size + 1 + 1 + 1, 0, none⟩ = some (.slice none 0 0) := HS3.out.out.cell 0
  have o1 : w3.cell? ⟨w.heap.size + 1 + 1 + 1, 1, none⟩ = some (.slice none 0 0) := HS3.out.out.cell 1
  have o2 : w3.cell? ⟨w.heap.size + 1 + 1 + 1, 2, none⟩ = some (.slice none 0 0) := HS3.out.out.cell 2
  have o3 : w3.cell? ⟨w.heap.size + 1 + 1 + 1, 3, none⟩ = some (.slice (some ⟨gt, 0, none⟩) 1 cap) := HS3.out.out.cell 3
  have hbd : Below w3.heap.size w3 w3.drew := (Below.refl _ _).drew
  have HSd := Lib.hid (HS3.out.next (HS3.out.gen.below hbd) (grown_of_below hbd _))
  have CD : Hid (w3.drew.cell? ⟨w.heap.size + 1 + 1 + 1, 3, none⟩ = some (.slice (some ⟨gt, 0, none⟩) 1 cap)) := o3
  have HNE := Lib.hid (row_ne HS3.out.tx HS3.out.gen.bk (by decide))
  have hne3 : gt ≠ w.heap.size + 1 + 1 + 1 := fun e => row_ne HS3.out.tx HS3.out.out (by decide) (by rw [e]; rfl)
  obtain ⟨x0, x1, y0, y1, hgl⟩ := HS3.out.cells
  have X0 : w3.drew.cell? ⟨gt, 0, none⟩ = some (.string nm) := x0
  have X1 : w3.drew.cell? ⟨gt, 1, none⟩ = some (.slice (some ⟨b, off, none⟩) n c) := x1
  have hK := brackets_bent c (w := w3.drew) (gg := w.heap.size + 1 + 1) (fun j u hj => (HSd.out.gr.cell (p := ⟨b, off + j, none⟩) hb).trans (HC.out j u hj)) (Nat.lt_of_lt_of_le hb HSd.out.gr.size) (by omega) HN.out h1 h6 hnm HSd.out.gen (by omega) (fun b' off' e => Nat.lt_of_lt_of_le (hfar b' off' e) HSd.out.gr.size)
  have HK := Lib.hid hK
  clear hK hbd
  go_wp2_with fail
  go_region_with (first | (go_at_call 52; (with_reducible refine HK.out.mono ?_); rintro e w5 ⟨nm2, A2, n2, c2, brs2, rfl, hnm2, hrow2, hn2, h100, hgr5, hfar5⟩; have Hn2 := Lib.hid hn2; clear hn2; have tx5 := HSd.out.tx.kept hgr5 (.inr HNE.out); have C5 : w5.cell? ⟨w.heap.size + 1 + 1 + 1, 3, none⟩ = some (.slice (some ⟨gt, 0, none⟩) 1 cap) := (HSd.out.out.grown hgr5 (by simp)).cell 3; have e0 := tx5.cellAt 0 (by omega); have e1 := tx5.cellAt 1 (by omega); have f0 := tx5.frozenAt 0; have f1 := tx5.frozenAt 1; have T5 := Lib.hid tx5; clear tx5; have hgl5 : gt < w5.heap.size := Nat.lt_of_lt_of_le hgl hgr5.size))
  all_goals
    obtain ⟨E1, E2, E3, E4⟩ := bent_end HSd.out hgr5 hb hnm2 hrow2 Hn2.out h100 hfar5 (c2 := c2)
    have z0 := E1.cell 0
    have z1 := E1.cell 1
    have z2 := E1.cell 2
    have z3 := E1.cell 3
    have u0 := E2.cell 0
    have u1 := E2.cell 1
    have u2 := E2.cell 2
    have u3 := E2.cell 3
    have g0 := E2.frozen 0
    have g1 := E2.frozen 1
    have g2 := E2.frozen 2
    have g3 := E2.frozen 3
    have ul := E2.lt
    have EE3 := Lib.hid E3
    have EE4 := Lib.hid E4
    clear E1 E2 E3 E4 e0 e1 f0 f1 C5 hgl5
    obtain ⟨W6, hW6⟩ : ∃ W6, (w5.setCell ⟨gt, 0, none⟩ (.string nm2)).setCell ⟨gt, 1, none⟩ (.slice A2 n2 c2) = W6 := ⟨_, rfl⟩
    rw [hW6] at z0 z1 z2 z3 u0 u1 u2 u3 g0 g1 g2 g3 ul EE3 EE4 ⊢
    simp only [List.getElem?_cons_zero, List.getElem?_cons_succ] at z0 z1 z2 z3 u0 u1 u2 u3
    clear hW6
    go_wp2
    have t1 := EE4.out
    refine bodyPost_ret (v := .agg #[.slice none 0 0, .slice none 0 0, .slice none 0 0, .slice (some ⟨gt, 0, none⟩) 1 cap]) (by simp [results, Tryz.results34, go_sem, World.cell?, t1]) rfl EE3.out

end Go.Proofs.YtlgedljhheficaaGreatDoor
