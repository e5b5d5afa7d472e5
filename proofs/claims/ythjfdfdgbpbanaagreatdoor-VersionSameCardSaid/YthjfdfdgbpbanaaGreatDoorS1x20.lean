/- Two catalogs, of which the second may have a changed part. Copies of the parts of a catalog: lists of pairs of numbers, rules, rows, tables and taxes, each in memory of its own. Copies of a rule, a row of a table and a tax. -/
import Derived.Test.YthjfdfdgbpbanaaGreatDoorS1x5
import Derived.Test.YthjfdfdgbpbanaaGreatDoorS1x8
import Derived.Test.YthjfdfdgbpbanaaGreatDoorS1x19
set_option linter.unusedVariables false
set_option linter.unusedSimpArgs false
open Go.RowKit
namespace Go.Proofs.YthjfdfdgbpbanaaGreatDoor
set_option maxRecDepth 100000 in
theorem far_opened {W : World} {base : Nat} {A : Option Addr} {n c : Nat} (h : Value.okWide Tryz.prog W .any base 22 (.slice A n c)) : ∀ b off, A = some ⟨b, off, none⟩ → b < W.heap.size := by
 intro b off e
 subst e
 simp only [Value.okWide, Tryz.underlying22, Cell.okWide, Cell.ok] at h
 obtain ⟨_, _, _, _, row, cells, hs, _⟩ := h
 rcases Nat.lt_or_ge b W.heap.size with h1 | h1
 ·exact h1
 ·exfalso
  simp [World.shape?, Array.getElem?_eq_none h1] at hs
/-- Two catalogs in their boxes, the results' boxes ahead of them. -/
structure TwS (w W : World) (b8 b9 : Nat) (m1 m2 : CatM) : Prop where
 bel : Below w.heap.size w W
 r6 : Bk W w.heap.size 28 nil4
 r7 : Bk W (w.heap.size + 1) 28 nil4
 k8 : Bk W b8 28 (catSL m1.si m1.sr m1.st m1.sx)
 k9 : Bk W b9 28 (catSL m2.si m2.sr m2.st m2.sx)
 g8 : w.heap.size + 2 ≤ b8
 g9 : b8 < b9
 ok1 : m1.Ok W
 ok2 : m2.Ok W
theorem TwS.below {w W W' : World} {b8 b9 : Nat} {m1 m2 : CatM} (h : TwS w W b8 b9 m1 m2) (hb : Below W.heap.size W W') : TwS w W' b8 b9 m1 m2 :=
 ⟨h.bel.trans (hb.mono h.bel.size), h.r6.below hb h.r6.lt, h.r7.below hb h.r7.lt, h.k8.below hb h.k8.lt, h.k9.below hb h.k9.lt, h.g8, h.g9, h.ok1.below hb, h.ok2.below hb⟩
def TwoG (w : World) (e : Ending) (W : World) : Prop := ∃ a b : CatM, e = .returned (.tuple #[a.val, b.val]) ∧ a.Ok W ∧ b.Ok W ∧ Below w.heap.size w W
theorem TwoG.drew {w W : World} {e : Ending} (h : TwoG w e W) : TwoG w e W.drew := by
 obtain ⟨a, b, he, h1, h2, h3⟩ := h
 exact ⟨a, b, he, h1.below (Below.refl _ _).drew, h2.below (Below.refl _ _).drew, h3.trans ((Below.refl _ _).drew.mono h3.size)⟩
theorem CatM.Ok.set28 {W : World} {g k : Nat} {u : Value} {xs : List Value} {m : CatM} (h : m.Ok W) (hb : Bk W g 28 xs) : m.Ok (W.setCell ⟨g, k, none⟩ u) := h.keeps fun _ _ h2 => Keep.setCell hb (Ne.symm h2) u
theorem TwS.put {w W : World} {b8 b9 : Nat} {m1 m2 m3 : CatM} (h : TwS w W b8 b9 m1 m2) (h3 : m3.Ok W) : TwS w ((((W.setCell ⟨b9, 0, none⟩ (.slice m3.si.A m3.si.n m3.si.c)).setCell ⟨b9, 1, none⟩ (.slice m3.sr.A m3.sr.n m3.sr.c)).setCell ⟨b9, 2, none⟩ (.slice m3.st.A m3.st.n m3.st.c)).setCell ⟨b9, 3, none⟩ (.slice m3.sx.A m3.sx.n m3.sx.c)) b8 b9 m1 m3 := by
 have g8 := h.g8
 have g9 := h.g9
 have q0 := h.k9
 have q1 := q0.set 0 (.slice m3.si.A m3.si.n m3.si.c)
 have q2 := q1.set 1 (.slice m3.sr.A m3.sr.n m3.sr.c)
 have q3 := q2.set 2 (.slice m3.st.A m3.st.n m3.st.c)
 have q4 := q3.set 3 (.slice m3.sx.A m3.sx.n m3.sx.c)
 exact ⟨(((h.bel.setCell (p := ⟨b9, 0, none⟩) (by dsimp only; omega) _).setCell (p := ⟨b9, 1, none⟩) (by dsimp only; omega) _).setCell (p := ⟨b9, 2, none⟩) (by dsimp only; omega) _).setCell (p := ⟨b9, 3, none⟩) (by dsimp only; omega) _,
  (((h.r6.far (p := ⟨b9, 0, none⟩) (by dsimp only; omega) _).far (p := ⟨b9, 1, none⟩) (by dsimp only; omega) _).far (p := ⟨b9, 2, none⟩) (by dsimp only; omega) _).far (p := ⟨b9, 3, none⟩) (by dsimp only; omega) _, (((h.r7.far (p := ⟨b9, 0, none⟩) (by dsimp only; omega) _).far (p := ⟨b9, 1, none⟩) (by dsimp only; omega) _).far (p := ⟨b9, 2, none⟩) (by dsimp only; omega) _).far (p := ⟨b9, 3, none⟩) (by dsimp only; omega) _, (((h.k8.far (p := ⟨b9, 0, none⟩) (by dsimp only; omega) _).far (p := ⟨b9, 1, none⟩) (by dsimp only; omega) _).far (p := ⟨b9, 2, none⟩) (by dsimp only; omega) _).far (p := ⟨b9, 3, none⟩) (by dsimp only; omega) _, q4, h.g8, h.g9,
  (((h.ok1.set28 q0).set28 q1).set28 q2).set28 q3, (((h3.set28 q0).set28 q1).set28 q2).set28 q3⟩
theorem TwS.fin {w W : World} {b8 b9 : Nat} {m1 m2 : CatM} (h : TwS w W b8 b9 m1 m2) :
 TwoG w (.returned (.tuple #[.agg #[.slice m1.si.A m1.si.n m1.si.c, .slice m1.sr.A m1.sr.n m1.sr.c, .slice m1.st.A m1.st.n m1.st.c, .slice m1.sx.A m1.sx.n m1.sx.c], .agg #[.slice m2.si.A m2.si.n m2.si.c, .slice m2.sr.A m2.sr.n m2.sr.c, .slice m2.st.A m2.st.n m2.st.c, .slice m2.sx.A m2.sx.n m2.sx.c]])) ((((((((W.setCell ⟨w.heap.size, 0, none⟩ (.slice m1.si.A m1.si.n m1.si.c)).setCell ⟨w.heap.size, 1, none⟩ (.slice m1.sr.A m1.sr.n m1.sr.c)).setCell ⟨w.heap.size, 2, none⟩ (.slice m1.st.A m1.st.n m1.st.c)).setCell ⟨w.heap.size, 3, none⟩ (.slice m1.sx.A m1.sx.n m1.sx.c)).setCell ⟨(w.heap.size + 1), 0, none⟩ (.slice m2.si.A m2.si.n m2.si.c)).setCell ⟨(w.heap.size + 1), 1, none⟩ (.slice m2.sr.A m2.sr.n m2.sr.c)).setCell ⟨(w.heap.size + 1), 2, none⟩ (.slice m2.st.A m2.st.n m2.st.c)).setCell ⟨(w.heap.size + 1), 3, none⟩ (.slice m2.sx.A m2.sx.n m2.sx.c)) ∧
 ((((((((W.setCell ⟨w.heap.size, 0, none⟩ (.slice m1.si.A m1.si.n m1.si.c)).setCell ⟨w.heap.size, 1, none⟩ (.slice m1.sr.A m1.sr.n m1.sr.c)).setCell ⟨w.heap.size, 2, none⟩ (.slice m1.st.A m1.st.n m1.st.c)).setCell ⟨w.heap.size, 3, none⟩ (.slice m1.sx.A m1.sx.n m1.sx.c)).setCell ⟨(w.heap.size + 1), 0, none⟩ (.slice m2.si.A m2.si.n m2.si.c)).setCell ⟨(w.heap.size + 1), 1, none⟩ (.slice m2.sr.A m2.sr.n m2.sr.c)).setCell ⟨(w.heap.size + 1), 2, none⟩ (.slice m2.st.A m2.st.n m2.st.c)).setCell ⟨(w.heap.size + 1), 3, none⟩ (.slice m2.sx.A m2.sx.n m2.sx.c)).heap[w.heap.size]? = some (.cells #[.slice m1.si.A m1.si.n m1.si.c, .slice m1.sr.A m1.sr.n m1.sr.c, .slice m1.st.A m1.st.n m1.st.c, .slice m1.sx.A m1.sx.n m1.sx.c] 28 (0, 0)) ∧ ((((((((W.setCell ⟨w.heap.size, 0, none⟩ (.slice m1.si.A m1.si.n m1.si.c)).setCell ⟨w.heap.size, 1, none⟩ (.slice m1.sr.A m1.sr.n m1.sr.c)).setCell ⟨w.heap.size, 2, none⟩ (.slice m1.st.A m1.st.n m1.st.c)).setCell ⟨w.heap.size, 3, none⟩ (.slice m1.sx.A m1.sx.n m1.sx.c)).setCell ⟨(w.heap.size + 1), 0, none⟩ (.slice m2.si.A m2.si.n m2.si.c)).setCell ⟨(w.heap.size + 1), 1, none⟩ (.slice m2.sr.A m2.sr.n m2.sr.c)).setCell ⟨(w.heap.size + 1), 2, none⟩ (.slice m2.st.A m2.st.n m2.st.c)).setCell ⟨(w.heap.size + 1), 3, none⟩ (.slice m2.sx.A m2.sx.n m2.sx.c)).heap[w.heap.size + 1]? = some (.cells #[.slice m2.si.A m2.si.n m2.si.c, .slice m2.sr.A m2.sr.n m2.sr.c, .slice m2.st.A m2.st.n m2.st.c, .slice m2.sx.A m2.sx.n m2.sx.c] 28 (0, 0)) := by
 have q0 := h.r6
 have q1 := q0.set 0 (.slice m1.si.A m1.si.n m1.si.c)
 have q2 := q1.set 1 (.slice m1.sr.A m1.sr.n m1.sr.c)
 have q3 := q2.set 2 (.slice m1.st.A m1.st.n m1.st.c)
 have q4 := q3.set 3 (.slice m1.sx.A m1.sx.n m1.sx.c)
 have p0 := (((h.r7.far (p := ⟨w.heap.size, 0, none⟩) (by dsimp only; omega) (.slice m1.si.A m1.si.n m1.si.c)).far (p := ⟨w.heap.size, 1, none⟩) (by dsimp only; omega) (.slice m1.sr.A m1.sr.n m1.sr.c)).far (p := ⟨w.heap.size, 2, none⟩) (by dsimp only; omega) (.slice m1.st.A m1.st.n m1.st.c)).far (p := ⟨w.heap.size, 3, none⟩) (by dsimp only; omega) (.slice m1.sx.A m1.sx.n m1.sx.c)
 have p1 := p0.set 0 (.slice m2.si.A m2.si.n m2.si.c)
 have p2 := p1.set 1 (.slice m2.sr.A m2.sr.n m2.sr.c)
 have p3 := p2.set 2 (.slice m2.st.A m2.st.n m2.st.c)
 have p4 := p3.set 3 (.slice m2.sx.A m2.sx.n m2.sx.c)
 have t4 := (((q4.far (p := ⟨w.heap.size + 1, 0, none⟩) (by dsimp only; omega) (.slice m2.si.A m2.si.n m2.si.c)).far (p := ⟨w.heap.size + 1, 1, none⟩) (by dsimp only; omega) (.slice m2.sr.A m2.sr.n m2.sr.c)).far (p := ⟨w.heap.size + 1, 2, none⟩) (by dsimp only; omega) (.slice m2.st.A m2.st.n m2.st.c)).far (p := ⟨w.heap.size + 1, 3, none⟩) (by dsimp only; omega) (.slice m2.sx.A m2.sx.n m2.sx.c)
 exact ⟨⟨m1, m2, rfl, ((((((((h.ok1.set28 q0).set28 q1).set28 q2).set28 q3).set28 p0).set28 p1).set28 p2).set28 p3), ((((((((h.ok2.set28 q0).set28 q1).set28 q2).set28 q3).set28 p0).set28 p1).set28 p2).set28 p3), ((((((((h.bel.setCell (p := ⟨w.heap.size, 0, none⟩) (by dsimp only; omega) (.slice m1.si.A m1.si.n m1.si.c)).setCell (p := ⟨w.heap.size, 1, none⟩) (by dsimp only; omega) (.slice m1.sr.A m1.sr.n m1.sr.c)).setCell (p := ⟨w.heap.size, 2, none⟩) (by dsimp only; omega) (.slice m1.st.A m1.st.n m1.st.c)).setCell (p := ⟨w.heap.size, 3, none⟩) (by dsimp only; omega) (.slice m1.sx.A m1.sx.n m1.sx.c)).setCell (p := ⟨w.heap.size + 1, 0, none⟩) (by dsimp only; omega) (.slice m2.si.A m2.si.n m2.si.c)).setCell (p := ⟨w.heap.size + 1, 1, none⟩) (by dsimp only; omega) (.slice m2.sr.A m2.sr.n m2.sr.c)).setCell (p := ⟨w.heap.size + 1, 2, none⟩) (by dsimp only; omega) (.slice m2.st.A m2.st.n m2.st.c)).setCell (p := ⟨w.heap.size + 1, 3, none⟩) (by dsimp only; omega) (.slice m2.sx.A m2.sx.n m2.sx.c))⟩, t4, p4⟩
/-- Slices that share no block. -/
def Apart (a b : Sl) : Prop := ∀ g, (Value.slice a.A a.n a.c).ownBlock = some g → (Value.slice b.A b.n b.c).ownBlock ≠ some g
/-- Pairs of numbers in a row of their own, in a block from base on. -/
structure PrO (W : World) (t : TypeId) (base : Nat) (s : Sl) (l : List P2) : Prop where
 own : W.ownsRow base t 2 (.slice s.A s.n s.c) s.n (pcells l)
 len : s.n = l.length
 small : s.n ≤ 100000
 wf : ∀ p ∈ l, (-9223372036854775808 ≤ p.1 ∧ p.1 ≤ 9223372036854775807) ∧ -9223372036854775808 ≤ p.2 ∧ p.2 ≤ 9223372036854775807
theorem PrO.prV {W : World} {t : TypeId} {base : Nat} {s : Sl} {l : List P2} (h : PrO W t base s l) : PrV W t s l := ⟨TRow.of_own h.own, h.len, h.small, h.wf⟩
theorem PrO.grown {W W' : World} {t : TypeId} {base : Nat} {s : Sl} {l : List P2} {r : Option Nat} (h : PrO W t base s l) (hg : W.grownBy W' r) (hne : ∀ g, r = some g → (Value.slice s.A s.n s.c).ownBlock ≠ some g) : PrO W' t base s l :=
 ⟨h.own.kept hg (by cases hr : r with | none => cases (Value.slice s.A s.n s.c).ownBlock <;> simp | some g => exact .inr (hne g hr)), h.len, h.small, h.wf⟩
theorem PrO.below {W W' : World} {t : TypeId} {base : Nat} {s : Sl} {l : List P2} (h : PrO W t base s l) (hb : Below W.heap.size W W') : PrO W' t base s l := h.grown (grown_of_below hb none) (fun g e => by cases e)
theorem PrO.at_ {W : World} {t : TypeId} {base : Nat} {s : Sl} {l : List P2} (h : PrO W t base s l) {g : Nat} (hg : (Value.slice s.A s.n s.c).ownBlock = some g) : base ≤ g ∧ g < W.heap.size := h.own.lt g hg
theorem PrO.mono {W : World} {t : TypeId} {base b0 : Nat} {s : Sl} {l : List P2} (h : PrO W t base s l) (hb : b0 ≤ base) : PrO W t b0 s l :=
 ⟨⟨h.own.1, h.own.2.imp id fun ⟨g, cap, cur, h1, h2, h3⟩ => ⟨g, cap, cur, h1, by omega, h3⟩⟩, h.len, h.small, h.wf⟩
theorem PrO.apart {W W2 : World} {t t2 : TypeId} {b1 b2 : Nat} {s s2 : Sl} {l l2 : List P2} (h : PrO W t b1 s l) (k : PrO W2 t2 b2 s2 l2) (hb : W.heap.size ≤ b2) : Apart s s2 := fun g hg hk => by
 have := (h.at_ hg).2
 have := (k.at_ hk).1
 omega
theorem row_neP {W : World} {base : Nat} {e t : TypeId} {size n g : Nat} {v : Value} {xs ys : List Value} (h : W.ownsRow base e size v n xs) (hg : Bk W g t ys) (hne : e ≠ t) : v.ownBlock ≠ some g := by
 rcases h.2 with ⟨rfl, _⟩ | ⟨g', cap, cur, rfl, _, hh, _⟩
 ·simp [Value.ownBlock]
 ·intro he
  have : g' = g := by simpa [Value.ownBlock] using he
  subst this
  unfold Bk at hg
  rw [hg] at hh
  cases hh
  exact hne rfl
theorem pcells_one1 (l : List P2) : ∀ u ∈ pcells l, u.oneCell' = true := by
 intro u hu
 simp only [pcells, List.mem_flatMap] at hu
 obtain ⟨p, _, hp⟩ := hu
 simp only [pc, List.mem_cons, List.not_mem_nil, or_false] at hp
 rcases hp with rfl | rfl <;> rfl
theorem pcells_len1 (l : List P2) : (pcells l).length = l.length * 2 := flat_len pc_len l
theorem pcells_nil1 {l : List P2} (h : pcells l = []) : l = [] := by
 cases l with
 | nil => rfl
 | cons p l => simp [pcells] at h
theorem info136a : (Tryz.prog.info? 136).map (fun i => (i.zero, i.size, i.bytes)) = some (some (.agg #[.int .i64 0, .int .i64 0]), 2, 16) := by kernel_rfl
theorem info129a : (Tryz.prog.info? 129).map (fun i => (i.zero, i.size, i.bytes)) = some (some (.agg #[.int .i64 0, .int .i64 0]), 2, 16) := by kernel_rfl
def ClP (w : World) (t : TypeId) (l : List P2) (e : Ending) (w' : World) : Prop := ∃ s : Sl, e = .returned (.slice s.A s.n s.c) ∧ PrO w' t w.heap.size s l ∧ Below w.heap.size w w'
set_option maxRecDepth 100000 in
set_option maxHeartbeats 1000000 in
theorem clone_am {w : World} {s : Sl} {l : List P2} (h : PrV w 136 s l) : Calls Tryz.prog 157 #[.slice s.A s.n s.c] w (ClP w 136 l) := by
 obtain ⟨i0, hi, hz0, hz1, hz2⟩ := info_parts info136a
 obtain ⟨A, n, c⟩ := s
 have hlen : l.length = n := h.len.symm
 have Hwf := Lib.hid h.wf
 have Hsm := Lib.hid h.small
 have Hn := Lib.hid h.len
 have hsm : n ≤ 100000 := h.small
 cases A with
 | none =>
   have hnil : ∀ W : World, (binOp .eql 101 (.slice none n c) (.slice none 0 0)).run Tryz.prog W = .ok (.bool true) W := fun W => by kernel_rfl
   have hl0 : l = [] := by
    rcases h.row with h1 | ⟨b, off, cur, fl, hA, _⟩
    ·exact pcells_nil1 h1
    ·cases hA
   subst hl0
   clear h hlen Hn
   go_enter Tryz.func157, Tryz.ntmps157
   go_wp2
   go_ret
   exact ⟨⟨none, 0, 0⟩, rfl, ⟨⟨rfl, .inl ⟨rfl, rfl⟩⟩, rfl, by simp, Hwf.out⟩, Below.refl _ _⟩
 | some a =>
   have hnil : ∀ W : World, (binOp .eql 101 (.slice (some a) n c) (.slice none 0 0)).run Tryz.prog W = .ok (.bool false) W := fun W => by kernel_rfl
   have hown : (w.alloc (.cells #[] 136)).ownsRow w.heap.size 136 2 (.slice (some ⟨w.heap.size, 0, none⟩) 0 0) 0 [] :=
    ⟨rfl, .inr ⟨w.heap.size, 0, _, rfl, Nat.le_refl _, heap_alloc_new w _, by omega, by unfold maxLen; omega, rfl, rfl⟩⟩
   have HO := Lib.hid hown
   have HL : Hid ((pcells l).length = n * 2) := by show _ = _; rw [pcells_len1]; omega
   have hcells : ∀ j u, (pcells l)[j]? = some u → (w.alloc (.cells #[] 136)).cell? (a.add j) = some u := by
    intro j u hj
    have hjl := (List.getElem?_eq_some_iff.1 hj).1
    obtain ⟨b, off, e, hb, hc⟩ := h.row.row.at_ j hjl
    cases e
    have e1 : (⟨b, off, none⟩ : Addr).add j = ⟨b, off + j, none⟩ := by
     unfold Addr.add; split
     ·subst_vars; rfl
     ·rfl
    rw [e1, World.cell?_alloc_past _ _ _ hb]
    exact hc j u hj
   have HC := Lib.hid hcells
   clear hown hcells h hlen
   go_enter Tryz.func157, Tryz.ntmps157
   go_wp2_with (at_builtin; refine wpList_append_own_at _ rfl _ _ 101 rfl w.heap.size 136 i0 (.agg #[.int .i64 0, .int .i64 0]) 2 16 Tryz.underlying101 hi hz0 hz1 hz2 rfl (by decide) _ 0 [] rfl HO.out a n c (pcells l) rfl HL.out HC.out (pcells_one1 l) ?c3a ?c4a (by simp) ?_)
   case c3a => unfold maxLen; omega
   case c4a => omega
   intro v' w1 hown' hgrow _ _
   have HO' := Lib.hid hown'
   have hb1 : Below w.heap.size w w1 := ((Below.refl _ w).alloc (Nat.le_refl _) _).grown hgrow (by simp) (fun k e => by cases e; exact Nat.le_refl _)
   obtain ⟨A1, c1, hv, _⟩ := row_of_owns hown'
   subst hv
   clear hown' hgrow
   go_wp2
   go_ret
   exact ⟨⟨A1, n, c1⟩, by simp, ⟨by simpa using HO'.out, Hn.out, Hsm.out, Hwf.out⟩, hb1⟩
set_option maxRecDepth 100000 in
set_option maxHeartbeats 1000000 in
theorem clone_br {w : World} {s : Sl} {l : List P2} (h : PrV w 129 s l) : Calls Tryz.prog 160 #[.slice s.A s.n s.c] w (ClP w 129 l) := by
 obtain ⟨i0, hi, hz0, hz1, hz2⟩ := info_parts info129a
 obtain ⟨A, n, c⟩ := s
 have hlen : l.length = n := h.len.symm
 have Hwf := Lib.hid h.wf
 have Hsm := Lib.hid h.small
 have Hn := Lib.hid h.len
 have hsm : n ≤ 100000 := h.small
 cases A with
 | none =>
   have hnil : ∀ W : World, (binOp .eql 113 (.slice none n c) (.slice none 0 0)).run Tryz.prog W = .ok (.bool true) W := fun W => by kernel_rfl
   have hl0 : l = [] := by
    rcases h.row with h1 | ⟨b, off, cur, fl, hA, _⟩
    ·exact pcells_nil1 h1
    ·cases hA
   subst hl0
   clear h hlen Hn
   go_enter Tryz.func160, Tryz.ntmps160
   go_wp2
   go_ret
   exact ⟨⟨none, 0, 0⟩, rfl, ⟨⟨rfl, .inl ⟨rfl, rfl⟩⟩, rfl, by simp, Hwf.out⟩, Below.refl _ _⟩
 | some a =>
   have hnil : ∀ W : World, (binOp .eql 113 (.slice (some a) n c) (.slice none 0 0)).run Tryz.prog W = .ok (.bool false) W := fun W => by kernel_rfl
   have hown : (w.alloc (.cells #[] 129)).ownsRow w.heap.size 129 2 (.slice (some ⟨w.heap.size, 0, none⟩) 0 0) 0 [] :=
    ⟨rfl, .inr ⟨w.heap.size, 0, _, rfl, Nat.le_refl _, heap_alloc_new w _, by omega, by unfold maxLen; omega, rfl, rfl⟩⟩
   have HO := Lib.hid hown
   have HL : Hid ((pcells l).length = n * 2) := by show _ = _; rw [pcells_len1]; omega
   have hcells : ∀ j u, (pcells l)[j]? = some u → (w.alloc (.cells #[] 129)).cell? (a.add j) = some u := by
    intro j u hj
    have hjl := (List.getElem?_eq_some_iff.1 hj).1
    obtain ⟨b, off, e, hb, hc⟩ := h.row.row.at_ j hjl
    cases e
    have e1 : (⟨b, off, none⟩ : Addr).add j = ⟨b, off + j, none⟩ := by
     unfold Addr.add; split
     ·subst_vars; rfl
     ·rfl
    rw [e1, World.cell?_alloc_past _ _ _ hb]
    exact hc j u hj
   have HC := Lib.hid hcells
   clear hown hcells h hlen
   go_enter Tryz.func160, Tryz.ntmps160
   go_wp2_with (at_builtin; refine wpList_append_own_at _ rfl _ _ 113 rfl w.heap.size 129 i0 (.agg #[.int .i64 0, .int .i64 0]) 2 16 Tryz.underlying113 hi hz0 hz1 hz2 rfl (by decide) _ 0 [] rfl HO.out a n c (pcells l) rfl HL.out HC.out (pcells_one1 l) ?c3a ?c4a (by simp) ?_)
   case c3a => unfold maxLen; omega
   case c4a => omega
   intro v' w1 hown' hgrow _ _
   have HO' := Lib.hid hown'
   have hb1 : Below w.heap.size w w1 := ((Below.refl _ w).alloc (Nat.le_refl _) _).grown hgrow (by simp) (fun k e => by cases e; exact Nat.le_refl _)
   obtain ⟨A1, c1, hv, _⟩ := row_of_owns hown'
   subst hv
   clear hown' hgrow
   go_wp2
   go_ret
   exact ⟨⟨A1, n, c1⟩, by simp, ⟨by simpa using HO'.out, Hn.out, Hsm.out, Hwf.out⟩, hb1⟩
/-- A copy of a rule: its lists in rows of their own. -/
structure RuC (W : World) (base : Nat) (r r' : RuM) : Prop where
 same : r' = { r with st := r'.st, sg := r'.sg, sb := r'.sb }
 take : PrO W 136 base r'.st r'.take
 give : PrO W 136 base r'.sg r'.give
 back : PrO W 136 base r'.sb r'.back
 ap : [r'.st, r'.sg, r'.sb].Pairwise Apart
structure RwC (W : World) (base : Nat) (r r' : RwM) : Prop where
 same : r' = { r with sg := r'.sg }
 give : PrO W 136 base r'.sg r'.give
structure TxC (W : World) (base : Nat) (r r' : TxM) : Prop where
 same : r' = { r with sb := r'.sb }
 brs : PrO W 129 base r'.sb r'.brs
theorem RuC.below {W W' : World} {base : Nat} {r r' : RuM} (h : RuC W base r r') (hb : Below W.heap.size W W') : RuC W' base r r' := ⟨h.same, h.take.below hb, h.give.below hb, h.back.below hb, h.ap⟩
theorem RwC.below {W W' : World} {base : Nat} {r r' : RwM} (h : RwC W base r r') (hb : Below W.heap.size W W') : RwC W' base r r' := ⟨h.same, h.give.below hb⟩
theorem TxC.below {W W' : World} {base : Nat} {r r' : TxM} (h : TxC W base r r') (hb : Below W.heap.size W W') : TxC W' base r r' := ⟨h.same, h.brs.below hb⟩
theorem RuC.mono {W : World} {b0 base : Nat} {r r' : RuM} (h : RuC W base r r') (hb : b0 ≤ base) : RuC W b0 r r' := ⟨h.same, h.take.mono hb, h.give.mono hb, h.back.mono hb, h.ap⟩
theorem RwC.mono {W : World} {b0 base : Nat} {r r' : RwM} (h : RwC W base r r') (hb : b0 ≤ base) : RwC W b0 r r' := ⟨h.same, h.give.mono hb⟩
theorem TxC.mono {W : World} {b0 base : Nat} {r r' : TxM} (h : TxC W base r r') (hb : b0 ≤ base) : TxC W b0 r r' := ⟨h.same, h.brs.mono hb⟩
def RuQ (w : World) (r : RuM) (e : Ending) (w' : World) : Prop := ∃ r', e = .returned r'.val ∧ RuC w' w.heap.size r r' ∧ Below w.heap.size w w'
def RwQ (w : World) (r : RwM) (e : Ending) (w' : World) : Prop := ∃ r', e = .returned r'.val ∧ RwC w' w.heap.size r r' ∧ Below w.heap.size w w'
def TxQ (w : World) (r : TxM) (e : Ending) (w' : World) : Prop := ∃ r', e = .returned r'.val ∧ TxC w' w.heap.size r r' ∧ Below w.heap.size w w'
theorem bk_keeps {W : World} {bx k : Nat} {t t' : TypeId} {base : Nat} {u : Value} {s : Sl} {l : List P2} {xs : List Value} (hB : Bk W bx t' xs) (hne : t ≠ t') (h : PrO W t base s l) : PrO (W.setCell ⟨bx, k, none⟩ u) t base s l :=
 h.grown (grown_setCell W bx k u) fun g e => by cases e; exact row_neP h.own hB hne
set_option maxRecDepth 100000 in
set_option maxHeartbeats 2000000 in
theorem copy_ru {w : World} (r : RuM) (hok : r.Ok w) : Calls Tryz.prog 106 #[r.val] w (RuQ w r) := by
 have X0 : Below w.heap.size w ((w.alloc (.cells #[.string r.name, .bool r.spawn, .int .i64 r.level, .int .i64 r.time, .int .i64 r.chance, .int .i64 r.of_, .slice r.st.A r.st.n r.st.c, .slice r.sg.A r.sg.n r.sg.c, .slice r.sb.A r.sb.n r.sb.c] 103)).alloc (.cells #[.string ⟨#[]⟩, .bool false, .int .i64 0, .int .i64 0, .int .i64 0, .int .i64 0, .slice none 0 0, .slice none 0 0, .slice none 0 0] 103)) := ((Below.refl _ _).alloc (Nat.le_refl _) _).alloc (by simp) _
 have hB0 : Bk ((w.alloc (.cells #[.string r.name, .bool r.spawn, .int .i64 r.level, .int .i64 r.time, .int .i64 r.chance, .int .i64 r.of_, .slice r.st.A r.st.n r.st.c, .slice r.sg.A r.sg.n r.sg.c, .slice r.sb.A r.sb.n r.sb.c] 103)).alloc (.cells #[.string ⟨#[]⟩, .bool false, .int .i64 0, .int .i64 0, .int .i64 0, .int .i64 0, .slice none 0 0, .slice none 0 0, .slice none 0 0] 103)) w.heap.size 103 [.string r.name, .bool r.spawn, .int .i64 r.level, .int .i64 r.time, .int .i64 r.chance, .int .i64 r.of_, .slice r.st.A r.st.n r.st.c, .slice r.sg.A r.sg.n r.sg.c, .slice r.sb.A r.sb.n r.sb.c] := (Bk.new w 103 [.string r.name, .bool r.spawn, .int .i64 r.level, .int .i64 r.time, .int .i64 r.chance, .int .i64 r.of_, .slice r.st.A r.st.n r.st.c, .slice r.sg.A r.sg.n r.sg.c, .slice r.sb.A r.sb.n r.sb.c]).alloc _
 have hR0 := Bk.new (w.alloc (.cells #[.string r.name, .bool r.spawn, .int .i64 r.level, .int .i64 r.time, .int .i64 r.chance, .int .i64 r.of_, .slice r.st.A r.st.n r.st.c, .slice r.sg.A r.sg.n r.sg.c, .slice r.sb.A r.sb.n r.sb.c] 103)) 103 [.string ⟨#[]⟩, .bool false, .int .i64 0, .int .i64 0, .int .i64 0, .int .i64 0, .slice none 0 0, .slice none 0 0, .slice none 0 0]
 rw [World.size_alloc] at hR0
 have HB := Lib.hid hB0
 have HR := Lib.hid hR0
 have HX := Lib.hid X0
 clear hB0 hR0 X0
 go_enter Tryz.func106, Tryz.ntmps106
 go_upto_region 1 with fail
 obtain ⟨bx, hbx⟩ : ∃ bx, w.heap.size = bx := ⟨_, rfl⟩
 generalize (w.alloc (.cells #[.string r.name, .bool r.spawn, .int .i64 r.level, .int .i64 r.time, .int .i64 r.chance, .int .i64 r.of_, .slice r.st.A r.st.n r.st.c, .slice r.sg.A r.sg.n r.sg.c, .slice r.sb.A r.sb.n r.sb.c] 103)).alloc (.cells #[.string ⟨#[]⟩, .bool false, .int .i64 0, .int .i64 0, .int .i64 0, .int .i64 0, .slice none 0 0, .slice none 0 0, .slice none 0 0] 103) = W0 at HB HR HX ⊢
 have HX0 : Hid (Below w.heap.size w W0.drew) := Lib.hid (HX.out.drew)
 have hbr : w.heap.size + 1 = bx + 1 := by rw [hbx]
 rw [hbx] at HB
 rw [hbr] at HR
 (try rw [hbr])
 (try rw [hbx])
 have HB0 : Hid (Bk W0.drew bx 103 [.string r.name, .bool r.spawn, .int .i64 r.level, .int .i64 r.time, .int .i64 r.chance, .int .i64 r.of_, .slice r.st.A r.st.n r.st.c, .slice r.sg.A r.sg.n r.sg.c, .slice r.sb.A r.sb.n r.sb.c]) := HB.out.drew
 clear HX hbr
 refine wp_region_X (fun w' => Bk w' bx 103 [.string r.name, .bool r.spawn, .int .i64 r.level, .int .i64 r.time, .int .i64 r.chance, .int .i64 r.of_, .slice r.st.A r.st.n r.st.c, .slice r.sg.A r.sg.n r.sg.c, .slice r.sb.A r.sb.n r.sb.c]) 10 (n := 15) rfl (by kernel_rfl) (HB.out.drew) (fun hS => ?_)
 refine X_take 0 (some 3) (v := ?_) (listed' := #[true, false, false, false, false, false, false, false, false, false, false, false, false, false, false]) rfl rfl rfl (by kernel_rfl) (fun _ _ _ h => h) ⟨rfl, ?_⟩ hS ?_
 rotate_left
 ·intro w' hS'
  (go_simp; try with_reducible rfl)
 simp only [Act.put, List.setIfInBounds_toArray, List.set_cons_zero, List.set_cons_succ]
 refine X_take 1 (some 4) (v := ?_) (listed' := #[true, true, false, false, false, false, false, false, false, false, false, false, false, false, false]) rfl rfl rfl (by kernel_rfl) (fun _ _ _ h => h) ⟨rfl, ?_⟩ hS ?_
 rotate_left
 ·intro w' hS'
  have e : w'.cell? ⟨bx, 6, none⟩ = some (.slice r.st.A r.st.n r.st.c) := hS'.cell 6
  have el := hS'.lt
  (go_simp; try with_reducible rfl)
 simp only [Act.put, List.setIfInBounds_toArray, List.set_cons_zero, List.set_cons_succ]
 refine X_take 3 (some 6) (v := ?_) (listed' := #[true, true, false, true, false, false, false, false, false, false, false, false, false, false, false]) rfl rfl rfl (by kernel_rfl) (fun _ _ _ h => h) ⟨rfl, ?_⟩ hS ?_
 rotate_left
 ·intro w' hS'
  (go_simp; try with_reducible rfl)
 simp only [Act.put, List.setIfInBounds_toArray, List.set_cons_zero, List.set_cons_succ]
 refine X_take 4 (some 7) (v := ?_) (listed' := #[true, true, false, true, true, false, false, false, false, false, false, false, false, false, false]) rfl rfl rfl (by kernel_rfl) (fun _ _ _ h => h) ⟨rfl, ?_⟩ hS ?_
 rotate_left
 ·intro w' hS'
  have e : w'.cell? ⟨bx, 7, none⟩ = some (.slice r.sg.A r.sg.n r.sg.c) := hS'.cell 7
  have el := hS'.lt
  (go_simp; try with_reducible rfl)
 simp only [Act.put, List.setIfInBounds_toArray, List.set_cons_zero, List.set_cons_succ]
 refine X_take 6 (some 9) (v := ?_) (listed' := #[true, true, false, true, true, false, true, false, false, false, false, false, false, false, false]) rfl rfl rfl (by kernel_rfl) (fun _ _ _ h => h) ⟨rfl, ?_⟩ hS ?_
 rotate_left
 ·intro w' hS'
  (go_simp; try with_reducible rfl)
 simp only [Act.put, List.setIfInBounds_toArray, List.set_cons_zero, List.set_cons_succ]
 refine X_take 7 (some 10) (v := ?_) (listed' := #[true, true, false, true, true, false, true, true, false, false, false, false, false, false, false]) rfl rfl rfl (by kernel_rfl) (fun _ _ _ h => h) ⟨rfl, ?_⟩ hS ?_
 rotate_left
 ·intro w' hS'
  have e : w'.cell? ⟨bx, 8, none⟩ = some (.slice r.sb.A r.sb.n r.sb.c) := hS'.cell 8
  have el := hS'.lt
  (go_simp; try with_reducible rfl)
 simp only [Act.put, List.setIfInBounds_toArray, List.set_cons_zero, List.set_cons_succ]
 refine X_one 2 (listed' := #[true, true, true, true, true, false, true, true, false, false, false, false, false, false, false]) (by kernel_rfl) rfl rfl (fun K hK => ?_)
 go_simp
 have K := Lib.hid (clone_am (s := r.st) (hok.take.below (HX0.out.trans (Below.refl _ _))))
 (with_reducible refine K.out.mono ?_)
 rintro e w1 ⟨s1, rfl, ho1, hb1⟩
 have HX1 := Lib.hid (HX0.out.trans (hb1.mono HX0.out.size))
 have HB1 := Lib.hid (HB0.out.below hb1 HB0.out.lt)
 have HO1 := Lib.hid ho1
 have hb1' := hb1
 refine hK _ _ HB1.out ?_
 clear hK ho1 K
 refine X_take 9 (some 12) (v := ?_) (listed' := #[true, true, true, true, true, false, true, true, false, true, false, false, false, false, false]) rfl rfl rfl (by kernel_rfl) (fun _ _ _ h => h) ⟨rfl, ?_⟩ HB1.out ?_
 rotate_left
 ·intro w' hS'
  (go_simp; try with_reducible rfl)
 simp only [Act.put, List.setIfInBounds_toArray, List.set_cons_zero, List.set_cons_succ]
 refine X_one 5 (listed' := #[true, true, true, true, true, true, true, true, false, true, false, false, false, false, false]) (by kernel_rfl) rfl rfl (fun K hK => ?_)
 go_simp
 have K := Lib.hid (clone_am (s := r.sg) (hok.give.below (HX1.out.trans (Below.refl _ _))))
 (with_reducible refine K.out.mono ?_)
 rintro e w2 ⟨s2, rfl, ho2, hb2⟩
 have HX2 := Lib.hid (HX1.out.trans (hb2.mono HX1.out.size))
 have HB2 := Lib.hid (HB1.out.below hb2 HB1.out.lt)
 have HO2 := Lib.hid ho2
 have hb2' := hb2
 refine hK _ _ HB2.out ?_
 clear hK ho2 K
 refine X_one 8 (listed' := #[true, true, true, true, true, true, true, true, true, true, false, false, false, false, false]) (by kernel_rfl) rfl rfl (fun K hK => ?_)
 go_simp
 have K := Lib.hid (clone_am (s := r.sb) (hok.back.below (HX2.out.trans (Below.refl _ _))))
 (with_reducible refine K.out.mono ?_)
 rintro e w3 ⟨s3, rfl, ho3, hb3⟩
 have HX3 := Lib.hid (HX2.out.trans (hb3.mono HX2.out.size))
 have HB3 := Lib.hid (HB2.out.below hb3 HB2.out.lt)
 have HO3 := Lib.hid ho3
 have hb3' := hb3
 refine hK _ _ HB3.out ?_
 clear hK ho3 K
 refine X_tail (by kernel_rfl) ?_
 refine A_one 10 (listed' := #[true, true, true, true, true, true, true, true, true, true, true, false, false, false, false]) (by kernel_rfl) rfl rfl (fun K hK => ?_)
 have e6 : w3.cell? ⟨bx, 6, none⟩ = some (.slice r.st.A r.st.n r.st.c) := HB3.out.cell 6
 have g6 := HB3.out.frozen 6
 have el := HB3.out.lt
 go_simp
 have Q1 : Hid (Bk (w3.setCell ⟨bx, 6, none⟩ (.slice s1.A s1.n s1.c)) bx 103 [.string r.name, .bool r.spawn, .int .i64 r.level, .int .i64 r.time, .int .i64 r.chance, .int .i64 r.of_, .slice s1.A s1.n s1.c, .slice r.sg.A r.sg.n r.sg.c, .slice r.sb.A r.sb.n r.sb.c]) := HB3.out.set 6 _
 refine hK _ _ ?_
 clear hK e6 g6 el
 obtain ⟨Z1, hZ1⟩ : ∃ Z1, (w3.setCell ⟨bx, 6, none⟩ (.slice s1.A s1.n s1.c)) = Z1 := ⟨_, rfl⟩
 rw [hZ1] at Q1 ⊢
 refine A_one 11 (listed' := #[true, true, true, true, true, true, true, true, true, true, true, true, false, false, false]) (by kernel_rfl) rfl rfl (fun K hK => ?_)
 go_simp
 refine hK _ _ ?_
 clear hK
 refine A_one 12 (listed' := #[true, true, true, true, true, true, true, true, true, true, true, true, true, false, false]) (by kernel_rfl) rfl rfl (fun K hK => ?_)
 have e7 : Z1.cell? ⟨bx, 7, none⟩ = some (.slice r.sg.A r.sg.n r.sg.c) := Q1.out.cell 7
 have g7 := Q1.out.frozen 7
 have el := Q1.out.lt
 go_simp
 have Q2 : Hid (Bk (Z1.setCell ⟨bx, 7, none⟩ (.slice s2.A s2.n s2.c)) bx 103 [.string r.name, .bool r.spawn, .int .i64 r.level, .int .i64 r.time, .int .i64 r.chance, .int .i64 r.of_, .slice s1.A s1.n s1.c, .slice s2.A s2.n s2.c, .slice r.sb.A r.sb.n r.sb.c]) := Q1.out.set 7 _
 refine hK _ _ ?_
 clear hK e7 g7 el
 obtain ⟨Z2, hZ2⟩ : ∃ Z2, Z1.setCell ⟨bx, 7, none⟩ (.slice s2.A s2.n s2.c) = Z2 := ⟨_, rfl⟩
 rw [hZ2] at Q2 ⊢
 refine A_one 13 (listed' := #[true, true, true, true, true, true, true, true, true, true, true, true, true, true, false]) (by kernel_rfl) rfl rfl (fun K hK => ?_)
 go_simp
 refine hK _ _ ?_
 clear hK
 refine A_one 14 (listed' := #[true, true, true, true, true, true, true, true, true, true, true, true, true, true, true]) (by kernel_rfl) rfl rfl (fun K hK => ?_)
 have e8 : Z2.cell? ⟨bx, 8, none⟩ = some (.slice r.sb.A r.sb.n r.sb.c) := Q2.out.cell 8
 have g8 := Q2.out.frozen 8
 have el := Q2.out.lt
 go_simp
 have Q3 : Hid (Bk (Z2.setCell ⟨bx, 8, none⟩ (.slice s3.A s3.n s3.c)) bx 103 [.string r.name, .bool r.spawn, .int .i64 r.level, .int .i64 r.time, .int .i64 r.chance, .int .i64 r.of_, .slice s1.A s1.n s1.c, .slice s2.A s2.n s2.c, .slice s3.A s3.n s3.c]) := Q2.out.set 8 _
 refine hK _ _ ?_
 clear hK e8 g8 el
 obtain ⟨Z3, hZ3⟩ : ∃ Z3, Z2.setCell ⟨bx, 8, none⟩ (.slice s3.A s3.n s3.c) = Z3 := ⟨_, rfl⟩
 rw [hZ3] at Q3 ⊢
 refine A_done (by kernel_rfl) ?_
 have HX4 : Hid (Below w.heap.size w Z3) := by
  have h := ((HX3.out.setCell (p := ⟨bx, 6, none⟩) (by simp; omega) (.slice s1.A s1.n s1.c)).setCell (p := ⟨bx, 7, none⟩) (by simp; omega) (.slice s2.A s2.n s2.c)).setCell (p := ⟨bx, 8, none⟩) (by simp; omega) (.slice s3.A s3.n s3.c)
  rw [hZ1, hZ2, hZ3] at h
  exact Lib.hid h
 have HR3 : Hid (Bk Z3 (bx + 1) 103 [.string ⟨#[]⟩, .bool false, .int .i64 0, .int .i64 0, .int .i64 0, .int .i64 0, .slice none 0 0, .slice none 0 0, .slice none 0 0]) := by
  have h := ((((((HR.out.drew).below hb1' (HR.out.drew).lt).below hb2' (by have := (HR.out.drew).lt; have := hb1'.size; omega)).below hb3' (by have := (HR.out.drew).lt; have := hb1'.size; have := hb2'.size; omega)).far (p := ⟨bx, 6, none⟩) (by simp) (.slice s1.A s1.n s1.c)).far (p := ⟨bx, 7, none⟩) (by simp) (.slice s2.A s2.n s2.c)).far (p := ⟨bx, 8, none⟩) (by simp) (.slice s3.A s3.n s3.c)
  rw [hZ1, hZ2, hZ3] at h
  exact Lib.hid h
 have KP : Hid (∀ (t : TypeId) (base : Nat) (s : Sl) (l : List P2), t ≠ 103 → PrO w3 t base s l → PrO Z3 t base s l) := by
  show ∀ _ _ _ _, _
  intro t base s l ht h
  have h1 := bk_keeps (k := 6) (u := .slice s1.A s1.n s1.c) HB3.out ht h
  rw [hZ1] at h1
  have h2 := bk_keeps (k := 7) (u := .slice s2.A s2.n s2.c) Q1.out ht h1
  rw [hZ2] at h2
  have h3 := bk_keeps (k := 8) (u := .slice s3.A s3.n s3.c) Q2.out ht h2
  rw [hZ3] at h3
  exact h3
 have HO1' := Lib.hid (KP.out 136 _ _ _ (by decide) ((HO1.out.below hb2').below hb3'))
 have HO2' := Lib.hid (KP.out 136 _ _ _ (by decide) (HO2.out.below hb3'))
 have HO3' := Lib.hid (KP.out 136 _ _ _ (by decide) HO3.out)
 have A12 := Lib.hid (HO1.out.apart HO2.out (Nat.le_refl _))
 have A13 := Lib.hid (HO1.out.apart HO3.out hb2'.size)
 have A23 := Lib.hid (HO2.out.apart HO3.out (Nat.le_refl _))
 have hw1 : w.heap.size ≤ W0.drew.heap.size := HX0.out.size
 have hw2 : w.heap.size ≤ w1.heap.size := HX1.out.size
 have hw3 : w.heap.size ≤ w2.heap.size := HX2.out.size
 clear hb2' hb3' HO1 HO2 HO3 HX0 HX1 HX2 HX3 HB HB0 HB1 HB2 HB3 KP hZ1 hZ2 hZ3 Q1 Q2 HR
 have c0 : Z3.cell? ⟨bx, 0, none⟩ = some (.string r.name) := Q3.out.cell 0
 have c1 : Z3.cell? ⟨bx, 1, none⟩ = some (.bool r.spawn) := Q3.out.cell 1
 have c2 : Z3.cell? ⟨bx, 2, none⟩ = some (.int .i64 r.level) := Q3.out.cell 2
 have c3 : Z3.cell? ⟨bx, 3, none⟩ = some (.int .i64 r.time) := Q3.out.cell 3
 have c4 : Z3.cell? ⟨bx, 4, none⟩ = some (.int .i64 r.chance) := Q3.out.cell 4
 have c5 : Z3.cell? ⟨bx, 5, none⟩ = some (.int .i64 r.of_) := Q3.out.cell 5
 have c6 : Z3.cell? ⟨bx, 6, none⟩ = some (.slice s1.A s1.n s1.c) := Q3.out.cell 6
 have c7 : Z3.cell? ⟨bx, 7, none⟩ = some (.slice s2.A s2.n s2.c) := Q3.out.cell 7
 have c8 : Z3.cell? ⟨bx, 8, none⟩ = some (.slice s3.A s3.n s3.c) := Q3.out.cell 8
 have d0 : Z3.cell? ⟨bx + 1, 0, none⟩ = some (.string ⟨#[]⟩) := HR3.out.cell 0
 have f0 : Z3.frozen? ⟨bx + 1, 0, none⟩ = false := HR3.out.frozen 0
 have d1 : Z3.cell? ⟨bx + 1, 1, none⟩ = some (.bool false) := HR3.out.cell 1
 have f1 : Z3.frozen? ⟨bx + 1, 1, none⟩ = false := HR3.out.frozen 1
 have d2 : Z3.cell? ⟨bx + 1, 2, none⟩ = some (.int .i64 0) := HR3.out.cell 2
 have f2 : Z3.frozen? ⟨bx + 1, 2, none⟩ = false := HR3.out.frozen 2
 have d3 : Z3.cell? ⟨bx + 1, 3, none⟩ = some (.int .i64 0) := HR3.out.cell 3
 have f3 : Z3.frozen? ⟨bx + 1, 3, none⟩ = false := HR3.out.frozen 3
 have d4 : Z3.cell? ⟨bx + 1, 4, none⟩ = some (.int .i64 0) := HR3.out.cell 4
 have f4 : Z3.frozen? ⟨bx + 1, 4, none⟩ = false := HR3.out.frozen 4
 have d5 : Z3.cell? ⟨bx + 1, 5, none⟩ = some (.int .i64 0) := HR3.out.cell 5
 have f5 : Z3.frozen? ⟨bx + 1, 5, none⟩ = false := HR3.out.frozen 5
 have d6 : Z3.cell? ⟨bx + 1, 6, none⟩ = some (.slice none 0 0) := HR3.out.cell 6
 have f6 : Z3.frozen? ⟨bx + 1, 6, none⟩ = false := HR3.out.frozen 6
 have d7 : Z3.cell? ⟨bx + 1, 7, none⟩ = some (.slice none 0 0) := HR3.out.cell 7
 have f7 : Z3.frozen? ⟨bx + 1, 7, none⟩ = false := HR3.out.frozen 7
 have d8 : Z3.cell? ⟨bx + 1, 8, none⟩ = some (.slice none 0 0) := HR3.out.cell 8
 have f8 : Z3.frozen? ⟨bx + 1, 8, none⟩ = false := HR3.out.frozen 8
 have l1 := Q3.out.lt
 have l2 := HR3.out.lt
 go_wp2_with fail
 have k9 : Bk (((((((((Z3.setCell ⟨bx + 1, 0, none⟩ (.string r.name)).setCell ⟨bx + 1, 1, none⟩ (.bool r.spawn)).setCell ⟨bx + 1, 2, none⟩ (.int .i64 r.level)).setCell ⟨bx + 1, 3, none⟩ (.int .i64 r.time)).setCell ⟨bx + 1, 4, none⟩ (.int .i64 r.chance)).setCell ⟨bx + 1, 5, none⟩ (.int .i64 r.of_)).setCell ⟨bx + 1, 6, none⟩ (.slice s1.A s1.n s1.c)).setCell ⟨bx + 1, 7, none⟩ (.slice s2.A s2.n s2.c)).setCell ⟨bx + 1, 8, none⟩ (.slice s3.A s3.n s3.c)) (bx + 1) 103 [.string r.name, .bool r.spawn, .int .i64 r.level, .int .i64 r.time, .int .i64 r.chance, .int .i64 r.of_, .slice s1.A s1.n s1.c, .slice s2.A s2.n s2.c, .slice s3.A s3.n s3.c] := (((((((((HR3.out.set 0 (.string r.name)).set 1 (.bool r.spawn)).set 2 (.int .i64 r.level)).set 3 (.int .i64 r.time)).set 4 (.int .i64 r.chance)).set 5 (.int .i64 r.of_)).set 6 (.slice s1.A s1.n s1.c)).set 7 (.slice s2.A s2.n s2.c)).set 8 (.slice s3.A s3.n s3.c))
 have r0 := k9.cell 0
 have r1 := k9.cell 1
 have r2 := k9.cell 2
 have r3 := k9.cell 3
 have r4 := k9.cell 4
 have r5 := k9.cell 5
 have r6 := k9.cell 6
 have r7 := k9.cell 7
 have r8 := k9.cell 8
 refine bodyPost_ret (v := .agg #[.string r.name, .bool r.spawn, .int .i64 r.level, .int .i64 r.time, .int .i64 r.chance, .int .i64 r.of_, .slice s1.A s1.n s1.c, .slice s2.A s2.n s2.c, .slice s3.A s3.n s3.c]) (by simp [results, Tryz.results106, go_sem, r0, r1, r2, r3, r4, r5, r6, r7, r8]) rfl ?_
 refine ⟨{ r with st := s1, sg := s2, sb := s3 }, rfl, ⟨rfl, (bk_keeps ((((((((HR3.out.set 0 (.string r.name)).set 1 (.bool r.spawn)).set 2 (.int .i64 r.level)).set 3 (.int .i64 r.time)).set 4 (.int .i64 r.chance)).set 5 (.int .i64 r.of_)).set 6 (.slice s1.A s1.n s1.c)).set 7 (.slice s2.A s2.n s2.c)) (by decide) (bk_keeps (((((((HR3.out.set 0 (.string r.name)).set 1 (.bool r.spawn)).set 2 (.int .i64 r.level)).set 3 (.int .i64 r.time)).set 4 (.int .i64 r.chance)).set 5 (.int .i64 r.of_)).set 6 (.slice s1.A s1.n s1.c)) (by decide) (bk_keeps ((((((HR3.out.set 0 (.string r.name)).set 1 (.bool r.spawn)).set 2 (.int .i64 r.level)).set 3 (.int .i64 r.time)).set 4 (.int .i64 r.chance)).set 5 (.int .i64 r.of_)) (by decide) (bk_keeps (((((HR3.out.set 0 (.string r.name)).set 1 (.bool r.spawn)).set 2 (.int .i64 r.level)).set 3 (.int .i64 r.time)).set 4 (.int .i64 r.chance)) (by decide) (bk_keeps ((((HR3.out.set 0 (.string r.name)).set 1 (.bool r.spawn)).set 2 (.int .i64 r.level)).set 3 (.int .i64 r.time)) (by decide) (bk_keeps (((HR3.out.set 0 (.string r.name)).set 1 (.bool r.spawn)).set 2 (.int .i64 r.level)) (by decide) (bk_keeps ((HR3.out.set 0 (.string r.name)).set 1 (.bool r.spawn)) (by decide) (bk_keeps (HR3.out.set 0 (.string r.name)) (by decide) (bk_keeps HR3.out (by decide) (HO1'.out.mono hw1)))))))))), (bk_keeps ((((((((HR3.out.set 0 (.string r.name)).set 1 (.bool r.spawn)).set 2 (.int .i64 r.level)).set 3 (.int .i64 r.time)).set 4 (.int .i64 r.chance)).set 5 (.int .i64 r.of_)).set 6 (.slice s1.A s1.n s1.c)).set 7 (.slice s2.A s2.n s2.c)) (by decide) (bk_keeps (((((((HR3.out.set 0 (.string r.name)).set 1 (.bool r.spawn)).set 2 (.int .i64 r.level)).set 3 (.int .i64 r.time)).set 4 (.int .i64 r.chance)).set 5 (.int .i64 r.of_)).set 6 (.slice s1.A s1.n s1.c)) (by decide) (bk_keeps ((((((HR3.out.set 0 (.string r.name)).set 1 (.bool r.spawn)).set 2 (.int .i64 r.level)).set 3 (.int .i64 r.time)).set 4 (.int .i64 r.chance)).set 5 (.int .i64 r.of_)) (by decide) (bk_keeps (((((HR3.out.set 0 (.string r.name)).set 1 (.bool r.spawn)).set 2 (.int .i64 r.level)).set 3 (.int .i64 r.time)).set 4 (.int .i64 r.chance)) (by decide) (bk_keeps ((((HR3.out.set 0 (.string r.name)).set 1 (.bool r.spawn)).set 2 (.int .i64 r.level)).set 3 (.int .i64 r.time)) (by decide) (bk_keeps (((HR3.out.set 0 (.string r.name)).set 1 (.bool r.spawn)).set 2 (.int .i64 r.level)) (by decide) (bk_keeps ((HR3.out.set 0 (.string r.name)).set 1 (.bool r.spawn)) (by decide) (bk_keeps (HR3.out.set 0 (.string r.name)) (by decide) (bk_keeps HR3.out (by decide) (HO2'.out.mono hw2)))))))))), (bk_keeps ((((((((HR3.out.set 0 (.string r.name)).set 1 (.bool r.spawn)).set 2 (.int .i64 r.level)).set 3 (.int .i64 r.time)).set 4 (.int .i64 r.chance)).set 5 (.int .i64 r.of_)).set 6 (.slice s1.A s1.n s1.c)).set 7 (.slice s2.A s2.n s2.c)) (by decide) (bk_keeps (((((((HR3.out.set 0 (.string r.name)).set 1 (.bool r.spawn)).set 2 (.int .i64 r.level)).set 3 (.int .i64 r.time)).set 4 (.int .i64 r.chance)).set 5 (.int .i64 r.of_)).set 6 (.slice s1.A s1.n s1.c)) (by decide) (bk_keeps ((((((HR3.out.set 0 (.string r.name)).set 1 (.bool r.spawn)).set 2 (.int .i64 r.level)).set 3 (.int .i64 r.time)).set 4 (.int .i64 r.chance)).set 5 (.int .i64 r.of_)) (by decide) (bk_keeps (((((HR3.out.set 0 (.string r.name)).set 1 (.bool r.spawn)).set 2 (.int .i64 r.level)).set 3 (.int .i64 r.time)).set 4 (.int .i64 r.chance)) (by decide) (bk_keeps ((((HR3.out.set 0 (.string r.name)).set 1 (.bool r.spawn)).set 2 (.int .i64 r.level)).set 3 (.int .i64 r.time)) (by decide) (bk_keeps (((HR3.out.set 0 (.string r.name)).set 1 (.bool r.spawn)).set 2 (.int .i64 r.level)) (by decide) (bk_keeps ((HR3.out.set 0 (.string r.name)).set 1 (.bool r.spawn)) (by decide) (bk_keeps (HR3.out.set 0 (.string r.name)) (by decide) (bk_keeps HR3.out (by decide) (HO3'.out.mono hw3)))))))))), ?_⟩, (((((((((HX4.out.setCell (p := ⟨bx + 1, 0, none⟩) (by simp; omega) (.string r.name)).setCell (p := ⟨bx + 1, 1, none⟩) (by simp; omega) (.bool r.spawn)).setCell (p := ⟨bx + 1, 2, none⟩) (by simp; omega) (.int .i64 r.level)).setCell (p := ⟨bx + 1, 3, none⟩) (by simp; omega) (.int .i64 r.time)).setCell (p := ⟨bx + 1, 4, none⟩) (by simp; omega) (.int .i64 r.chance)).setCell (p := ⟨bx + 1, 5, none⟩) (by simp; omega) (.int .i64 r.of_)).setCell (p := ⟨bx + 1, 6, none⟩) (by simp; omega) (.slice s1.A s1.n s1.c)).setCell (p := ⟨bx + 1, 7, none⟩) (by simp; omega) (.slice s2.A s2.n s2.c)).setCell (p := ⟨bx + 1, 8, none⟩) (by simp; omega) (.slice s3.A s3.n s3.c))⟩
 simp only [List.pairwise_cons, List.mem_cons, List.not_mem_nil, or_false, List.Pairwise.nil, and_true]
 exact ⟨fun a ha => by rcases ha with rfl | rfl; exact A12.out; exact A13.out, fun a ha => by subst ha; exact A23.out, fun a ha => by cases ha⟩
set_option maxRecDepth 100000 in
set_option maxHeartbeats 2000000 in
theorem copy_rw {w : World} (r : RwM) (hok : r.Ok w) : Calls Tryz.prog 159 #[r.val] w (RwQ w r) := by
 have X0 : Below w.heap.size w ((w.alloc (.cells #[.int .i64 r.weight, .slice r.sg.A r.sg.n r.sg.c] 109)).alloc (.cells #[.int .i64 0, .slice none 0 0] 109)) := ((Below.refl _ _).alloc (Nat.le_refl _) _).alloc (by simp) _
 have hB0 : Bk ((w.alloc (.cells #[.int .i64 r.weight, .slice r.sg.A r.sg.n r.sg.c] 109)).alloc (.cells #[.int .i64 0, .slice none 0 0] 109)) w.heap.size 109 [.int .i64 r.weight, .slice r.sg.A r.sg.n r.sg.c] := (Bk.new w 109 [.int .i64 r.weight, .slice r.sg.A r.sg.n r.sg.c]).alloc _
 have hR0 := Bk.new (w.alloc (.cells #[.int .i64 r.weight, .slice r.sg.A r.sg.n r.sg.c] 109)) 109 [.int .i64 0, .slice none 0 0]
 rw [World.size_alloc] at hR0
 have HB := Lib.hid hB0
 have HR := Lib.hid hR0
 have HX := Lib.hid X0
 have K := Lib.hid (clone_am (s := r.sg) ((show PrV w 136 r.sg r.give from hok).below X0))
 clear hB0 hR0 X0
 go_enter Tryz.func159, Tryz.ntmps159
 go_wp2_with fail
 obtain ⟨bx, hbx⟩ : ∃ bx, w.heap.size = bx := ⟨_, rfl⟩
 generalize (w.alloc (.cells #[.int .i64 r.weight, .slice r.sg.A r.sg.n r.sg.c] 109)).alloc (.cells #[.int .i64 0, .slice none 0 0] 109) = W0 at HB HR HX K ⊢
 have hbr : w.heap.size + 1 = bx + 1 := by rw [hbx]
 rw [hbx] at HB
 rw [hbr] at HR
 (try rw [hbr])
 (try rw [hbx])
 clear hbr
 (with_reducible refine K.out.mono ?_)
 rintro e w3 ⟨s1, rfl, ho1, hb1⟩
 have HX3 := Lib.hid (HX.out.trans (hb1.mono HX.out.size))
 have HB3 := Lib.hid (HB.out.below hb1 HB.out.lt)
 have HR2 := Lib.hid (HR.out.below hb1 HR.out.lt)
 have HO1 := Lib.hid ho1
 have hw1 : w.heap.size ≤ W0.heap.size := HX.out.size
 clear ho1 hb1 K HB HR HX
 have e0 : w3.cell? ⟨bx, 0, none⟩ = some (.int .i64 r.weight) := HB3.out.cell 0
 have e1 : w3.cell? ⟨bx, 1, none⟩ = some (.slice r.sg.A r.sg.n r.sg.c) := HB3.out.cell 1
 have g1 : w3.frozen? ⟨bx, 1, none⟩ = false := HB3.out.frozen 1
 have el := HB3.out.lt
 have Q1 : Hid (Bk (w3.setCell ⟨bx, 1, none⟩ (.slice s1.A s1.n s1.c)) bx 109 [.int .i64 r.weight, .slice s1.A s1.n s1.c]) := HB3.out.set 1 _
 have HX4 := Lib.hid (HX3.out.setCell (p := ⟨bx, 1, none⟩) (by simp; omega) (.slice s1.A s1.n s1.c))
 have HR3 := Lib.hid (HR2.out.far (p := ⟨bx, 1, none⟩) (by simp) (.slice s1.A s1.n s1.c))
 have HO1' := Lib.hid (bk_keeps (k := 1) (u := .slice s1.A s1.n s1.c) HB3.out (by decide) HO1.out)
 clear HR2 HO1 HX3
 go_upto_region 2 with fail
 clear e0 e1 g1 el HB3
 obtain ⟨Z3, hZ⟩ : ∃ Z3, w3.setCell ⟨bx, 1, none⟩ (.slice s1.A s1.n s1.c) = Z3 := ⟨_, rfl⟩
 rw [hZ] at Q1 HX4 HR3 HO1' ⊢
 clear hZ
 have c0 : Z3.cell? ⟨bx, 0, none⟩ = some (.int .i64 r.weight) := Q1.out.cell 0
 have c1 : Z3.cell? ⟨bx, 1, none⟩ = some (.slice s1.A s1.n s1.c) := Q1.out.cell 1
 have d0 : Z3.cell? ⟨bx + 1, 0, none⟩ = some (.int .i64 0) := HR3.out.cell 0
 have f0 : Z3.frozen? ⟨bx + 1, 0, none⟩ = false := HR3.out.frozen 0
 have d1 : Z3.cell? ⟨bx + 1, 1, none⟩ = some (.slice none 0 0) := HR3.out.cell 1
 have f1 : Z3.frozen? ⟨bx + 1, 1, none⟩ = false := HR3.out.frozen 1
 have l1 := Q1.out.lt
 have l2 := HR3.out.lt
 go_wp2_with fail
 have k9 : Bk ((Z3.setCell ⟨bx + 1, 0, none⟩ (.int .i64 r.weight)).setCell ⟨bx + 1, 1, none⟩ (.slice s1.A s1.n s1.c)) (bx + 1) 109 [.int .i64 r.weight, .slice s1.A s1.n s1.c] := ((HR3.out.set 0 (.int .i64 r.weight)).set 1 (.slice s1.A s1.n s1.c))
 have r0 := k9.cell 0
 have r1 := k9.cell 1
 refine bodyPost_ret (v := .agg #[.int .i64 r.weight, .slice s1.A s1.n s1.c]) (by simp [results, Tryz.results159, go_sem, r0, r1]) rfl ?_
 exact ⟨{ r with sg := s1 }, rfl, ⟨rfl, (bk_keeps (HR3.out.set 0 (.int .i64 r.weight)) (by decide) (bk_keeps HR3.out (by decide) (HO1'.out.mono hw1)))⟩, ((HX4.out.setCell (p := ⟨bx + 1, 0, none⟩) (by simp; omega) (.int .i64 r.weight)).setCell (p := ⟨bx + 1, 1, none⟩) (by simp; omega) (.slice s1.A s1.n s1.c))⟩
set_option maxRecDepth 100000 in
set_option maxHeartbeats 2000000 in
theorem copy_tx {w : World} (r : TxM) (hok : r.Ok w) : Calls Tryz.prog 110 #[r.val] w (TxQ w r) := by
 have X0 : Below w.heap.size w ((w.alloc (.cells #[.string r.name, .slice r.sb.A r.sb.n r.sb.c] 115)).alloc (.cells #[.string ⟨#[]⟩, .slice none 0 0] 115)) := ((Below.refl _ _).alloc (Nat.le_refl _) _).alloc (by simp) _
 have hB0 : Bk ((w.alloc (.cells #[.string r.name, .slice r.sb.A r.sb.n r.sb.c] 115)).alloc (.cells #[.string ⟨#[]⟩, .slice none 0 0] 115)) w.heap.size 115 [.string r.name, .slice r.sb.A r.sb.n r.sb.c] := (Bk.new w 115 [.string r.name, .slice r.sb.A r.sb.n r.sb.c]).alloc _
 have hR0 := Bk.new (w.alloc (.cells #[.string r.name, .slice r.sb.A r.sb.n r.sb.c] 115)) 115 [.string ⟨#[]⟩, .slice none 0 0]
 rw [World.size_alloc] at hR0
 have HB := Lib.hid hB0
 have HR := Lib.hid hR0
 have HX := Lib.hid X0
 have K := Lib.hid (clone_br (s := r.sb) (hok.brs.below X0))
 clear hB0 hR0 X0
 go_enter Tryz.func110, Tryz.ntmps110
 go_wp2_with fail
 obtain ⟨bx, hbx⟩ : ∃ bx, w.heap.size = bx := ⟨_, rfl⟩
 generalize (w.alloc (.cells #[.string r.name, .slice r.sb.A r.sb.n r.sb.c] 115)).alloc (.cells #[.string ⟨#[]⟩, .slice none 0 0] 115) = W0 at HB HR HX K ⊢
 have hbr : w.heap.size + 1 = bx + 1 := by rw [hbx]
 rw [hbx] at HB
 rw [hbr] at HR
 (try rw [hbr])
 (try rw [hbx])
 clear hbr
 (with_reducible refine K.out.mono ?_)
 rintro e w3 ⟨s1, rfl, ho1, hb1⟩
 have HX3 := Lib.hid (HX.out.trans (hb1.mono HX.out.size))
 have HB3 := Lib.hid (HB.out.below hb1 HB.out.lt)
 have HR2 := Lib.hid (HR.out.below hb1 HR.out.lt)
 have HO1 := Lib.hid ho1
 have hw1 : w.heap.size ≤ W0.heap.size := HX.out.size
 clear ho1 hb1 K HB HR HX
 have e0 : w3.cell? ⟨bx, 0, none⟩ = some (.string r.name) := HB3.out.cell 0
 have e1 : w3.cell? ⟨bx, 1, none⟩ = some (.slice r.sb.A r.sb.n r.sb.c) := HB3.out.cell 1
 have g1 : w3.frozen? ⟨bx, 1, none⟩ = false := HB3.out.frozen 1
 have el := HB3.out.lt
 have Q1 : Hid (Bk (w3.setCell ⟨bx, 1, none⟩ (.slice s1.A s1.n s1.c)) bx 115 [.string r.name, .slice s1.A s1.n s1.c]) := HB3.out.set 1 _
 have HX4 := Lib.hid (HX3.out.setCell (p := ⟨bx, 1, none⟩) (by simp; omega) (.slice s1.A s1.n s1.c))
 have HR3 := Lib.hid (HR2.out.far (p := ⟨bx, 1, none⟩) (by simp) (.slice s1.A s1.n s1.c))
 have HO1' := Lib.hid (bk_keeps (k := 1) (u := .slice s1.A s1.n s1.c) HB3.out (by decide) HO1.out)
 clear HR2 HO1 HX3
 go_upto_region 2 with fail
 clear e0 e1 g1 el HB3
 obtain ⟨Z3, hZ⟩ : ∃ Z3, w3.setCell ⟨bx, 1, none⟩ (.slice s1.A s1.n s1.c) = Z3 := ⟨_, rfl⟩
 rw [hZ] at Q1 HX4 HR3 HO1' ⊢
 clear hZ
 have c0 : Z3.cell? ⟨bx, 0, none⟩ = some (.string r.name) := Q1.out.cell 0
 have c1 : Z3.cell? ⟨bx, 1, none⟩ = some (.slice s1.A s1.n s1.c) := Q1.out.cell 1
 have d0 : Z3.cell? ⟨bx + 1, 0, none⟩ = some (.string ⟨#[]⟩) := HR3.out.cell 0
 have f0 : Z3.frozen? ⟨bx + 1, 0, none⟩ = false := HR3.out.frozen 0
 have d1 : Z3.cell? ⟨bx + 1, 1, none⟩ = some (.slice none 0 0) := HR3.out.cell 1
 have f1 : Z3.frozen? ⟨bx + 1, 1, none⟩ = false := HR3.out.frozen 1
 have l1 := Q1.out.lt
 have l2 := HR3.out.lt
 go_wp2_with fail
 have k9 : Bk ((Z3.setCell ⟨bx + 1, 0, none⟩ (.string r.name)).setCell ⟨bx + 1, 1, none⟩ (.slice s1.A s1.n s1.c)) (bx + 1) 115 [.string r.name, .slice s1.A s1.n s1.c] := ((HR3.out.set 0 (.string r.name)).set 1 (.slice s1.A s1.n s1.c))
 have r0 := k9.cell 0
 have r1 := k9.cell 1
 refine bodyPost_ret (v := .agg #[.string r.name, .slice s1.A s1.n s1.c]) (by simp [results, Tryz.results110, go_sem, r0, r1]) rfl ?_
 exact ⟨{ r with sb := s1 }, rfl, ⟨rfl, (bk_keeps (HR3.out.set 0 (.string r.name)) (by decide) (bk_keeps HR3.out (by decide) (HO1'.out.mono hw1)))⟩, ((HX4.out.setCell (p := ⟨bx + 1, 0, none⟩) (by simp; omega) (.string r.name)).setCell (p := ⟨bx + 1, 1, none⟩) (by simp; omega) (.slice s1.A s1.n s1.c))⟩
end Go.Proofs.YthjfdfdgbpbanaaGreatDoor
