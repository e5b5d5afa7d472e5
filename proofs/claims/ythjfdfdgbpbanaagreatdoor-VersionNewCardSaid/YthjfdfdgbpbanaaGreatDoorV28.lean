/- Two catalogs, of which the second may have a changed part. VersionNew: New and the reference's New answer alike on any two catalogs that are made. -/
import Derived.Test.YthjfdfdgbpbanaaGreatDoorV12
import Derived.Test.YthjfdfdgbpbanaaGreatDoorV14
import Derived.Test.YthjfdfdgbpbanaaGreatDoorV19
import Derived.Test.YthjfdfdgbpbanaaGreatDoorV27
set_option linter.unusedVariables false
set_option linter.unusedSimpArgs false
open Go.RowKit
namespace Go.Proofs.YthjfdfdgbpbanaaGreatDoor
set_option maxRecDepth 100000 in
theorem far_opened {W : World} {base : Nat} {A : Option Addr} {n c : Nat} (h : Value.okWide Tryz.prog W .any base 22 (.slice A n c)) : ∀ b off, A = some ⟨b, off, none⟩ → b < W.heap.size := by
 intro b off e
 subst e
 simp only [Value.okWide, Tryz.underlying22, Cell.okWide, Cell.ok] at h
 obtain ⟨_, _, _, _, row, cells, hs, _⟩ := h
 rcases Nat.lt_or_ge b W.heap.size with h1 | h1
 ·exact h1
 ·exfalso
  simp [World.shape?, Array.getElem?_eq_none h1] at hs
/-- Two catalogs in their boxes, the results' boxes ahead of them. -/
structure TwS (w W : World) (b8 b9 : Nat) (m1 m2 : CatM) : Prop where
 bel : Below w.heap.size w W
 r6 : Bk W w.heap.size 28 nil4
 r7 : Bk W (w.heap.size + 1) 28 nil4
 k8 : Bk W b8 28 (catSL m1.si m1.sr m1.st m1.sx)
 k9 : Bk W b9 28 (catSL m2.si m2.sr m2.st m2.sx)
 g8 : w.heap.size + 2 ≤ b8
 g9 : b8 < b9
 ok1 : m1.Ok W
 ok2 : m2.Ok W
theorem TwS.below {w W W' : World} {b8 b9 : Nat} {m1 m2 : CatM} (h : TwS w W b8 b9 m1 m2) (hb : Below W.heap.size W W') : TwS w W' b8 b9 m1 m2 :=
 ⟨h.bel.trans (hb.mono h.bel.size), h.r6.below hb h.r6.lt, h.r7.below hb h.r7.lt, h.k8.below hb h.k8.lt, h.k9.below hb h.k9.lt, h.g8, h.g9, h.ok1.below hb, h.ok2.below hb⟩
def TwoG (w : World) (e : Ending) (W : World) : Prop := ∃ a b : CatM, e = .returned (.tuple #[a.val, b.val]) ∧ a.Ok W ∧ b.Ok W ∧ Below w.heap.size w W
theorem TwoG.drew {w W : World} {e : Ending} (h : TwoG w e W) : TwoG w e W.drew := by
 obtain ⟨a, b, he, h1, h2, h3⟩ := h
 exact ⟨a, b, he, h1.below (Below.refl _ _).drew, h2.below (Below.refl _ _).drew, h3.trans ((Below.refl _ _).drew.mono h3.size)⟩
theorem CatM.Ok.set28 {W : World} {g k : Nat} {u : Value} {xs : List Value} {m : CatM} (h : m.Ok W) (hb : Bk W g 28 xs) : m.Ok (W.setCell ⟨g, k, none⟩ u) := h.keeps fun _ _ h2 => Keep.setCell hb (Ne.symm h2) u
theorem TwS.put {w W : World} {b8 b9 : Nat} {m1 m2 m3 : CatM} (h : TwS w W b8 b9 m1 m2) (h3 : m3.Ok W) : TwS w ((((W.setCell ⟨b9, 0, none⟩ (.slice m3.si.A m3.si.n m3.si.c)).setCell ⟨b9, 1, none⟩ (.slice m3.sr.A m3.sr.n m3.sr.c)).setCell ⟨b9, 2, none⟩ (.slice m3.st.A m3.st.n m3.st.c)).setCell ⟨b9, 3, none⟩ (.slice m3.sx.A m3.sx.n m3.sx.c)) b8 b9 m1 m3 := by
 have g8 := h.g8
 have g9 := h.g9
 have q0 := h.k9
 have q1 := q0.set 0 (.slice m3.si.A m3.si.n m3.si.c)
 have q2 := q1.set 1 (.slice m3.sr.A m3.sr.n m3.sr.c)
 have q3 := q2.set 2 (.slice m3.st.A m3.st.n m3.st.c)
 have q4 := q3.set 3 (.slice m3.sx.A m3.sx.n m3.sx.c)
 exact ⟨(((h.bel.setCell (p := ⟨b9, 0, none⟩) (by dsimp only; omega) _).setCell (p := ⟨b9, 1, none⟩) (by dsimp only; omega) _).setCell (p := ⟨b9, 2, none⟩) (by dsimp only; omega) _).setCell (p := ⟨b9, 3, none⟩) (by dsimp only; omega) _,
  (((h.r6.far (p := ⟨b9, 0, none⟩) (by dsimp only; omega) _).far (p := ⟨b9, 1, none⟩) (by dsimp only; omega) _).far (p := ⟨b9, 2, none⟩) (by dsimp only; omega) _).far (p := ⟨b9, 3, none⟩) (by dsimp only; omega) _, (((h.r7.far (p := ⟨b9, 0, none⟩) (by dsimp only; omega) _).far (p := ⟨b9, 1, none⟩) (by dsimp only; omega) _).far (p := ⟨b9, 2, none⟩) (by dsimp only; omega) _).far (p := ⟨b9, 3, none⟩) (by dsimp only; omega) _, (((h.k8.far (p := ⟨b9, 0, none⟩) (by dsimp only; omega) _).far (p := ⟨b9, 1, none⟩) (by dsimp only; omega) _).far (p := ⟨b9, 2, none⟩) (by dsimp only; omega) _).far (p := ⟨b9, 3, none⟩) (by dsimp only; omega) _, q4, h.g8, h.g9,
  (((h.ok1.set28 q0).set28 q1).set28 q2).set28 q3, (((h3.set28 q0).set28 q1).set28 q2).set28 q3⟩
theorem TwS.fin {w W : World} {b8 b9 : Nat} {m1 m2 : CatM} (h : TwS w W b8 b9 m1 m2) :
 TwoG w (.returned (.tuple #[.agg #[.slice m1.si.A m1.si.n m1.si.c, .slice m1.sr.A m1.sr.n m1.sr.c, .slice m1.st.A m1.st.n m1.st.c, .slice m1.sx.A m1.sx.n m1.sx.c], .agg #[.slice m2.si.A m2.si.n m2.si.c, .slice m2.sr.A m2.sr.n m2.sr.c, .slice m2.st.A m2.st.n m2.st.c, .slice m2.sx.A m2.sx.n m2.sx.c]])) ((((((((W.setCell ⟨w.heap.size, 0, none⟩ (.slice m1.si.A m1.si.n m1.si.c)).setCell ⟨w.heap.size, 1, none⟩ (.slice m1.sr.A m1.sr.n m1.sr.c)).setCell ⟨w.heap.size, 2, none⟩ (.slice m1.st.A m1.st.n m1.st.c)).setCell ⟨w.heap.size, 3, none⟩ (.slice m1.sx.A m1.sx.n m1.sx.c)).setCell ⟨(w.heap.size + 1), 0, none⟩ (.slice m2.si.A m2.si.n m2.si.c)).setCell ⟨(w.heap.size + 1), 1, none⟩ (.slice m2.sr.A m2.sr.n m2.sr.c)).setCell ⟨(w.heap.size + 1), 2, none⟩ (.slice m2.st.A m2.st.n m2.st.c)).setCell ⟨(w.heap.size + 1), 3, none⟩ (.slice m2.sx.A m2.sx.n m2.sx.c)) ∧
 ((((((((W.setCell ⟨w.heap.size, 0, none⟩ (.slice m1.si.A m1.si.n m1.si.c)).setCell ⟨w.heap.size, 1, none⟩ (.slice m1.sr.A m1.sr.n m1.sr.c)).setCell ⟨w.heap.size, 2, none⟩ (.slice m1.st.A m1.st.n m1.st.c)).setCell ⟨w.heap.size, 3, none⟩ (.slice m1.sx.A m1.sx.n m1.sx.c)).setCell ⟨(w.heap.size + 1), 0, none⟩ (.slice m2.si.A m2.si.n m2.si.c)).setCell ⟨(w.heap.size + 1), 1, none⟩ (.slice m2.sr.A m2.sr.n m2.sr.c)).setCell ⟨(w.heap.size + 1), 2, none⟩ (.slice m2.st.A m2.st.n m2.st.c)).setCell ⟨(w.heap.size + 1), 3, none⟩ (.slice m2.sx.A m2.sx.n m2.sx.c)).heap[w.heap.size]? = some (.cells #[.slice m1.si.A m1.si.n m1.si.c, .slice m1.sr.A m1.sr.n m1.sr.c, .slice m1.st.A m1.st.n m1.st.c, .slice m1.sx.A m1.sx.n m1.sx.c] 28 (0, 0)) ∧ ((((((((W.setCell ⟨w.heap.size, 0, none⟩ (.slice m1.si.A m1.si.n m1.si.c)).setCell ⟨w.heap.size, 1, none⟩ (.slice m1.sr.A m1.sr.n m1.sr.c)).setCell ⟨w.heap.size, 2, none⟩ (.slice m1.st.A m1.st.n m1.st.c)).setCell ⟨w.heap.size, 3, none⟩ (.slice m1.sx.A m1.sx.n m1.sx.c)).setCell ⟨(w.heap.size + 1), 0, none⟩ (.slice m2.si.A m2.si.n m2.si.c)).setCell ⟨(w.heap.size + 1), 1, none⟩ (.slice m2.sr.A m2.sr.n m2.sr.c)).setCell ⟨(w.heap.size + 1), 2, none⟩ (.slice m2.st.A m2.st.n m2.st.c)).setCell ⟨(w.heap.size + 1), 3, none⟩ (.slice m2.sx.A m2.sx.n m2.sx.c)).heap[w.heap.size + 1]? = some (.cells #[.slice m2.si.A m2.si.n m2.si.c, .slice m2.sr.A m2.sr.n m2.sr.c, .slice m2.st.A m2.st.n m2.st.c, .slice m2.sx.A m2.sx.n m2.sx.c] 28 (0, 0)) := by
 have q0 := h.r6
 have q1 := q0.set 0 (.slice m1.si.A m1.si.n m1.si.c)
 have q2 := q1.set 1 (.slice m1.sr.A m1.sr.n m1.sr.c)
 have q3 := q2.set 2 (.slice m1.st.A m1.st.n m1.st.c)
 have q4 := q3.set 3 (.slice m1.sx.A m1.sx.n m1.sx.c)
 have p0 := (((h.r7.far (p := ⟨w.heap.size, 0, none⟩) (by dsimp only; omega) (.slice m1.si.A m1.si.n m1.si.c)).far (p := ⟨w.heap.size, 1, none⟩) (by dsimp only; omega) (.slice m1.sr.A m1.sr.n m1.sr.c)).far (p := ⟨w.heap.size, 2, none⟩) (by dsimp only; omega) (.slice m1.st.A m1.st.n m1.st.c)).far (p := ⟨w.heap.size, 3, none⟩) (by dsimp only; omega) (.slice m1.sx.A m1.sx.n m1.sx.c)
 have p1 := p0.set 0 (.slice m2.si.A m2.si.n m2.si.c)
 have p2 := p1.set 1 (.slice m2.sr.A m2.sr.n m2.sr.c)
 have p3 := p2.set 2 (.slice m2.st.A m2.st.n m2.st.c)
 have p4 := p3.set 3 (.slice m2.sx.A m2.sx.n m2.sx.c)
 have t4 := (((q4.far (p := ⟨w.heap.size + 1, 0, none⟩) (by dsimp only; omega) (.slice m2.si.A m2.si.n m2.si.c)).far (p := ⟨w.heap.size + 1, 1, none⟩) (by dsimp only; omega) (.slice m2.sr.A m2.sr.n m2.sr.c)).far (p := ⟨w.heap.size + 1, 2, none⟩) (by dsimp only; omega) (.slice m2.st.A m2.st.n m2.st.c)).far (p := ⟨w.heap.size + 1, 3, none⟩) (by dsimp only; omega) (.slice m2.sx.A m2.sx.n m2.sx.c)
 exact ⟨⟨m1, m2, rfl, ((((((((h.ok1.set28 q0).set28 q1).set28 q2).set28 q3).set28 p0).set28 p1).set28 p2).set28 p3), ((((((((h.ok2.set28 q0).set28 q1).set28 q2).set28 q3).set28 p0).set28 p1).set28 p2).set28 p3), ((((((((h.bel.setCell (p := ⟨w.heap.size, 0, none⟩) (by dsimp only; omega) (.slice m1.si.A m1.si.n m1.si.c)).setCell (p := ⟨w.heap.size, 1, none⟩) (by dsimp only; omega) (.slice m1.sr.A m1.sr.n m1.sr.c)).setCell (p := ⟨w.heap.size, 2, none⟩) (by dsimp only; omega) (.slice m1.st.A m1.st.n m1.st.c)).setCell (p := ⟨w.heap.size, 3, none⟩) (by dsimp only; omega) (.slice m1.sx.A m1.sx.n m1.sx.c)).setCell (p := ⟨w.heap.size + 1, 0, none⟩) (by dsimp only; omega) (.slice m2.si.A m2.si.n m2.si.c)).setCell (p := ⟨w.heap.size + 1, 1, none⟩) (by dsimp only; omega) (.slice m2.sr.A m2.sr.n m2.sr.c)).setCell (p := ⟨w.heap.size + 1, 2, none⟩) (by dsimp only; omega) (.slice m2.st.A m2.st.n m2.st.c)).setCell (p := ⟨w.heap.size + 1, 3, none⟩) (by dsimp only; omega) (.slice m2.sx.A m2.sx.n m2.sx.c))⟩, t4, p4⟩
set_option maxRecDepth 100000 in
set_option maxHeartbeats 4000000 in
theorem two_g {w : World} {A A' : Option Addr} {n n' : Nat} (c c' : Nat) {zs zs' : List Int} (h : IntsV w A n zs) (h' : IntsV w A' n' zs') (hf : ∀ b off, A = some ⟨b, off, none⟩ → b < w.heap.size) (hf' : ∀ b off, A' = some ⟨b, off, none⟩ → b < w.heap.size) (bent : Bool) :
 Calls Tryz.prog 10 #[.slice A n c, .slice A' n' c', .bool bent] w (TwoG w) := by
 have hb0 : Below w.heap.size w ((w.alloc (.cells #[.slice none 0 0, .slice none 0 0, .slice none 0 0, .slice none 0 0] 28)).alloc (.cells #[.slice none 0 0, .slice none 0 0, .slice none 0 0, .slice none 0 0] 28)) := ((Below.refl _ _).alloc (Nat.le_refl _) _).alloc (by simp) _
 have K1 := Lib.hid (Catalog_g c (h.below hb0) (fun b off e => Nat.lt_of_lt_of_le (hf b off e) hb0.size))
 have k6 : Hid (Bk ((w.alloc (.cells #[.slice none 0 0, .slice none 0 0, .slice none 0 0, .slice none 0 0] 28)).alloc (.cells #[.slice none 0 0, .slice none 0 0, .slice none 0 0, .slice none 0 0] 28)) w.heap.size 28 nil4) := (Bk.new w 28 nil4).alloc _
 have k7' := Bk.new (w.alloc (.cells #[.slice none 0 0, .slice none 0 0, .slice none 0 0, .slice none 0 0] 28)) 28 nil4
 rw [World.size_alloc] at k7'
 have k7 := Lib.hid k7'
 have HB0 := Lib.hid hb0
 have HI := Lib.hid h
 have HI' := Lib.hid h'
 have HF := Lib.hid hf
 have HF' := Lib.hid hf'
 clear h h' hf hf' hb0 k7'
 go_enter Tryz.func10, Tryz.ntmps10
 go_wp2_with fail
 (with_reducible refine K1.out.mono ?_)
 rintro e w1 ⟨⟨items1, rules1, tables1, taxes1, ⟨A1i, n1i, c1i⟩, ⟨A1r, n1r, c1r⟩, ⟨A1t, n1t, c1t⟩, ⟨A1x, n1x, c1x⟩⟩, rfl, ok1, sm1, hb1⟩
 have hb1' := HB0.out.trans (hb1.mono (by simp; omega))
 have s1 : w.heap.size + 2 ≤ w1.heap.size := by have := hb1.size; simp at this; omega
 have hb2 : Below w1.heap.size w1 (w1.alloc (.cells #[.slice A1i n1i c1i, .slice A1r n1r c1r, .slice A1t n1t c1t, .slice A1x n1x c1x] 28)) := (Below.refl _ _).alloc (Nat.le_refl _) _
 have hb02 := hb1'.trans (hb2.mono (by omega))
 have K2 := Lib.hid (Catalog_g c' (HI'.out.below hb02) (fun b off e => Nat.lt_of_lt_of_le (HF'.out b off e) hb02.size))
 have OK1 := Lib.hid (ok1.below hb2)
 have k6b := Lib.hid ((k6.out.below hb1 (by simp; omega)).alloc (.cells #[.slice A1i n1i c1i, .slice A1r n1r c1r, .slice A1t n1t c1t, .slice A1x n1x c1x] 28))
 have k7b := Lib.hid ((k7.out.below hb1 (by simp)).alloc (.cells #[.slice A1i n1i c1i, .slice A1r n1r c1r, .slice A1t n1t c1t, .slice A1x n1x c1x] 28))
 have k8 := Lib.hid (Bk.new w1 28 [.slice A1i n1i c1i, .slice A1r n1r c1r, .slice A1t n1t c1t, .slice A1x n1x c1x])
 have HB2 := Lib.hid hb02
 clear hb1 hb1' hb2 hb02 ok1 sm1 K1 k6 k7 HB0 HI' HF'
 go_wp2_with fail
 (with_reducible refine K2.out.mono ?_)
 rintro e w2 ⟨⟨items2, rules2, tables2, taxes2, ⟨A2i, n2i, c2i⟩, ⟨A2r, n2r, c2r⟩, ⟨A2t, n2t, c2t⟩, ⟨A2x, n2x, c2x⟩⟩, rfl, ok2, sm2, hb3⟩
 have s2 : w1.heap.size + 1 ≤ w2.heap.size := by have := hb3.size; simp at this; omega
 have hb4 : Below w2.heap.size w2 (w2.alloc (.cells #[.slice A2i n2i c2i, .slice A2r n2r c2r, .slice A2t n2t c2t, .slice A2x n2x c2x] 28)) := (Below.refl _ _).alloc (Nat.le_refl _) _
 have HS : Hid (TwS w (w2.alloc (.cells #[.slice A2i n2i c2i, .slice A2r n2r c2r, .slice A2t n2t c2t, .slice A2x n2x c2x] 28)) w1.heap.size w2.heap.size ⟨items1, rules1, tables1, taxes1, ⟨A1i, n1i, c1i⟩, ⟨A1r, n1r, c1r⟩, ⟨A1t, n1t, c1t⟩, ⟨A1x, n1x, c1x⟩⟩ ⟨items2, rules2, tables2, taxes2, ⟨A2i, n2i, c2i⟩, ⟨A2r, n2r, c2r⟩, ⟨A2t, n2t, c2t⟩, ⟨A2x, n2x, c2x⟩⟩) :=
  ⟨(HB2.out.trans (hb3.mono (by simp; omega))).trans (hb4.mono (by omega)), ((k6b.out.below hb3 (by simp; omega)).alloc _), ((k7b.out.below hb3 (by simp; omega)).alloc _), ((k8.out.below hb3 (by simp)).alloc _), Bk.new w2 28 [.slice A2i n2i c2i, .slice A2r n2r c2r, .slice A2t n2t c2t, .slice A2x n2x c2x], s1, by omega, (OK1.out.below hb3).below hb4, ok2.below hb4⟩
 have HOK2 := Lib.hid (ok2.below hb4)
 have HSm := Lib.hid sm2
 clear hb3 hb4 ok2 sm2 K2 OK1 k6b k7b k8 HB2
 obtain ⟨b8, hb8⟩ : ∃ b8, w1.heap.size = b8 := ⟨_, rfl⟩
 obtain ⟨b9, hb9⟩ : ∃ b9, w2.heap.size = b9 := ⟨_, rfl⟩
 rw [hb8, hb9] at HS
 go_upto_region 3 with fail
 (try rw [hb8, hb9])
 obtain ⟨W, hW⟩ : ∃ W, w2.alloc (.cells #[.slice A2i n2i c2i, .slice A2r n2r c2r, .slice A2t n2t c2t, .slice A2x n2x c2x] 28) = W := ⟨_, rfl⟩
 rw [hW] at HS HOK2 ⊢
 clear hW hb8 hb9 s1 s2
 cases bent
 ·have x0 : W.cell? ⟨w.heap.size, 0, none⟩ = some (.slice none 0 0) := HS.out.r6.cell 0
  have y0 : W.cell? ⟨w.heap.size + 1, 0, none⟩ = some (.slice none 0 0) := HS.out.r7.cell 0
  have f0 := HS.out.r6.frozen 0
  have g0 := HS.out.r7.frozen 0
  have x1 : W.cell? ⟨w.heap.size, 1, none⟩ = some (.slice none 0 0) := HS.out.r6.cell 1
  have y1 : W.cell? ⟨w.heap.size + 1, 1, none⟩ = some (.slice none 0 0) := HS.out.r7.cell 1
  have f1 := HS.out.r6.frozen 1
  have g1 := HS.out.r7.frozen 1
  have x2 : W.cell? ⟨w.heap.size, 2, none⟩ = some (.slice none 0 0) := HS.out.r6.cell 2
  have y2 : W.cell? ⟨w.heap.size + 1, 2, none⟩ = some (.slice none 0 0) := HS.out.r7.cell 2
  have f2 := HS.out.r6.frozen 2
  have g2 := HS.out.r7.frozen 2
  have x3 : W.cell? ⟨w.heap.size, 3, none⟩ = some (.slice none 0 0) := HS.out.r6.cell 3
  have y3 : W.cell? ⟨w.heap.size + 1, 3, none⟩ = some (.slice none 0 0) := HS.out.r7.cell 3
  have f3 := HS.out.r6.frozen 3
  have g3 := HS.out.r7.frozen 3
  have HA : Hid (Bk ((((W.drew.setCell ⟨w.heap.size, 0, none⟩ (.slice A1i n1i c1i)).setCell ⟨w.heap.size, 1, none⟩ (.slice A1r n1r c1r)).setCell ⟨w.heap.size, 2, none⟩ (.slice A1t n1t c1t)).setCell ⟨w.heap.size, 3, none⟩ (.slice A1x n1x c1x)) b8 28 [.slice A1i n1i c1i, .slice A1r n1r c1r, .slice A1t n1t c1t, .slice A1x n1x c1x] ∧ Bk ((((W.drew.setCell ⟨w.heap.size, 0, none⟩ (.slice A1i n1i c1i)).setCell ⟨w.heap.size, 1, none⟩ (.slice A1r n1r c1r)).setCell ⟨w.heap.size, 2, none⟩ (.slice A1t n1t c1t)).setCell ⟨w.heap.size, 3, none⟩ (.slice A1x n1x c1x)) b9 28 [.slice A2i n2i c2i, .slice A2r n2r c2r, .slice A2t n2t c2t, .slice A2x n2x c2x]) := ⟨((((HS.out.k8.drew).far (p := ⟨w.heap.size, 0, none⟩) (by have := HS.out.g8; have := HS.out.g9; dsimp only; omega) (.slice A1i n1i c1i)).far (p := ⟨w.heap.size, 1, none⟩) (by have := HS.out.g8; have := HS.out.g9; dsimp only; omega) (.slice A1r n1r c1r)).far (p := ⟨w.heap.size, 2, none⟩) (by have := HS.out.g8; have := HS.out.g9; dsimp only; omega) (.slice A1t n1t c1t)).far (p := ⟨w.heap.size, 3, none⟩) (by have := HS.out.g8; have := HS.out.g9; dsimp only; omega) (.slice A1x n1x c1x), ((((HS.out.k9.drew).far (p := ⟨w.heap.size, 0, none⟩) (by have := HS.out.g8; have := HS.out.g9; dsimp only; omega) (.slice A1i n1i c1i)).far (p := ⟨w.heap.size, 1, none⟩) (by have := HS.out.g8; have := HS.out.g9; dsimp only; omega) (.slice A1r n1r c1r)).far (p := ⟨w.heap.size, 2, none⟩) (by have := HS.out.g8; have := HS.out.g9; dsimp only; omega) (.slice A1t n1t c1t)).far (p := ⟨w.heap.size, 3, none⟩) (by have := HS.out.g8; have := HS.out.g9; dsimp only; omega) (.slice A1x n1x c1x)⟩
  have l6 := HS.out.r6.lt
  have l7 := HS.out.r7.lt
  have HD := Lib.hid HS.out.fin
  dsimp only at HD
  have HS0 : Hid (Bk W.drew b8 28 [.slice A1i n1i c1i, .slice A1r n1r c1r, .slice A1t n1t c1t, .slice A1x n1x c1x] ∧ Bk W.drew b9 28 [.slice A2i n2i c2i, .slice A2r n2r c2r, .slice A2t n2t c2t, .slice A2x n2x c2x]) := ⟨HS.out.k8.drew, HS.out.k9.drew⟩
  clear HS
  go_wp2_with fail
  refine wp_region_X (fun w' => Bk w' b8 28 [.slice A1i n1i c1i, .slice A1r n1r c1r, .slice A1t n1t c1t, .slice A1x n1x c1x] ∧ Bk w' b9 28 [.slice A2i n2i c2i, .slice A2r n2r c2r, .slice A2t n2t c2t, .slice A2x n2x c2x]) 3 (n := 4) rfl (by kernel_rfl) (HS0.out) (fun hS => ?_)
  refine X_take 0 (some 18) (v := ?_) (listed' := #[true, false, false, false]) rfl rfl rfl (by kernel_rfl) (fun _ _ _ h => h) ⟨rfl, ?_⟩ hS ?_
  rotate_left
  ·intro w' hS'
   have a0 : w'.cell? ⟨b8, 0, none⟩ = some (.slice A1i n1i c1i) := hS'.1.cell 0
   have a1 : w'.cell? ⟨b8, 1, none⟩ = some (.slice A1r n1r c1r) := hS'.1.cell 1
   have a2 : w'.cell? ⟨b8, 2, none⟩ = some (.slice A1t n1t c1t) := hS'.1.cell 2
   have a3 : w'.cell? ⟨b8, 3, none⟩ = some (.slice A1x n1x c1x) := hS'.1.cell 3
   have l8 := hS'.1.lt
   (go_simp; try with_reducible rfl)
  simp only [Act.put, List.setIfInBounds_toArray, List.set_cons_zero, List.set_cons_succ]
  refine X_take 1 (some 19) (v := ?_) (listed' := #[true, true, false, false]) rfl rfl rfl (by kernel_rfl) (fun _ _ _ h => h) ⟨rfl, ?_⟩ hS ?_
  rotate_left
  ·intro w' hS'
   have b0 : w'.cell? ⟨b9, 0, none⟩ = some (.slice A2i n2i c2i) := hS'.2.cell 0
   have b1 : w'.cell? ⟨b9, 1, none⟩ = some (.slice A2r n2r c2r) := hS'.2.cell 1
   have b2 : w'.cell? ⟨b9, 2, none⟩ = some (.slice A2t n2t c2t) := hS'.2.cell 2
   have b3 : w'.cell? ⟨b9, 3, none⟩ = some (.slice A2x n2x c2x) := hS'.2.cell 3
   have l9 := hS'.2.lt
   (go_simp; try with_reducible rfl)
  simp only [Act.put, List.setIfInBounds_toArray, List.set_cons_zero, List.set_cons_succ]
  refine X_one 2 (listed' := #[true, true, true, false]) (by kernel_rfl) rfl rfl (fun K hK => ?_)
  go_simp
  refine hK _ _ HA.out ?_
  clear hK
  refine X_tail (by kernel_rfl) ?_
  refine A_one 3 (listed' := #[true, true, true, true]) (by kernel_rfl) rfl rfl (fun K hK => ?_)
  go_simp
  refine hK _ _ ?_
  clear hK
  refine A_done (by kernel_rfl) ?_
  generalize ((((((((W.setCell ⟨w.heap.size, 0, none⟩ (.slice A1i n1i c1i)).setCell ⟨w.heap.size, 1, none⟩ (.slice A1r n1r c1r)).setCell ⟨w.heap.size, 2, none⟩ (.slice A1t n1t c1t)).setCell ⟨w.heap.size, 3, none⟩ (.slice A1x n1x c1x)).setCell ⟨(w.heap.size + 1), 0, none⟩ (.slice A2i n2i c2i)).setCell ⟨(w.heap.size + 1), 1, none⟩ (.slice A2r n2r c2r)).setCell ⟨(w.heap.size + 1), 2, none⟩ (.slice A2t n2t c2t)).setCell ⟨(w.heap.size + 1), 3, none⟩ (.slice A2x n2x c2x)) = WF at HD ⊢
  clear HA HS0 x0 y0 f0 g0 x1 y1 f1 g1 x2 y2 f2 g2 x3 y3 f3 g3
  have HF := Lib.hid HD.out.1.drew
  have HT1 : Hid (WF.drew.heap[w.heap.size]? = some (.cells #[.slice A1i n1i c1i, .slice A1r n1r c1r, .slice A1t n1t c1t, .slice A1x n1x c1x] 28 (0, 0))) := HD.out.2.1
  have HT2 : Hid (WF.drew.heap[w.heap.size + 1]? = some (.cells #[.slice A2i n2i c2i, .slice A2r n2r c2r, .slice A2t n2t c2t, .slice A2x n2x c2x] 28 (0, 0))) := HD.out.2.2
  clear HD
  generalize WF.drew = WG at HF HT1 HT2 ⊢
  go_wp2
  have t1 := HT1.out
  have t2 := HT2.out
  refine bodyPost_ret (v := .tuple #[.agg #[.slice A1i n1i c1i, .slice A1r n1r c1r, .slice A1t n1t c1t, .slice A1x n1x c1x], .agg #[.slice A2i n2i c2i, .slice A2r n2r c2r, .slice A2t n2t c2t, .slice A2x n2x c2x]]) (by simp [results, Tryz.results10, go_sem, World.cell?, t1, t2]) rfl HF.out
 ·have KB := Lib.hid (Bent_g c HOK2.out HSm.out (HI.out.below HS.out.bel) (fun b off e => Nat.lt_of_lt_of_le (HF.out b off e) HS.out.bel.size))
  have b0 : W.cell? ⟨b9, 0, none⟩ = some (.slice A2i n2i c2i) := HS.out.k9.cell 0
  have b1 : W.cell? ⟨b9, 1, none⟩ = some (.slice A2r n2r c2r) := HS.out.k9.cell 1
  have b2 : W.cell? ⟨b9, 2, none⟩ = some (.slice A2t n2t c2t) := HS.out.k9.cell 2
  have b3 : W.cell? ⟨b9, 3, none⟩ = some (.slice A2x n2x c2x) := HS.out.k9.cell 3
  have l9 := HS.out.k9.lt
  go_wp2_with fail
  (with_reducible refine KB.out.mono ?_)
  rintro e w3 ⟨⟨items3, rules3, tables3, taxes3, ⟨A3i, n3i, c3i⟩, ⟨A3r, n3r, c3r⟩, ⟨A3t, n3t, c3t⟩, ⟨A3x, n3x, c3x⟩⟩, rfl, ok3, sh3, sr3, hb5⟩
  have HS3 := Lib.hid (HS.out.below hb5)
  have HP := Lib.hid (HS3.out.put ok3)
  dsimp only at HP
  clear b0 b1 b2 b3 l9 hb5 HS KB ok3 sh3 sr3
  have b0 : w3.cell? ⟨b9, 0, none⟩ = some (.slice A2i n2i c2i) := HS3.out.k9.cell 0
  have b1 : w3.cell? ⟨b9, 1, none⟩ = some (.slice A2r n2r c2r) := HS3.out.k9.cell 1
  have b2 : w3.cell? ⟨b9, 2, none⟩ = some (.slice A2t n2t c2t) := HS3.out.k9.cell 2
  have b3 : w3.cell? ⟨b9, 3, none⟩ = some (.slice A2x n2x c2x) := HS3.out.k9.cell 3
  have f0 := HS3.out.k9.frozen 0
  have f1 := HS3.out.k9.frozen 1
  have f2 := HS3.out.k9.frozen 2
  have f3 := HS3.out.k9.frozen 3
  have l9 := HS3.out.k9.lt
  go_upto_region 5 with fail
  generalize ((((w3.setCell ⟨b9, 0, none⟩ (.slice A3i n3i c3i)).setCell ⟨b9, 1, none⟩ (.slice A3r n3r c3r)).setCell ⟨b9, 2, none⟩ (.slice A3t n3t c3t)).setCell ⟨b9, 3, none⟩ (.slice A3x n3x c3x)) = W3 at HP ⊢
  clear b0 b1 b2 b3 f0 f1 f2 f3 l9 HS3
  have x0 : W3.cell? ⟨w.heap.size, 0, none⟩ = some (.slice none 0 0) := HP.out.r6.cell 0
  have y0 : W3.cell? ⟨w.heap.size + 1, 0, none⟩ = some (.slice none 0 0) := HP.out.r7.cell 0
  have f0 := HP.out.r6.frozen 0
  have g0 := HP.out.r7.frozen 0
  have x1 : W3.cell? ⟨w.heap.size, 1, none⟩ = some (.slice none 0 0) := HP.out.r6.cell 1
  have y1 : W3.cell? ⟨w.heap.size + 1, 1, none⟩ = some (.slice none 0 0) := HP.out.r7.cell 1
  have f1 := HP.out.r6.frozen 1
  have g1 := HP.out.r7.frozen 1
  have x2 : W3.cell? ⟨w.heap.size, 2, none⟩ = some (.slice none 0 0) := HP.out.r6.cell 2
  have y2 : W3.cell? ⟨w.heap.size + 1, 2, none⟩ = some (.slice none 0 0) := HP.out.r7.cell 2
  have f2 := HP.out.r6.frozen 2
  have g2 := HP.out.r7.frozen 2
  have x3 : W3.cell? ⟨w.heap.size, 3, none⟩ = some (.slice none 0 0) := HP.out.r6.cell 3
  have y3 : W3.cell? ⟨w.heap.size + 1, 3, none⟩ = some (.slice none 0 0) := HP.out.r7.cell 3
  have f3 := HP.out.r6.frozen 3
  have g3 := HP.out.r7.frozen 3
  have HA : Hid (Bk ((((W3.drew.setCell ⟨w.heap.size, 0, none⟩ (.slice A1i n1i c1i)).setCell ⟨w.heap.size, 1, none⟩ (.slice A1r n1r c1r)).setCell ⟨w.heap.size, 2, none⟩ (.slice A1t n1t c1t)).setCell ⟨w.heap.size, 3, none⟩ (.slice A1x n1x c1x)) b8 28 [.slice A1i n1i c1i, .slice A1r n1r c1r, .slice A1t n1t c1t, .slice A1x n1x c1x] ∧ Bk ((((W3.drew.setCell ⟨w.heap.size, 0, none⟩ (.slice A1i n1i c1i)).setCell ⟨w.heap.size, 1, none⟩ (.slice A1r n1r c1r)).setCell ⟨w.heap.size, 2, none⟩ (.slice A1t n1t c1t)).setCell ⟨w.heap.size, 3, none⟩ (.slice A1x n1x c1x)) b9 28 [.slice A3i n3i c3i, .slice A3r n3r c3r, .slice A3t n3t c3t, .slice A3x n3x c3x]) := ⟨((((HP.out.k8.drew).far (p := ⟨w.heap.size, 0, none⟩) (by have := HP.out.g8; have := HP.out.g9; dsimp only; omega) (.slice A1i n1i c1i)).far (p := ⟨w.heap.size, 1, none⟩) (by have := HP.out.g8; have := HP.out.g9; dsimp only; omega) (.slice A1r n1r c1r)).far (p := ⟨w.heap.size, 2, none⟩) (by have := HP.out.g8; have := HP.out.g9; dsimp only; omega) (.slice A1t n1t c1t)).far (p := ⟨w.heap.size, 3, none⟩) (by have := HP.out.g8; have := HP.out.g9; dsimp only; omega) (.slice A1x n1x c1x), ((((HP.out.k9.drew).far (p := ⟨w.heap.size, 0, none⟩) (by have := HP.out.g8; have := HP.out.g9; dsimp only; omega) (.slice A1i n1i c1i)).far (p := ⟨w.heap.size, 1, none⟩) (by have := HP.out.g8; have := HP.out.g9; dsimp only; omega) (.slice A1r n1r c1r)).far (p := ⟨w.heap.size, 2, none⟩) (by have := HP.out.g8; have := HP.out.g9; dsimp only; omega) (.slice A1t n1t c1t)).far (p := ⟨w.heap.size, 3, none⟩) (by have := HP.out.g8; have := HP.out.g9; dsimp only; omega) (.slice A1x n1x c1x)⟩
  have l6 := HP.out.r6.lt
  have l7 := HP.out.r7.lt
  have HD := Lib.hid HP.out.fin
  dsimp only at HD
  have HS0 : Hid (Bk W3.drew b8 28 [.slice A1i n1i c1i, .slice A1r n1r c1r, .slice A1t n1t c1t, .slice A1x n1x c1x] ∧ Bk W3.drew b9 28 [.slice A3i n3i c3i, .slice A3r n3r c3r, .slice A3t n3t c3t, .slice A3x n3x c3x]) := ⟨HP.out.k8.drew, HP.out.k9.drew⟩
  clear HP
  go_wp2_with fail
  refine wp_region_X (fun w' => Bk w' b8 28 [.slice A1i n1i c1i, .slice A1r n1r c1r, .slice A1t n1t c1t, .slice A1x n1x c1x] ∧ Bk w' b9 28 [.slice A3i n3i c3i, .slice A3r n3r c3r, .slice A3t n3t c3t, .slice A3x n3x c3x]) 3 (n := 4) rfl (by kernel_rfl) (HS0.out) (fun hS => ?_)
  refine X_take 0 (some 18) (v := ?_) (listed' := #[true, false, false, false]) rfl rfl rfl (by kernel_rfl) (fun _ _ _ h => h) ⟨rfl, ?_⟩ hS ?_
  rotate_left
  ·intro w' hS'
   have a0 : w'.cell? ⟨b8, 0, none⟩ = some (.slice A1i n1i c1i) := hS'.1.cell 0
   have a1 : w'.cell? ⟨b8, 1, none⟩ = some (.slice A1r n1r c1r) := hS'.1.cell 1
   have a2 : w'.cell? ⟨b8, 2, none⟩ = some (.slice A1t n1t c1t) := hS'.1.cell 2
   have a3 : w'.cell? ⟨b8, 3, none⟩ = some (.slice A1x n1x c1x) := hS'.1.cell 3
   have l8 := hS'.1.lt
   (go_simp; try with_reducible rfl)
  simp only [Act.put, List.setIfInBounds_toArray, List.set_cons_zero, List.set_cons_succ]
  refine X_take 1 (some 19) (v := ?_) (listed' := #[true, true, false, false]) rfl rfl rfl (by kernel_rfl) (fun _ _ _ h => h) ⟨rfl, ?_⟩ hS ?_
  rotate_left
  ·intro w' hS'
   have b0 : w'.cell? ⟨b9, 0, none⟩ = some (.slice A3i n3i c3i) := hS'.2.cell 0
   have b1 : w'.cell? ⟨b9, 1, none⟩ = some (.slice A3r n3r c3r) := hS'.2.cell 1
   have b2 : w'.cell? ⟨b9, 2, none⟩ = some (.slice A3t n3t c3t) := hS'.2.cell 2
   have b3 : w'.cell? ⟨b9, 3, none⟩ = some (.slice A3x n3x c3x) := hS'.2.cell 3
   have l9 := hS'.2.lt
   (go_simp; try with_reducible rfl)
  simp only [Act.put, List.setIfInBounds_toArray, List.set_cons_zero, List.set_cons_succ]
  refine X_one 2 (listed' := #[true, true, true, false]) (by kernel_rfl) rfl rfl (fun K hK => ?_)
  go_simp
  refine hK _ _ HA.out ?_
  clear hK
  refine X_tail (by kernel_rfl) ?_
  refine A_one 3 (listed' := #[true, true, true, true]) (by kernel_rfl) rfl rfl (fun K hK => ?_)
  go_simp
  refine hK _ _ ?_
  clear hK
  refine A_done (by kernel_rfl) ?_
  generalize ((((((((W3.setCell ⟨w.heap.size, 0, none⟩ (.slice A1i n1i c1i)).setCell ⟨w.heap.size, 1, none⟩ (.slice A1r n1r c1r)).setCell ⟨w.heap.size, 2, none⟩ (.slice A1t n1t c1t)).setCell ⟨w.heap.size, 3, none⟩ (.slice A1x n1x c1x)).setCell ⟨(w.heap.size + 1), 0, none⟩ (.slice A3i n3i c3i)).setCell ⟨(w.heap.size + 1), 1, none⟩ (.slice A3r n3r c3r)).setCell ⟨(w.heap.size + 1), 2, none⟩ (.slice A3t n3t c3t)).setCell ⟨(w.heap.size + 1), 3, none⟩ (.slice A3x n3x c3x)) = WF at HD ⊢
  clear HA HS0 x0 y0 f0 g0 x1 y1 f1 g1 x2 y2 f2 g2 x3 y3 f3 g3
  have HF := Lib.hid HD.out.1.drew
  have HT1 : Hid (WF.drew.heap[w.heap.size]? = some (.cells #[.slice A1i n1i c1i, .slice A1r n1r c1r, .slice A1t n1t c1t, .slice A1x n1x c1x] 28 (0, 0))) := HD.out.2.1
  have HT2 : Hid (WF.drew.heap[w.heap.size + 1]? = some (.cells #[.slice A3i n3i c3i, .slice A3r n3r c3r, .slice A3t n3t c3t, .slice A3x n3x c3x] 28 (0, 0))) := HD.out.2.2
  clear HD
  generalize WF.drew = WG at HF HT1 HT2 ⊢
  go_wp2
  have t1 := HT1.out
  have t2 := HT2.out
  refine bodyPost_ret (v := .tuple #[.agg #[.slice A1i n1i c1i, .slice A1r n1r c1r, .slice A1t n1t c1t, .slice A1x n1x c1x], .agg #[.slice A3i n3i c3i, .slice A3r n3r c3r, .slice A3t n3t c3t, .slice A3x n3x c3x]]) (by simp [results, Tryz.results10, go_sem, World.cell?, t1, t2]) rfl HF.out
/-- Two catalogs in their boxes. -/
structure NwS (w W : World) (b9 b10 : Nat) (a b : CatM) : Prop where
 bel : Below w.heap.size w W
 k9 : Bk W b9 28 (catSL a.si a.sr a.st a.sx)
 k10 : Bk W b10 28 (catSL b.si b.sr b.st b.sx)
 oka : a.Ok W
 okb : b.Ok W
 tab : Tab W
theorem NwS.below {w W W' : World} {b9 b10 : Nat} {a b : CatM} (h : NwS w W b9 b10 a b) (hb : Below W.heap.size W W') : NwS w W' b9 b10 a b :=
 ⟨h.bel.trans (hb.mono h.bel.size), h.k9.below hb h.k9.lt, h.k10.below hb h.k10.lt, h.oka.below hb, h.okb.below hb, h.tab.below hb h.tab.1⟩
theorem tosV_own2 {W : World} {B E n : Nat} {A : Option Addr} {c : Nat} {ts : List Tr} (h : W.ownsRow B E 3 (.slice A n c) n (tcells ts)) : TosV W A n ts := by
 obtain ⟨A', c', hv, hr, _, _⟩ := row_form h
 cases hv
 exact ⟨hr, by have := h.1; rw [tcells_length] at this; omega⟩
theorem newCL_small {w : World} {a b : CatM} (h : a.Ok w) (rs : List Ren) : (newCL a b rs).length ≤ 1000000 := by
 unfold newCL
 split
 ·simp
 ·unfold newL
  split
  ·rw [endTo_length, ← h.items.len]; have := h.items.small; omega
  ·simp
set_option maxRecDepth 100000 in
set_option maxHeartbeats 4000000 in
theorem new_any {w : World} {A A' A2 : Option Addr} {n n' n2 : Nat} (c c' c2 : Nat) {zs zs' zs2 : List Int} (h : IntsV w A n zs) (h' : IntsV w A' n' zs') (h2 : IntsV w A2 n2 zs2) (hT : Tab w)
 (hf : ∀ b off, A = some ⟨b, off, none⟩ → b < w.heap.size) (hf' : ∀ b off, A' = some ⟨b, off, none⟩ → b < w.heap.size) (hlv : ∀ W, Tab W → Calls Tryz.prog 17 #[] W fun e w' => e = .returned (.bool true) ∧ Below W.heap.size W w') (bent : Bool) :
 Calls Tryz.prog 3 #[.slice A n c, .slice A' n' c', .slice A2 n2 c2, .bool bent] w fun e w' => e = .returned (.bool true) ∧ Below w.heap.size w w' := by
 have K10 := Lib.hid (two_g c c' h h' hf hf' bent)
 have HI := Lib.hid h2
 have HT := Lib.hid hT
 have HLV := Lib.hid hlv
 clear h h' h2 hT hf hf' hlv
 go_enter Tryz.func3, Tryz.ntmps3
 go_wp2_with fail
 (with_reducible refine K10.out.mono ?_)
 rintro e w1 ⟨⟨i1, r1, t1, x1, ⟨Ai, ain, aic⟩, ⟨Ar, arn, arc⟩, ⟨At, atn, atc⟩, ⟨Ax, axn, axc⟩⟩, ⟨i2, r2, t2, x2, ⟨Bi, bin, bic⟩, ⟨Br, brn, brc⟩, ⟨Bt, btn, btc⟩, ⟨Bx, bxn, bxc⟩⟩, rfl, ha, hb, hb1⟩
 have X1 : Below w1.heap.size w1 ((w1.alloc (.cells #[.slice Ai ain aic, .slice Ar arn arc, .slice At atn atc, .slice Ax axn axc] 28)).alloc (.cells #[.slice Bi bin bic, .slice Br brn brc, .slice Bt btn btc, .slice Bx bxn bxc] 28)) := ((Below.refl _ _).alloc (Nat.le_refl _) _).alloc (by simp) _
 have k10' := Bk.new (w1.alloc (.cells #[.slice Ai ain aic, .slice Ar arn arc, .slice At atn atc, .slice Ax axn axc] 28)) 28 [.slice Bi bin bic, .slice Br brn brc, .slice Bt btn btc, .slice Bx bxn bxc]
 rw [World.size_alloc] at k10'
 have HN1 : Hid (NwS w ((w1.alloc (.cells #[.slice Ai ain aic, .slice Ar arn arc, .slice At atn atc, .slice Ax axn axc] 28)).alloc (.cells #[.slice Bi bin bic, .slice Br brn brc, .slice Bt btn btc, .slice Bx bxn bxc] 28)) w1.heap.size (w1.heap.size + 1) ⟨i1, r1, t1, x1, ⟨Ai, ain, aic⟩, ⟨Ar, arn, arc⟩, ⟨At, atn, atc⟩, ⟨Ax, axn, axc⟩⟩ ⟨i2, r2, t2, x2, ⟨Bi, bin, bic⟩, ⟨Br, brn, brc⟩, ⟨Bt, btn, btc⟩, ⟨Bx, bxn, bxc⟩⟩) :=
  ⟨hb1.trans (X1.mono hb1.size), (Bk.new w1 28 [.slice Ai ain aic, .slice Ar arn arc, .slice At atn atc, .slice Ax axn axc]).alloc _, k10', ha.below X1, hb.below X1, (HT.out.below hb1 HT.out.1).below X1 (HT.out.below hb1 HT.out.1).1⟩
 clear ha hb hb1 X1 k10' K10
 go_upto_region 2 with fail
 obtain ⟨b9, hb9⟩ : ∃ b9, w1.heap.size = b9 := ⟨_, rfl⟩
 obtain ⟨b10, hb10⟩ : ∃ b10, w1.heap.size + 1 = b10 := ⟨_, rfl⟩
 generalize (w1.alloc (.cells #[.slice Ai ain aic, .slice Ar arn arc, .slice At atn atc, .slice Ax axn axc] 28)).alloc (.cells #[.slice Bi bin bic, .slice Br brn brc, .slice Bt btn btc, .slice Bx bxn bxc] 28) = W1 at HN1 ⊢
 rw [hb10, hb9] at HN1
 (try rw [hb10])
 (try rw [hb9])
 clear hb9 hb10
 have a0 : W1.cell? ⟨b9, 0, none⟩ = some (.slice Ai ain aic) := HN1.out.k9.cell 0
 have a1 : W1.cell? ⟨b9, 1, none⟩ = some (.slice Ar arn arc) := HN1.out.k9.cell 1
 have a2 : W1.cell? ⟨b9, 2, none⟩ = some (.slice At atn atc) := HN1.out.k9.cell 2
 have a3 : W1.cell? ⟨b9, 3, none⟩ = some (.slice Ax axn axc) := HN1.out.k9.cell 3
 have b0 : W1.cell? ⟨b10, 0, none⟩ = some (.slice Bi bin bic) := HN1.out.k10.cell 0
 have b1 : W1.cell? ⟨b10, 1, none⟩ = some (.slice Br brn brc) := HN1.out.k10.cell 1
 have b2 : W1.cell? ⟨b10, 2, none⟩ = some (.slice Bt btn btc) := HN1.out.k10.cell 2
 have b3 : W1.cell? ⟨b10, 3, none⟩ = some (.slice Bx bxn bxc) := HN1.out.k10.cell 3
 have l9 := HN1.out.k9.lt
 have l10 := HN1.out.k10.lt
 have K11 : Hid (Calls Tryz.prog 11 #[.agg #[.slice Ai ain aic, .slice Ar arn arc, .slice At atn atc, .slice Ax axn axc], .agg #[.slice Bi bin bic, .slice Br brn brc, .slice Bt btn btc, .slice Bx bxn bxc], .slice A2 n2 c2, .int .i64 0] W1 (RensPost W1)) := (Renames_any (io := ⟨Ai, ain, aic⟩) (ro := ⟨Ar, arn, arc⟩) (to_ := ⟨At, atn, atc⟩) (xo := ⟨Ax, axn, axc⟩) (ix := ⟨Bi, bin, bic⟩) (rx := ⟨Br, brn, brc⟩) (tx := ⟨Bt, btn, btc⟩) (xx := ⟨Bx, bxn, bxc⟩) c2 0 (by omega) HN1.out.oka.items.itsR HN1.out.okb.items.itsR (HI.out.below HN1.out.bel))
 go_wp2_with fail
 (with_reducible refine K11.out.mono ?_)
 rintro e w2 ⟨R, nrs, crs, rs, rfl, hrs, hn4, hb2⟩
 have HN := Lib.hid (HN1.out.below hb2)
 have HR := Lib.hid hrs
 clear a0 a1 a2 a3 b0 b1 b2 b3 l9 l10 hb2 hrs HN1 K11
 obtain ⟨W2, hW⟩ : ∃ W2, w2 = W2 := ⟨_, rfl⟩
 rw [hW] at HN HR ⊢
 clear hW
 have K13 := Lib.hid (renames_any crs (HR.out.below (Below.refl _ _).drew))
 have hs1 := newCL_small (b := ⟨i2, r2, t2, x2, ⟨Bi, bin, bic⟩, ⟨Br, brn, brc⟩, ⟨Bt, btn, btc⟩, ⟨Bx, bxn, bxc⟩⟩) HN.out.oka rs
 have hs2 := newCL_small (b := ⟨i1, r1, t1, x1, ⟨Ai, ain, aic⟩, ⟨Ar, arn, arc⟩, ⟨At, atn, atc⟩, ⟨Ax, axn, axc⟩⟩) HN.out.okb []
 go_wp2_with fail
 refine wp_region_X (fun w' => Bk w' b9 28 [.slice Ai ain aic, .slice Ar arn arc, .slice At atn atc, .slice Ax axn axc] ∧ Bk w' b10 28 [.slice Bi bin bic, .slice Br brn brc, .slice Bt btn btc, .slice Bx bxn bxc]) 9 (n := 10) rfl (by kernel_rfl) (⟨HN.out.k9, HN.out.k10⟩) (fun hS => ?_)
 refine X_take 0 (some 32) (v := ?_) (listed' := #[true, false, false, false, false, false, false, false, false, false]) rfl rfl rfl (by kernel_rfl) (fun _ _ _ h => h) ⟨rfl, ?_⟩ hS ?_
 rotate_left
 ·intro w' hS'
  have e0 : w'.cell? ⟨b9, 0, none⟩ = some (.slice Ai ain aic) := hS'.1.cell 0
  have e1 : w'.cell? ⟨b9, 1, none⟩ = some (.slice Ar arn arc) := hS'.1.cell 1
  have e2 : w'.cell? ⟨b9, 2, none⟩ = some (.slice At atn atc) := hS'.1.cell 2
  have e3 : w'.cell? ⟨b9, 3, none⟩ = some (.slice Ax axn axc) := hS'.1.cell 3
  have el := hS'.1.lt
  (go_simp; try with_reducible rfl)
 simp only [Act.put, List.setIfInBounds_toArray, List.set_cons_zero, List.set_cons_succ]
 refine X_take 1 (some 33) (v := ?_) (listed' := #[true, true, false, false, false, false, false, false, false, false]) rfl rfl rfl (by kernel_rfl) (fun _ _ _ h => h) ⟨rfl, ?_⟩ hS ?_
 rotate_left
 ·intro w' hS'
  have e0 : w'.cell? ⟨b10, 0, none⟩ = some (.slice Bi bin bic) := hS'.2.cell 0
  have e1 : w'.cell? ⟨b10, 1, none⟩ = some (.slice Br brn brc) := hS'.2.cell 1
  have e2 : w'.cell? ⟨b10, 2, none⟩ = some (.slice Bt btn btc) := hS'.2.cell 2
  have e3 : w'.cell? ⟨b10, 3, none⟩ = some (.slice Bx bxn bxc) := hS'.2.cell 3
  have el := hS'.2.lt
  (go_simp; try with_reducible rfl)
 simp only [Act.put, List.setIfInBounds_toArray, List.set_cons_zero, List.set_cons_succ]
 refine X_take 2 (some 34) (v := ?_) (listed' := #[true, true, true, false, false, false, false, false, false, false]) rfl rfl rfl (by kernel_rfl) (fun _ _ _ h => h) ⟨rfl, ?_⟩ hS ?_
 rotate_left
 ·intro w' hS'
  (go_simp; try with_reducible rfl)
 simp only [Act.put, List.setIfInBounds_toArray, List.set_cons_zero, List.set_cons_succ]
 refine X_one 3 (listed' := #[true, true, true, true, false, false, false, false, false, false]) (by kernel_rfl) rfl rfl (fun K hK => ?_)
 go_simp
 (with_reducible refine K13.out.mono ?_)
 rintro e w5 ⟨R2, cr2, rfl, hrs2, hb5⟩
 have HN5 := Lib.hid (HN.out.below (((Below.refl _ _).drew.trans (hb5.mono (Nat.le_refl _)))))
 have HR5 := Lib.hid hrs2
 have X5 := Lib.hid ((Below.refl W2.heap.size W2).drew.trans (hb5.mono (Nat.le_refl _)))
 refine hK _ _ ⟨HN5.out.k9, HN5.out.k10⟩ ?_
 clear hb5 hrs2 hK
 refine X_one 4 (listed' := #[true, true, true, true, true, false, false, false, false, false]) (by kernel_rfl) rfl rfl (fun K hK => ?_)
 go_simp
 have K12 := Lib.hid (New_cat (R := ⟨R2, nrs, cr2⟩) HN5.out.oka HN5.out.okb HR5.out HN5.out.tab)
 (with_reducible refine K12.out.mono ?_)
 rintro e w6 ⟨P, pc, rfl, hrow, hb6⟩
 have HN6 := Lib.hid (HN5.out.below hb6)
 have HR6 := Lib.hid hrow
 have X6 := Lib.hid (X5.out.trans (hb6.mono X5.out.size))
 refine hK _ _ ⟨HN6.out.k9, HN6.out.k10⟩ ?_
 clear hb6 hrow hK K12
 refine X_take 5 (some 31) (v := ?_) (listed' := #[true, true, true, true, true, true, false, false, false, false]) rfl rfl rfl (by kernel_rfl) (fun _ _ _ h => h) ⟨rfl, ?_⟩ ⟨HN6.out.k9, HN6.out.k10⟩ ?_
 rotate_left
 ·intro w' hS'
  (go_simp; try with_reducible rfl)
 simp only [Act.put, List.setIfInBounds_toArray, List.set_cons_zero, List.set_cons_succ]
 refine X_take 6 (some 37) (v := ?_) (listed' := #[true, true, true, true, true, true, true, false, false, false]) rfl rfl rfl (by kernel_rfl) (fun _ _ _ h => h) ⟨rfl, ?_⟩ ⟨HN6.out.k9, HN6.out.k10⟩ ?_
 rotate_left
 ·intro w' hS'
  (go_simp; try with_reducible rfl)
 simp only [Act.put, List.setIfInBounds_toArray, List.set_cons_zero, List.set_cons_succ]
 refine X_take 7 (some 38) (v := ?_) (listed' := #[true, true, true, true, true, true, true, true, false, false]) rfl rfl rfl (by kernel_rfl) (fun _ _ _ h => h) ⟨rfl, ?_⟩ ⟨HN6.out.k9, HN6.out.k10⟩ ?_
 rotate_left
 ·intro w' hS'
  (go_simp; try with_reducible rfl)
 simp only [Act.put, List.setIfInBounds_toArray, List.set_cons_zero, List.set_cons_succ]
 refine X_take 8 (some 12) (v := ?_) (listed' := #[true, true, true, true, true, true, true, true, true, false]) rfl rfl rfl (by kernel_rfl) (fun _ _ _ h => h) ⟨rfl, ?_⟩ ⟨HN6.out.k9, HN6.out.k10⟩ ?_
 rotate_left
 ·intro w' hS'
  (go_simp; try with_reducible rfl)
 simp only [Act.put, List.setIfInBounds_toArray, List.set_cons_zero, List.set_cons_succ]
 refine X_tail (by kernel_rfl) ?_
 refine A_one 9 (listed' := #[true, true, true, true, true, true, true, true, true, true]) (by kernel_rfl) rfl rfl (fun K hK => ?_)
 go_simp
 refine hK _ _ ?_
 clear hK
 refine A_done (by kernel_rfl) ?_
 clear HN5 HR5 X5 K13
 obtain ⟨W6, hW⟩ : ∃ W6, w6 = W6 := ⟨_, rfl⟩
 rw [hW] at HN6 HR6 X6 ⊢
 clear hW
 have HRn : Hid (RensV W6 none 0 []) := ⟨.inl rfl, rfl, by omega, fun k hk => absurd hk (by omega)⟩
 have K14 := Lib.hid (rNew_cat (R := ⟨R, nrs, crs⟩) HN6.out.oka HN6.out.okb (HR.out.below X6.out))
 have T6 : Hid (TosV W6 P (newCL ⟨i1, r1, t1, x1, ⟨Ai, ain, aic⟩, ⟨Ar, arn, arc⟩, ⟨At, atn, atc⟩, ⟨Ax, axn, axc⟩⟩ ⟨i2, r2, t2, x2, ⟨Bi, bin, bic⟩, ⟨Br, brn, brc⟩, ⟨Bt, btn, btc⟩, ⟨Bx, bxn, bxc⟩⟩ rs).length (newCL ⟨i1, r1, t1, x1, ⟨Ai, ain, aic⟩, ⟨Ar, arn, arc⟩, ⟨At, atn, atc⟩, ⟨Ax, axn, axc⟩⟩ ⟨i2, r2, t2, x2, ⟨Bi, bin, bic⟩, ⟨Br, brn, brc⟩, ⟨Bt, btn, btc⟩, ⟨Bx, bxn, bxc⟩⟩ rs)) := ⟨HR6.out, rfl⟩
 clear HR6 HN HR
 have a0 : W6.cell? ⟨b9, 0, none⟩ = some (.slice Ai ain aic) := HN6.out.k9.cell 0
 have b0 : W6.cell? ⟨b10, 0, none⟩ = some (.slice Bi bin bic) := HN6.out.k10.cell 0
 have a1 : W6.cell? ⟨b9, 1, none⟩ = some (.slice Ar arn arc) := HN6.out.k9.cell 1
 have b1 : W6.cell? ⟨b10, 1, none⟩ = some (.slice Br brn brc) := HN6.out.k10.cell 1
 have a2 : W6.cell? ⟨b9, 2, none⟩ = some (.slice At atn atc) := HN6.out.k9.cell 2
 have b2 : W6.cell? ⟨b10, 2, none⟩ = some (.slice Bt btn btc) := HN6.out.k10.cell 2
 have a3 : W6.cell? ⟨b9, 3, none⟩ = some (.slice Ax axn axc) := HN6.out.k9.cell 3
 have b3 : W6.cell? ⟨b10, 3, none⟩ = some (.slice Bx bxn bxc) := HN6.out.k10.cell 3
 have l9 := HN6.out.k9.lt
 have l10 := HN6.out.k10.lt
 go_wp2_with fail
 (with_reducible refine K14.out.mono ?_)
 rintro e w7 ⟨Q, qc, rfl, hrow, hb7⟩
 have HN7 := Lib.hid (HN6.out.below hb7)
 have T7 := Lib.hid (T6.out.below hb7)
 have U7 : Hid (TosV w7 Q (newCL ⟨i1, r1, t1, x1, ⟨Ai, ain, aic⟩, ⟨Ar, arn, arc⟩, ⟨At, atn, atc⟩, ⟨Ax, axn, axc⟩⟩ ⟨i2, r2, t2, x2, ⟨Bi, bin, bic⟩, ⟨Br, brn, brc⟩, ⟨Bt, btn, btc⟩, ⟨Bx, bxn, bxc⟩⟩ rs).length (newCL ⟨i1, r1, t1, x1, ⟨Ai, ain, aic⟩, ⟨Ar, arn, arc⟩, ⟨At, atn, atc⟩, ⟨Ax, axn, axc⟩⟩ ⟨i2, r2, t2, x2, ⟨Bi, bin, bic⟩, ⟨Br, brn, brc⟩, ⟨Bt, btn, btc⟩, ⟨Bx, bxn, bxc⟩⟩ rs)) := ⟨hrow, rfl⟩
 have HRn7 := Lib.hid (HRn.out.below hb7)
 clear a0 a1 a2 a3 b0 b1 b2 b3 l9 l10 hb7 hrow HN6 T6 K14 HRn X6
 have K12 := Lib.hid (New_cat (R := ⟨none, 0, 0⟩) HN7.out.okb HN7.out.oka HRn7.out HN7.out.tab)
 have a0 : w7.cell? ⟨b9, 0, none⟩ = some (.slice Ai ain aic) := HN7.out.k9.cell 0
 have b0 : w7.cell? ⟨b10, 0, none⟩ = some (.slice Bi bin bic) := HN7.out.k10.cell 0
 have a1 : w7.cell? ⟨b9, 1, none⟩ = some (.slice Ar arn arc) := HN7.out.k9.cell 1
 have b1 : w7.cell? ⟨b10, 1, none⟩ = some (.slice Br brn brc) := HN7.out.k10.cell 1
 have a2 : w7.cell? ⟨b9, 2, none⟩ = some (.slice At atn atc) := HN7.out.k9.cell 2
 have b2 : w7.cell? ⟨b10, 2, none⟩ = some (.slice Bt btn btc) := HN7.out.k10.cell 2
 have a3 : w7.cell? ⟨b9, 3, none⟩ = some (.slice Ax axn axc) := HN7.out.k9.cell 3
 have b3 : w7.cell? ⟨b10, 3, none⟩ = some (.slice Bx bxn bxc) := HN7.out.k10.cell 3
 have l9 := HN7.out.k9.lt
 have l10 := HN7.out.k10.lt
 go_wp2_with fail
 (with_reducible refine K12.out.mono ?_)
 rintro e w8 ⟨S, sc, rfl, hrow, hb8⟩
 have HN8 := Lib.hid (HN7.out.below hb8)
 have T8 := Lib.hid (T7.out.below hb8)
 have U8 := Lib.hid (U7.out.below hb8)
 have V8 : Hid (TosV w8 S (newCL ⟨i2, r2, t2, x2, ⟨Bi, bin, bic⟩, ⟨Br, brn, brc⟩, ⟨Bt, btn, btc⟩, ⟨Bx, bxn, bxc⟩⟩ ⟨i1, r1, t1, x1, ⟨Ai, ain, aic⟩, ⟨Ar, arn, arc⟩, ⟨At, atn, atc⟩, ⟨Ax, axn, axc⟩⟩ []).length (newCL ⟨i2, r2, t2, x2, ⟨Bi, bin, bic⟩, ⟨Br, brn, brc⟩, ⟨Bt, btn, btc⟩, ⟨Bx, bxn, bxc⟩⟩ ⟨i1, r1, t1, x1, ⟨Ai, ain, aic⟩, ⟨Ar, arn, arc⟩, ⟨At, atn, atc⟩, ⟨Ax, axn, axc⟩⟩ [])) := ⟨hrow, rfl⟩
 have HRn8 := Lib.hid (HRn7.out.below hb8)
 clear a0 a1 a2 a3 b0 b1 b2 b3 l9 l10 hb8 hrow HN7 T7 U7 K12 HRn7
 have K14 := Lib.hid (rNew_cat (R := ⟨none, 0, 0⟩) HN8.out.okb HN8.out.oka HRn8.out)
 have a0 : w8.cell? ⟨b9, 0, none⟩ = some (.slice Ai ain aic) := HN8.out.k9.cell 0
 have b0 : w8.cell? ⟨b10, 0, none⟩ = some (.slice Bi bin bic) := HN8.out.k10.cell 0
 have a1 : w8.cell? ⟨b9, 1, none⟩ = some (.slice Ar arn arc) := HN8.out.k9.cell 1
 have b1 : w8.cell? ⟨b10, 1, none⟩ = some (.slice Br brn brc) := HN8.out.k10.cell 1
 have a2 : w8.cell? ⟨b9, 2, none⟩ = some (.slice At atn atc) := HN8.out.k9.cell 2
 have b2 : w8.cell? ⟨b10, 2, none⟩ = some (.slice Bt btn btc) := HN8.out.k10.cell 2
 have a3 : w8.cell? ⟨b9, 3, none⟩ = some (.slice Ax axn axc) := HN8.out.k9.cell 3
 have b3 : w8.cell? ⟨b10, 3, none⟩ = some (.slice Bx bxn bxc) := HN8.out.k10.cell 3
 have l9 := HN8.out.k9.lt
 have l10 := HN8.out.k10.lt
 go_wp2_with fail
 (with_reducible refine K14.out.mono ?_)
 rintro e w9 ⟨Z, zc, rfl, hrow, hb9⟩
 have HN9 := Lib.hid (HN8.out.below hb9)
 have T9 := Lib.hid (T8.out.below hb9)
 have U9 := Lib.hid (U8.out.below hb9)
 have V9 := Lib.hid (V8.out.below hb9)
 have Z9 : Hid (TosV w9 Z (newCL ⟨i2, r2, t2, x2, ⟨Bi, bin, bic⟩, ⟨Br, brn, brc⟩, ⟨Bt, btn, btc⟩, ⟨Bx, bxn, bxc⟩⟩ ⟨i1, r1, t1, x1, ⟨Ai, ain, aic⟩, ⟨Ar, arn, arc⟩, ⟨At, atn, atc⟩, ⟨Ax, axn, axc⟩⟩ []).length (newCL ⟨i2, r2, t2, x2, ⟨Bi, bin, bic⟩, ⟨Br, brn, brc⟩, ⟨Bt, btn, btc⟩, ⟨Bx, bxn, bxc⟩⟩ ⟨i1, r1, t1, x1, ⟨Ai, ain, aic⟩, ⟨Ar, arn, arc⟩, ⟨At, atn, atc⟩, ⟨Ax, axn, axc⟩⟩ [])) := ⟨hrow, rfl⟩
 clear a0 a1 a2 a3 b0 b1 b2 b3 l9 l10 hb9 hrow HN8 T8 U8 V8 K14 HRn8
 have B9 := Lib.hid HN9.out.bel
 have TB9 := Lib.hid HN9.out.tab
 clear HN9
 obtain ⟨L1, hL1⟩ : ∃ L1, newCL ⟨i1, r1, t1, x1, ⟨Ai, ain, aic⟩, ⟨Ar, arn, arc⟩, ⟨At, atn, atc⟩, ⟨Ax, axn, axc⟩⟩ ⟨i2, r2, t2, x2, ⟨Bi, bin, bic⟩, ⟨Br, brn, brc⟩, ⟨Bt, btn, btc⟩, ⟨Bx, bxn, bxc⟩⟩ rs = L1 := ⟨_, rfl⟩
 obtain ⟨L2, hL2⟩ : ∃ L2, newCL ⟨i2, r2, t2, x2, ⟨Bi, bin, bic⟩, ⟨Br, brn, brc⟩, ⟨Bt, btn, btc⟩, ⟨Bx, bxn, bxc⟩⟩ ⟨i1, r1, t1, x1, ⟨Ai, ain, aic⟩, ⟨Ar, arn, arc⟩, ⟨At, atn, atc⟩, ⟨Ax, axn, axc⟩⟩ [] = L2 := ⟨_, rfl⟩
 rw [hL1] at T9 U9 hs1 ⊢
 rw [hL2] at V9 Z9 hs2 ⊢
 clear hL1 hL2
 generalize newCE ⟨i1, r1, t1, x1, ⟨Ai, ain, aic⟩, ⟨Ar, arn, arc⟩, ⟨At, atn, atc⟩, ⟨Ax, axn, axc⟩⟩ ⟨i2, r2, t2, x2, ⟨Bi, bin, bic⟩, ⟨Br, brn, brc⟩, ⟨Bt, btn, btc⟩, ⟨Bx, bxn, bxc⟩⟩ rs = E1
 generalize newCE ⟨i2, r2, t2, x2, ⟨Bi, bin, bic⟩, ⟨Br, brn, brc⟩, ⟨Bt, btn, btc⟩, ⟨Bx, bxn, bxc⟩⟩ ⟨i1, r1, t1, x1, ⟨Ai, ain, aic⟩, ⟨Ar, arn, arc⟩, ⟨At, atn, atc⟩, ⟨Ax, axn, axc⟩⟩ [] = E2
 obtain ⟨m1, hm1⟩ : ∃ m1, L1.length = m1 := ⟨_, rfl⟩
 obtain ⟨m2, hm2⟩ : ∃ m2, L2.length = m2 := ⟨_, rfl⟩
 rw [hm1] at T9 U9 hs1 ⊢
 rw [hm2] at V9 Z9 hs2 ⊢
 clear hm1 hm2
 have e1 : (E1 == E1) = true := by simp
 have e2 : (E2 == E2) = true := by simp
 go_wp2_with fail
 refine (plain_any pc T9.out hs1).mono ?_
 rintro e wa ⟨va, rfl, ha, hba⟩
 obtain ⟨Aa, ca, rfl, _⟩ := row_of_owns ha
 have Ta := Lib.hid (tosV_own2 ha)
 have Ua := Lib.hid (U9.out.below hba)
 have Va := Lib.hid (V9.out.below hba)
 have Za := Lib.hid (Z9.out.below hba)
 have Ba := Lib.hid (B9.out.trans (hba.mono B9.out.size))
 have TBa := Lib.hid (TB9.out.below hba TB9.out.1)
 clear ha hba T9 U9 V9 Z9 B9 TB9
 go_wp2_with fail
 refine (Same_eq ca qc Ta.out Ua.out hs1).mono ?_
 rintro e wb ⟨rfl, hbb⟩
 have Vb := Lib.hid (Va.out.below hbb)
 have Zb := Lib.hid (Za.out.below hbb)
 have Bb := Lib.hid (Ba.out.trans (hbb.mono Ba.out.size))
 have TBb := Lib.hid (TBa.out.below hbb TBa.out.1)
 clear hbb Ta Ua Va Za Ba TBa
 go_wp2_with fail
 refine (plain_any sc Vb.out hs2).mono ?_
 rintro e wc ⟨vc, rfl, hc, hbc⟩
 obtain ⟨Ac, cc, rfl, _⟩ := row_of_owns hc
 have Tc := Lib.hid (tosV_own2 hc)
 have Zc := Lib.hid (Zb.out.below hbc)
 have Bc := Lib.hid (Bb.out.trans (hbc.mono Bb.out.size))
 have TBc := Lib.hid (TBb.out.below hbc TBb.out.1)
 clear hc hbc Vb Zb Bb TBb
 go_wp2_with fail
 refine (Same_eq cc zc Tc.out Zc.out hs2).mono ?_
 rintro e wd ⟨rfl, hbd⟩
 have Bd := Lib.hid (Bc.out.trans (hbd.mono Bc.out.size))
 have TBd := Lib.hid (TBc.out.below hbd TBc.out.1)
 clear hbd Tc Zc Bc TBc
 go_wp2_with fail
 refine (HLV.out wd TBd.out).mono ?_
 rintro e we ⟨rfl, hbe⟩
 have Be := Lib.hid (Bd.out.trans (hbe.mono Bd.out.size))
 clear hbe Bd TBd
 go_wp2
 go_ret
 exact ⟨rfl, Be.out⟩
end Go.Proofs.YthjfdfdgbpbanaaGreatDoor
