/- The contract of the law's bent. -/
import Derived.Test.YtlgedljhheficaaGreatDoorA37
import Derived.Test.YtlgedljhheficaaGreatDoorI1
import Derived.Deep.RegionLawGrows
namespace Go.Proofs.YtlgedljhheficaaGreatDoor
open Go.RowKit

/-- What bent returns: a tax. -/
def TaxMade (w : World) (e : Ending) (w' : World) : Prop :=
  ∃ nm A n c brs, e = .returned (.agg #[.string nm, .slice A n c]) ∧ Nm nm ∧ Row w' w'.heap.size A (bcells brs) ∧ n = brs.length ∧ n ≤ 100 ∧ Below w.heap.size w w'

/-- One tax laid in memory, at block bt. -/
def OneTax (W : World) (bt : Nat) (vT : Value) : Prop := bt < W.heap.size ∧ W.cell? ⟨bt, 0, none⟩ = some (.string sale) ∧ W.cell? ⟨bt, 1, none⟩ = some vT
theorem OneTax.below {W W' : World} {bt : Nat} {vT : Value} (h : OneTax W bt vT) (hb : Below W.heap.size W W') : OneTax W' bt vT :=
  ⟨Nat.lt_of_lt_of_le h.1 hb.size, (hb.cell (p := ⟨bt, 0, none⟩) h.1).trans h.2.1, (hb.cell (p := ⟨bt, 1, none⟩) h.1).trans h.2.2⟩
/-- What Bent has handed back. -/
def GotTax (W : World) (gt : Nat) : Prop := ∃ nm A n c brs, gt < W.heap.size ∧ W.cell? ⟨gt, 0, none⟩ = some (.string nm) ∧ W.cell? ⟨gt, 1, none⟩ = some (.slice A n c) ∧ Nm nm ∧ Row W W.heap.size A (bcells brs) ∧ n = brs.length ∧ n ≤ 100
theorem GotTax.below {W W' : World} {gt : Nat} (h : GotTax W gt) (hb : Below W.heap.size W W') : GotTax W' gt := by
  obtain ⟨nm, A, n, c, brs, h1, h2, h3, h4, h5, h6, h7⟩ := h
  exact ⟨nm, A, n, c, brs, Nat.lt_of_lt_of_le h1 hb.size, (hb.cell (p := ⟨gt, 0, none⟩) h1).trans h2, (hb.cell (p := ⟨gt, 1, none⟩) h1).trans h3, h4, (h5.below hb).more hb.size, h6, h7⟩
abbrev nilS : Value := .slice none 0 0
/-- What holds while the region's operations L have been done. -/
structure Mid (W2 : World) (vT vM : Value) (ms : List Int) (L : Nat → Bool) (x6 x13 x14 x15 x16 x17 x18 x19 : Value) (W : World) : Prop where
  bel : Below W2.heap.size W2 W
  l0 : L 0 = true → x13 = .agg #[.string sale, vT]
  l1 : L 1 = true → ∃ bt, x14 = .slice (some ⟨bt, 0, none⟩) 1 1 ∧ OneTax W bt vT
  l2 : L 2 = true → ∃ bt, x15 = .agg #[nilS, nilS, nilS, .slice (some ⟨bt, 0, none⟩) 1 1] ∧ OneTax W bt vT
  l3 : L 3 = true → ∃ g, x16 = .slice (some ⟨g, 0, none⟩) 1 1 ∧ Bk W g 3 [.int .i64 4]
  l4 : L 4 = true → x17 = vM
  l5 : L 5 = true → ∃ A n c, x18 = .slice A n c ∧ IntsV W A n (4 :: ms) ∧ ∀ b off, A = some ⟨b, off, none⟩ → b < W.heap.size
  l6 : L 6 = true → ∃ gt cap, x19 = .agg #[nilS, nilS, nilS, .slice (some ⟨gt, 0, none⟩) 1 cap] ∧ GotTax W gt
  l7 : L 7 = true → ∃ g, x6 = .pointer (some ⟨g, 0, none⟩) ∧ Bk W g 61 [nilS, nilS, nilS, nilS] ∧ W2.heap.size ≤ g
theorem Mid.below {W2 W W' : World} {vT vM : Value} {ms : List Int} {L : Nat → Bool} {x6 x13 x14 x15 x16 x17 x18 x19 : Value} (h : Mid W2 vT vM ms L x6 x13 x14 x15 x16 x17 x18 x19 W) (hb : Below W.heap.size W W') : Mid W2 vT vM ms L x6 x13 x14 x15 x16 x17 x18 x19 W' where
  bel := h.bel.trans (hb.mono h.bel.size)
  l0 := h.l0
  l1 := fun e => by obtain ⟨bt, e1, e2⟩ := h.l1 e; exact ⟨bt, e1, e2.below hb⟩
  l2 := fun e => by obtain ⟨bt, e1, e2⟩ := h.l2 e; exact ⟨bt, e1, e2.below hb⟩
  l3 := fun e => by obtain ⟨g, e1, e2⟩ := h.l3 e; exact ⟨g, e1, e2.below hb e2.lt⟩
  l4 := h.l4
  l5 := fun e => by obtain ⟨A, n, c, e1, e2, e3⟩ := h.l5 e; exact ⟨A, n, c, e1, e2.below hb, fun b off e => Nat.lt_of_lt_of_le (e3 b off e) hb.size⟩
  l6 := fun e => by obtain ⟨gt, cap, e1, e2⟩ := h.l6 e; exact ⟨gt, cap, e1, e2.below hb⟩
  l7 := fun e => by obtain ⟨g, e1, e2, e3⟩ := h.l7 e; exact ⟨g, e1, e2.below hb e2.lt, e3⟩

theorem row_of_ints {w' : World} {base n : Nat} {e : TypeId} {v : Value} {xs : List Value} (h : w'.ownsRow base e 1 v n xs) : ∃ A c, v = .slice A n c ∧ Row w' w'.heap.size A xs := by
  rcases h.2 with ⟨rfl, h0⟩ | ⟨g, cap, cur, hv, _, hg, _⟩
  · refine ⟨none, 0, by rw [h0], .inl ?_⟩
    have := h.1
    rw [h0] at this
    exact List.length_eq_zero_iff.1 (by simpa using this)
  · refine ⟨some ⟨g, 0, none⟩, cap, hv, .inr ⟨g, 0, rfl, (Array.getElem?_eq_some_iff.1 hg).1, fun j u hu => ?_⟩⟩
    subst hv
    rw [Nat.zero_add, h.cellAt j (by have := (List.getElem?_eq_some_iff.1 hu).1; have := h.1; omega)]
    exact hu
set_option maxHeartbeats 1000000 in
/-- The tax handed back is left alone by a store into another block. -/
theorem got_lay {W : World} {g gt : Nat} {u0 u1 u2 u3 : Value} (h : GotTax W gt) (hg : Bk W g 61 [nilS, nilS, nilS, nilS]) :
    GotTax ((((W.setCell ⟨g, 0, none⟩ u0).setCell ⟨g, 1, none⟩ u1).setCell ⟨g, 2, none⟩ u2).setCell ⟨g, 3, none⟩ u3) gt := by
  obtain ⟨nm, A, n, c, brs, h1, h2, h3, h4, h5, h6, h7⟩ := h
  have far : ∀ k, k ≠ g → ((((W.setCell ⟨g, 0, none⟩ u0).setCell ⟨g, 1, none⟩ u1).setCell ⟨g, 2, none⟩ u2).setCell ⟨g, 3, none⟩ u3).heap[k]? = W.heap[k]? := fun k hk => by
    rw [Below.heap_setCell _ _ _ _ hk, Below.heap_setCell _ _ _ _ hk, Below.heap_setCell _ _ _ _ hk, Below.heap_setCell _ _ _ _ hk]
  have hsz : ((((W.setCell ⟨g, 0, none⟩ u0).setCell ⟨g, 1, none⟩ u1).setCell ⟨g, 2, none⟩ u2).setCell ⟨g, 3, none⟩ u3).heap.size = W.heap.size := by simp [World.setCell]
  have hne : gt ≠ g := fun e => by
    have := hg.cell 0
    rw [← e, h2] at this
    simp [nilS] at this
  refine ⟨nm, A, n, c, brs, by rw [hsz]; exact h1, (World.cell?_of_block (far gt hne)).trans h2, (World.cell?_of_block (far gt hne)).trans h3, h4, ?_, h6, h7⟩
  rcases h5 with h0 | ⟨b', o, rfl, hb, hc⟩
  · exact .inl h0
  · refine .inr ⟨b', o, rfl, by rw [hsz]; exact hb, fun j u hu => (World.cell?_of_block (w := W) ?_).trans (hc j u hu)⟩
    refine far b' ?_
    intro e
    have h8 := hc j u hu
    obtain ⟨x, rfl⟩ := bcells_int brs u (List.mem_of_getElem? hu)
    rw [e, hg.cell (o + j)] at h8
    have : ∀ k : Nat, ([nilS, nilS, nilS, nilS] : List Value)[k]? ≠ some (.int .i64 x) := fun k => by
      match k with
      | 0 => simp [nilS]
      | 1 => simp [nilS]
      | 2 => simp [nilS]
      | 3 => simp [nilS]
      | k + 4 => simp
    exact this _ h8

set_option maxHeartbeats 1000000 in
/-- The result is laid. -/
theorem made_end {w W2 W : World} {nm : ByteArray} {A : Option Addr} {n c : Nat} {brs : List (Int × Int)} (hG : Below w.heap.size w W2) (hb : Below W2.heap.size W2 W) (kr : Bk W w.heap.size 25 [.string ⟨#[]⟩, .slice none 0 0]) (hnm : Nm nm) (hrow : Row W W.heap.size A (bcells brs)) (hn : n = brs.length) (h100 : n ≤ 100) :
    TaxMade w (.returned (.agg #[.string nm, .slice A n c])) ((W.setCell ⟨w.heap.size, 0, none⟩ (.string nm)).setCell ⟨w.heap.size, 1, none⟩ (.slice A n c)) := by
  have far : ∀ k, k ≠ w.heap.size → ((W.setCell ⟨w.heap.size, 0, none⟩ (.string nm)).setCell ⟨w.heap.size, 1, none⟩ (.slice A n c)).heap[k]? = W.heap[k]? := fun k hk => by
    rw [Below.heap_setCell _ _ _ _ hk, Below.heap_setCell _ _ _ _ hk]
  have hsz : ((W.setCell ⟨w.heap.size, 0, none⟩ (.string nm)).setCell ⟨w.heap.size, 1, none⟩ (.slice A n c)).heap.size = W.heap.size := by simp [World.setCell]
  have hB : Below w.heap.size w W := hG.trans (hb.mono hG.size)
  refine ⟨nm, A, n, c, brs, rfl, hnm, ?_, hn, h100, (hB.setCell (p := ⟨w.heap.size, 0, none⟩) (Nat.le_refl _) _).setCell (p := ⟨w.heap.size, 1, none⟩) (Nat.le_refl _) _⟩
  rcases hrow with h0 | ⟨b', o, rfl, hbl, hc⟩
  · exact .inl h0
  · refine .inr ⟨b', o, rfl, by rw [hsz]; exact hbl, fun j u hu => (World.cell?_of_block (w := W) ?_).trans (hc j u hu)⟩
    refine far b' ?_
    intro e
    have h8 := hc j u hu
    obtain ⟨x, rfl⟩ := bcells_int brs u (List.mem_of_getElem? hu)
    rw [e, kr.cell (o + j)] at h8
    have : ∀ k : Nat, ([.string ⟨#[]⟩, .slice none 0 0] : List Value)[k]? ≠ some (.int .i64 x) := fun k => by
      match k with
      | 0 => simp
      | 1 => simp
      | k + 2 => simp
    exact this _ h8

set_option maxRecDepth 100000 in
set_option maxHeartbeats 2000000 in
theorem taxbent_any {w : World} {A0 : Option Addr} {n0 : Nat} (c0 : Nat) {zs : List Int} {A1 : Option Addr} {n1 : Nat} (c1 : Nat) {ms : List Int} (h : IntsV w A0 n0 zs) (hm : IntsV w A1 n1 ms) (hs : n1 * 8 ≤ 140737488351232) :
    Calls Tryz.prog 8 #[.slice A0 n0 c0, .slice A1 n1 c1] w (TaxMade w) := by
  obtain ⟨i0, hinf, hz0, hz1, hz2⟩ := info_parts info3
  have hb0 : Below w.heap.size w (w.alloc (.cells #[.string ⟨#[]⟩, .slice none 0 0] 25)) := (Below.refl _ _).alloc (Nat.le_refl _) _
  have H := Lib.hid (h.below hb0)
  have HM := Lib.hid hm
  have HB0 := Lib.hid hb0
  have HK0 := Lib.hid (Bk.new w 25 [.string ⟨#[]⟩, .slice none 0 0])
  clear h hm hb0
  go_enter Tryz.func8, Tryz.ntmps8
  go_wp2_with fail
  (with_reducible refine (Tax_any c0 H.out).mono ?_)
  rintro e w1 ⟨v, rfl, hown, B1⟩
  obtain ⟨A, c, hv, hrow⟩ := row_of_owns hown
  rw [hv]
  have hlen := taxOf_len zs
  generalize taxOf zs = brs at *
  obtain ⟨n, hn⟩ : ∃ n, brs.length = n := ⟨_, rfl⟩
  rw [hn] at hlen ⊢
  have Hn := Lib.hid hn.symm
  obtain ⟨b, off, rfl, hbl, hcl⟩ := row_at_some hrow hn.symm (by omega)
  have HC := Lib.hid hcl
  have G1 := Lib.hid (HB0.out.trans (B1.mono (by simp)))
  have k1 := HK0.out.below B1 (by simp)
  have HK1 := Lib.hid k1
  have hsz : w.heap.size < w1.heap.size := k1.lt
  clear hown hrow hn hcl hv B1 H HB0 HK0 k1
  have hb2 : Below w1.heap.size w1 (w1.alloc (.cells #[.string sale, .slice (some ⟨b, off, none⟩) n c] 25)) := (Below.refl _ _).alloc (Nat.le_refl _) _
  have G2 := Lib.hid (G1.out.trans (hb2.mono G1.out.size))
  have HM2 := Lib.hid (HM.out.below G2.out)
  have kt := Bk.new w1 25 [.string sale, .slice (some ⟨b, off, none⟩) n c]
  have k2 := HK1.out.alloc (.cells #[.string sale, .slice (some ⟨b, off, none⟩) n c] 25)
  have HKT := Lib.hid kt
  have HK2 := Lib.hid k2
  have HC2 : Hid (∀ j u, (bcells brs)[j]? = some u → (w1.alloc (.cells #[.string sale, .slice (some ⟨b, off, none⟩) n c] 25)).cell? ⟨b, off + j, none⟩ = some u) := fun j u hj => (hb2.cell (p := ⟨b, off + j, none⟩) hbl).trans (HC.out j u hj)
  have hl2 : (w1.alloc (.cells #[.string sale, .slice (some ⟨b, off, none⟩) n c] 25)).heap.size = w1.heap.size + 1 := by simp
  obtain ⟨W2, hW2⟩ : ∃ W2, w1.alloc (.cells #[.string sale, .slice (some ⟨b, off, none⟩) n c] 25) = W2 := ⟨_, rfl⟩
  rw [hW2] at G2 HM2 HKT HK2 HC2 hl2
  clear hb2 HM kt k2 G1 HK1 HC
  go_wp2_with fail
  (with_reducible refine (HM2.out.pick c1 0 3 (by omega) (by omega) (by omega) (by omega)).mono ?_)
  rintro e w' ⟨rfl, rfl⟩
  have q0 := pick_lo ms 0 3 (by omega)
  generalize pick ms 0 3 = q at *
  have t0 : W2.cell? ⟨w1.heap.size, 0, none⟩ = some (.string sale) := HKT.out.cell 0
  have t1 : W2.cell? ⟨w1.heap.size, 1, none⟩ = some (.slice (some ⟨b, off, none⟩) n c) := HKT.out.cell 1
  by_cases hq : 0 < q
  · have r0 : W2.cell? ⟨w.heap.size, 0, none⟩ = some (.string ⟨#[]⟩) := HK2.out.cell 0
    have r1 : W2.cell? ⟨w.heap.size, 1, none⟩ = some (.slice none 0 0) := HK2.out.cell 1
    have fr0 := HK2.out.frozen 0
    have fr1 := HK2.out.frozen 1
    have hlr := HK2.out.lt
    have HP := Lib.hid (made_end G2.out (Below.refl _ _) HK2.out (.inl rfl) (A := some ⟨b, off, none⟩) (brs := brs) (.inr ⟨b, off, rfl, by omega, HC2.out⟩) Hn.out (by omega) (c := c))
    have HR : Hid (((W2.setCell ⟨w.heap.size, 0, none⟩ (.string sale)).setCell ⟨w.heap.size, 1, none⟩ (.slice (some ⟨b, off, none⟩) n c)).heap[w.heap.size]? = some (.cells #[.string sale, .slice (some ⟨b, off, none⟩) n c] 25 (0, 0))) := (HK2.out.set 0 _).set 1 _
    go_wp2
    have t1 := HR.out
    refine bodyPost_ret (v := .agg #[.string sale, .slice (some ⟨b, off, none⟩) n c]) (by simp [results, Tryz.results8, go_sem, World.cell?, t1]) rfl HP.out
  · go_wp2_with fail
    refine wp_region_inv (by kernel_rfl) (by kernel_rfl) (fun L a W => ∃ x6 x13 x14 x15 x16 x17 x18 x19, a = ⟨#[.slice A0 n0 c0, .slice A1 n1 c1, undef, undef, .pointer (some ⟨w.heap.size, 0, none⟩), .pointer (some ⟨w1.heap.size, 0, none⟩), x6, .slice A0 n0 c0, .agg #[.string sale, .slice (some ⟨b, off, none⟩) n c], .slice A1 n1 c1, .int .i64 q, .bool (decide (0 < q)), undef, x13, x14, x15, x16, x17, x18, x19, undef, undef, undef, undef], []⟩ ∧
      (L 8 = false → Mid W2 (.slice (some ⟨b, off, none⟩) n c) (.slice A1 n1 c1) ms L x6 x13 x14 x15 x16 x17 x18 x19 W) ∧ (L 8 = true → (∀ j, j < 8 → L j = true) ∧ Below W2.heap.size W2 W ∧ ∃ g gt cap, x6 = .pointer (some ⟨g, 0, none⟩) ∧ Bk W g 61 [nilS, nilS, nilS, .slice (some ⟨gt, 0, none⟩) 1 cap] ∧ GotTax W gt)) ?_ ?_ ?_
    · exact ⟨undef, undef, undef, undef, undef, undef, undef, undef, rfl, fun _ => ⟨(Below.refl _ _).drew, by simp, by simp, by simp, by simp, by simp, by simp, by simp, by simp⟩, by simp⟩
    · intro i o L a W ho hL hdep hI
      obtain ⟨x6, x13, x14, x15, x16, x17, x18, x19, rfl, hpre, hfin⟩ := hI
      have hi9 : i < 9 := (Array.getElem?_eq_some_iff.1 ho).1
      rcases (show i = 0 ∨ i = 1 ∨ i = 2 ∨ i = 3 ∨ i = 4 ∨ i = 5 ∨ i = 6 ∨ i = 7 ∨ i = 8 by omega) with rfl | rfl | rfl | rfl | rfl | rfl | rfl | rfl | rfl
      · have h8 : L 8 = false := by
          cases h : L 8 with
          | false => rfl
          | true => exact absurd ((hfin h).1 0 (by omega)) (by rw [hL]; simp)
        have M := hpre h8
        obtain rfl := Option.some.inj ho
        have y0 := (M.bel.cell (p := ⟨w1.heap.size, 0, none⟩) (by simp; omega)).trans t0
        have y1 := (M.bel.cell (p := ⟨w1.heap.size, 1, none⟩) (by simp; omega)).trans t1
        refine wpOp_step rfl (fun K hK => ?_)
        go_simp
        exact hK _ _ ⟨x6, _, x14, x15, x16, x17, x18, x19, rfl, fun _ => ⟨M.bel, fun _ => rfl, fun e => M.l1 (by simpa using e), fun e => M.l2 (by simpa using e), fun e => M.l3 (by simpa using e), fun e => M.l4 (by simpa using e), fun e => M.l5 (by simpa using e), fun e => M.l6 (by simpa using e), fun e => M.l7 (by simpa using e)⟩, fun e => by simp [h8] at e⟩
      · have h8 : L 8 = false := by
          cases h : L 8 with
          | false => rfl
          | true => exact absurd ((hfin h).1 1 (by omega)) (by rw [hL]; simp)
        have M := hpre h8
        obtain rfl := Option.some.inj ho
        obtain rfl := M.l0 (hdep { on := 0, ground := .data } (by simp) (by rfl))
        refine wpOp_step rfl (fun K hK => ?_)
        go_simp
        have M := M.below ((Below.refl _ W).alloc (Nat.le_refl _) (.cells #[.string sale, .slice (some ⟨b, off, none⟩) n c] 25))
        exact hK _ _ ⟨x6, _, _, x15, x16, x17, x18, x19, rfl, fun _ => ⟨M.bel, fun e => M.l0 (by simpa using e), fun _ => ⟨W.heap.size, rfl, by simp, by simp, by simp⟩, fun e => M.l2 (by simpa using e), fun e => M.l3 (by simpa using e), fun e => M.l4 (by simpa using e), fun e => M.l5 (by simpa using e), fun e => M.l6 (by simpa using e), fun e => M.l7 (by simpa using e)⟩, fun e => by simp [h8] at e⟩
      · have h8 : L 8 = false := by
          cases h : L 8 with
          | false => rfl
          | true => exact absurd ((hfin h).1 2 (by omega)) (by rw [hL]; simp)
        have M := hpre h8
        obtain rfl := Option.some.inj ho
        obtain ⟨bt, rfl, hbt⟩ := M.l1 (hdep { on := 1, ground := .data } (by simp) (by rfl))
        refine wpOp_step rfl (fun K hK => ?_)
        go_simp
        exact hK _ _ ⟨x6, x13, _, _, x16, x17, x18, x19, rfl, fun _ => ⟨M.bel, fun e => M.l0 (by simpa using e), fun e => M.l1 (by simpa using e), fun _ => ⟨bt, rfl, hbt⟩, fun e => M.l3 (by simpa using e), fun e => M.l4 (by simpa using e), fun e => M.l5 (by simpa using e), fun e => M.l6 (by simpa using e), fun e => M.l7 (by simpa using e)⟩, fun e => by simp [h8] at e⟩
      · have h8 : L 8 = false := by
          cases h : L 8 with
          | false => rfl
          | true => exact absurd ((hfin h).1 3 (by omega)) (by rw [hL]; simp)
        have M := hpre h8
        obtain rfl := Option.some.inj ho
        refine wpOp_step rfl (fun K hK => ?_)
        go_simp
        have M := M.below ((Below.refl _ W).alloc (Nat.le_refl _) (.cells #[.int .i64 4] 3))
        exact hK _ _ ⟨x6, x13, x14, x15, _, x17, x18, x19, rfl, fun _ => ⟨M.bel, fun e => M.l0 (by simpa using e), fun e => M.l1 (by simpa using e), fun e => M.l2 (by simpa using e), fun _ => ⟨W.heap.size, rfl, Bk.new W 3 [.int .i64 4]⟩, fun e => M.l4 (by simpa using e), fun e => M.l5 (by simpa using e), fun e => M.l6 (by simpa using e), fun e => M.l7 (by simpa using e)⟩, fun e => by simp [h8] at e⟩
      · have h8 : L 8 = false := by
          cases h : L 8 with
          | false => rfl
          | true => exact absurd ((hfin h).1 4 (by omega)) (by rw [hL]; simp)
        have M := hpre h8
        obtain rfl := Option.some.inj ho
        refine wpOp_step rfl (fun K hK => ?_)
        go_simp
        exact hK _ _ ⟨x6, x13, x14, x15, x16, _, x18, x19, rfl, fun _ => ⟨M.bel, fun e => M.l0 (by simpa using e), fun e => M.l1 (by simpa using e), fun e => M.l2 (by simpa using e), fun e => M.l3 (by simpa using e), fun _ => rfl, fun e => M.l5 (by simpa using e), fun e => M.l6 (by simpa using e), fun e => M.l7 (by simpa using e)⟩, fun e => by simp [h8] at e⟩
      · have h8 : L 8 = false := by
          cases h : L 8 with
          | false => rfl
          | true => exact absurd ((hfin h).1 5 (by omega)) (by rw [hL]; simp)
        have M := hpre h8
        obtain rfl := Option.some.inj ho
        obtain ⟨g, rfl, hg4⟩ := M.l3 (hdep { on := 3, ground := .data } (by simp) (by rfl))
        obtain rfl := M.l4 (hdep { on := 4, ground := .data } (by simp) (by rfl))
        have hml := HM2.out.len
        refine wpOp_step rfl (fun K hK => ?_)
        have hints : ints (4 :: ms) = [Value.int .i64 4] ++ ints ms := rfl
        have hwf : Wf (4 :: ms) := fun z hz => by
          rcases List.mem_cons.1 hz with rfl | hz
          · omega
          · exact HM2.out.wf z hz
        by_cases hz : n1 = 0
        · subst hz
          obtain rfl : ms = [] := List.eq_nil_of_length_eq_zero hml.symm
          clear hml hints
          cases A1
          · go_simp
            exact hK _ _ ⟨x6, x13, x14, x15, _, _, _, x19, rfl, fun _ => ⟨M.bel, fun e => M.l0 (by simpa using e), fun e => M.l1 (by simpa using e), fun e => M.l2 (by simpa using e), fun e => M.l3 (by simpa using e), fun e => M.l4 (by simpa using e), fun _ => ⟨_, 1, _, rfl, ⟨.inr ⟨g, 0, rfl, hg4.lt, fun j u hu => by rw [Nat.zero_add]; exact (hg4.cell j).trans hu⟩, rfl, hwf⟩, fun b' off' e => by cases e; exact hg4.lt⟩, fun e => M.l6 (by simpa using e), fun e => M.l7 (by simpa using e)⟩, fun e => by simp [h8] at e⟩
          · go_simp
            exact hK _ _ ⟨x6, x13, x14, x15, _, _, _, x19, rfl, fun _ => ⟨M.bel, fun e => M.l0 (by simpa using e), fun e => M.l1 (by simpa using e), fun e => M.l2 (by simpa using e), fun e => M.l3 (by simpa using e), fun e => M.l4 (by simpa using e), fun _ => ⟨_, 1, _, rfl, ⟨.inr ⟨g, 0, rfl, hg4.lt, fun j u hu => by rw [Nat.zero_add]; exact (hg4.cell j).trans hu⟩, rfl, hwf⟩, fun b' off' e => by cases e; exact hg4.lt⟩, fun e => M.l6 (by simpa using e), fun e => M.l7 (by simpa using e)⟩, fun e => by simp [h8] at e⟩
        · obtain ⟨b1, off1, rfl, hb1, hc1⟩ := HM2.out.row.at_ 0 (by rw [ints_length]; omega)
          refine step_append_grows rfl (.tmp 16) (.tmp 17) 22 rfl 3 i0 (.int .i64 0) 1 8 Tryz.underlying22 hinf hz0 hz1 hz2 rfl (by decide) (some ⟨g, 0, none⟩) 1 1 [.int .i64 4] rfl (fun h => by cases h) rfl ?_ ⟨b1, off1, none⟩ n1 c1 (ints ms) rfl (by rw [ints_length]; omega) ?_ ?_ (by omega) (by unfold maxLen; omega) (by omega) ?_
          · rintro b' hb' j u hj
            obtain rfl := Option.some.inj hb'
            match j, hj with
            | 0, hj => simp at hj; subst hj; exact hg4.cell 0
            | j + 1, hj => simp at hj
          · intro j u hj
            have e1 : (⟨b1, off1, none⟩ : Addr).add j = ⟨b1, off1 + j, none⟩ := by
              unfold Addr.add; split
              · subst_vars; rfl
              · rfl
            rw [e1]
            exact (M.bel.cell (p := ⟨b1, off1 + j, none⟩) hb1).trans (hc1 j u hj)
          · intro u hu
            simp only [ints, List.mem_map] at hu
            obtain ⟨z, _, rfl⟩ := hu
            rfl
          · intro v' w' hown hgr
            obtain ⟨A', c', rfl, hrow⟩ := row_of_ints hown
            have hbw : Below W.heap.size W w' := ⟨hgr.os, hgr.tape, hgr.output, hgr.size, fun k hk => hgr.block k hk (by simp)⟩
            have M := M.below hbw
            refine hK _ _ ⟨x6, x13, x14, x15, _, _, _, x19, rfl, fun _ => ⟨M.bel, fun e => M.l0 (by simpa using e), fun e => M.l1 (by simpa using e), fun e => M.l2 (by simpa using e), fun e => M.l3 (by simpa using e), fun e => M.l4 (by simpa using e), fun _ => ⟨A', 1 + n1, c', rfl, ⟨by rw [hints]; exact hrow, by simp; omega, hwf⟩, fun b' off' e => ?_⟩, fun e => M.l6 (by simpa using e), fun e => M.l7 (by simpa using e)⟩, fun e => by simp [h8] at e⟩
            subst e
            rcases hown.2 with ⟨h0, _⟩ | ⟨g', cap', cur, hv, _, hg', _⟩
            · cases h0
            · obtain ⟨h1, _⟩ := Value.slice.inj hv
              cases h1
              exact (Array.getElem?_eq_some_iff.1 hg').1
      · have h8 : L 8 = false := by
          cases h : L 8 with
          | false => rfl
          | true => exact absurd ((hfin h).1 6 (by omega)) (by rw [hL]; simp)
        have M := hpre h8
        obtain rfl := Option.some.inj ho
        obtain ⟨bt, rfl, hbt⟩ := M.l2 (hdep { on := 2, ground := .data } (by simp) (by rfl))
        obtain ⟨A', n', c', rfl, hl, hfar⟩ := M.l5 (hdep { on := 5, ground := .data } (by simp) (by rfl))
        have hK6 := bent_any c' (brs := brs) hbt.1 hbt.2.1 hbt.2.2 (fun j u hj => (M.bel.cell (p := ⟨b, off + j, none⟩) (by simp; omega)).trans (HC2.out j u hj)) (by have := M.bel.size; omega) Hn.out (by omega) (by omega) (.inl rfl) hl hfar (by simp [pick, around])
        refine wpOp_step rfl (fun K hK => ?_)
        go_simp
        (with_reducible refine hK6.mono ?_)
        rintro e w5 ⟨gt, cap, nm2, A2, n2, c2, brs2, rfl, g0, g1, hnm, hrow, hn2, h100, hb5⟩
        have M := M.below hb5
        have hgl : gt < w5.heap.size := by
          rcases Nat.lt_or_ge gt w5.heap.size with h | h
          · exact h
          · simp [World.cell?, Array.getElem?_eq_none h] at g0
        exact hK _ _ ⟨x6, x13, x14, _, x16, x17, _, _, rfl, fun _ => ⟨M.bel, fun e => M.l0 (by simpa using e), fun e => M.l1 (by simpa using e), fun e => M.l2 (by simpa using e), fun e => M.l3 (by simpa using e), fun e => M.l4 (by simpa using e), fun e => M.l5 (by simpa using e), fun _ => ⟨gt, cap, rfl, nm2, A2, n2, c2, brs2, hgl, g0, g1, hnm, hrow, hn2, h100⟩, fun e => M.l7 (by simpa using e)⟩, fun e => by simp [h8] at e⟩
      · have h8 : L 8 = false := by
          cases h : L 8 with
          | false => rfl
          | true => exact absurd ((hfin h).1 7 (by omega)) (by rw [hL]; simp)
        have M := hpre h8
        have M0 := M
        obtain rfl := Option.some.inj ho
        refine wpOp_step rfl (fun K hK => ?_)
        go_simp
        have M := M.below ((Below.refl _ W).alloc (Nat.le_refl _) (.cells #[nilS, nilS, nilS, nilS] 61))
        exact hK _ _ ⟨_, x13, x14, x15, x16, x17, x18, x19, rfl, fun _ => ⟨M.bel, fun e => M.l0 (by simpa using e), fun e => M.l1 (by simpa using e), fun e => M.l2 (by simpa using e), fun e => M.l3 (by simpa using e), fun e => M.l4 (by simpa using e), fun e => M.l5 (by simpa using e), fun e => M.l6 (by simpa using e), fun _ => ⟨W.heap.size, rfl, Bk.new W 61 [nilS, nilS, nilS, nilS], M0.bel.size⟩⟩, fun e => by simp [h8] at e⟩
      · have M := hpre hL
        obtain rfl := Option.some.inj ho
        obtain ⟨g, rfl, hg7, hgb⟩ := M.l7 (hdep { on := 7, ground := .data } (by simp) (by rfl))
        obtain ⟨gt, cap, rfl, hgot⟩ := M.l6 (hdep { on := 6, ground := .data } (by simp) (by rfl))
        have hall : ∀ j, j < 8 → (L j || j == 8) = true := fun j hj => by
          rcases (show j = 0 ∨ j = 1 ∨ j = 2 ∨ j = 3 ∨ j = 4 ∨ j = 5 ∨ j = 6 ∨ j = 7 by omega) with rfl | rfl | rfl | rfl | rfl | rfl | rfl | rfl
          · rw [hdep { on := 0, ground := .phase } (by simp) (by rfl)]; rfl
          · rw [hdep { on := 1, ground := .phase } (by simp) (by rfl)]; rfl
          · rw [hdep { on := 2, ground := .phase } (by simp) (by rfl)]; rfl
          · rw [hdep { on := 3, ground := .phase } (by simp) (by rfl)]; rfl
          · rw [hdep { on := 4, ground := .phase } (by simp) (by rfl)]; rfl
          · rw [hdep { on := 5, ground := .phase } (by simp) (by rfl)]; rfl
          · rw [hdep { on := 6, ground := .phase } (by simp) (by rfl)]; rfl
          · rw [hdep { on := 7, ground := .phase } (by simp) (by rfl)]; rfl
        have z0 : W.cell? ⟨g, 0, none⟩ = some nilS := hg7.cell 0
        have z1 : W.cell? ⟨g, 1, none⟩ = some nilS := hg7.cell 1
        have z2 : W.cell? ⟨g, 2, none⟩ = some nilS := hg7.cell 2
        have z3 : W.cell? ⟨g, 3, none⟩ = some nilS := hg7.cell 3
        have f0 := hg7.frozen 0
        have f1 := hg7.frozen 1
        have f2 := hg7.frozen 2
        have f3 := hg7.frozen 3
        have gl := hg7.lt
        refine wpOp_step rfl (fun K hK => ?_)
        go_simp
        refine hK _ _ ⟨_, x13, x14, x15, x16, x17, x18, _, rfl, fun e => by simp at e, fun _ => ⟨hall, ?_, g, gt, cap, rfl, ?_, ?_⟩⟩
        · exact (((M.bel.setCell (p := ⟨g, 0, none⟩) hgb _).setCell (p := ⟨g, 1, none⟩) hgb _).setCell (p := ⟨g, 2, none⟩) hgb _).setCell (p := ⟨g, 3, none⟩) hgb _
        · exact (((hg7.set 0 nilS).set 1 nilS).set 2 nilS).set 3 _
        · exact got_lay hgot hg7
    · intro L a W hall hI
      obtain ⟨x6, x13, x14, x15, x16, x17, x18, x19, rfl, hpre, hfin⟩ := hI
      obtain ⟨_, hbel, g, gt, cap, rfl, hbk, nm2, A2, n2, c2, brs2, hgl, g0, g1, hnm, hrow, hn2, h100⟩ := hfin (hall 8 (by decide))
      have z3 : W.cell? ⟨g, 3, none⟩ = some (.slice (some ⟨gt, 0, none⟩) 1 cap) := hbk.cell 3
      have kr := HK2.out.below hbel HK2.out.lt
      have r0 : W.cell? ⟨w.heap.size, 0, none⟩ = some (.string ⟨#[]⟩) := kr.cell 0
      have r1 : W.cell? ⟨w.heap.size, 1, none⟩ = some nilS := kr.cell 1
      have fr0 := kr.frozen 0
      have fr1 := kr.frozen 1
      have hlr := kr.lt
      have HP := Lib.hid (made_end G2.out hbel kr hnm hrow hn2 h100 (c := c2))
      have HR : Hid (((W.setCell ⟨w.heap.size, 0, none⟩ (.string nm2)).setCell ⟨w.heap.size, 1, none⟩ (.slice A2 n2 c2)).heap[w.heap.size]? = some (.cells #[.string nm2, .slice A2 n2 c2] 25 (0, 0))) := (kr.set 0 _).set 1 _
      clear kr hpre hfin hall hbk hrow hn2
      go_wp2
      have t1 := HR.out
      refine bodyPost_ret (v := .agg #[.string nm2, .slice A2 n2 c2]) (by simp [results, Tryz.results8, go_sem, World.cell?, t1]) rfl HP.out

end Go.Proofs.YtlgedljhheficaaGreatDoor
