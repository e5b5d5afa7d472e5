/- The walk of lives. -/
import Derived.Test.YtlgedljhheficaaGreatDoorA25
namespace Go.Proofs.YtlgedljhheficaaGreatDoor
open Go.RowKit

/-- The two taxes of the examples, from block n on. -/
structure LivesAt (W : World) (n : Nat) : Prop where
  lt : n + 3 < W.heap.size
  a : TaxV W sale (some ⟨n, 0, none⟩) 2 brsA
  b : TaxV W flat (some ⟨n + 2, 0, none⟩) 1 brsB
  a0 : W.cell? ⟨n + 1, 0, none⟩ = some (.string sale)
  a1 : W.cell? ⟨n + 1, 1, none⟩ = some (.slice (some ⟨n, 0, none⟩) 2 2)
  b0 : W.cell? ⟨n + 1 + 1 + 1, 0, none⟩ = some (.string flat)
  b1 : W.cell? ⟨n + 1 + 1 + 1, 1, none⟩ = some (.slice (some ⟨n + 2, 0, none⟩) 1 1)
theorem LivesAt.below {W W' : World} {n : Nat} (h : LivesAt W n) (hb : Below W.heap.size W W') : LivesAt W' n :=
  have h3 := h.lt
  ⟨Nat.lt_of_lt_of_le h.lt hb.size, h.a.below hb, h.b.below hb, (hb.cell (p := ⟨n + 1, 0, none⟩) (by show n + 1 < _; omega)).trans h.a0, (hb.cell (p := ⟨n + 1, 1, none⟩) (by show n + 1 < _; omega)).trans h.a1,
    (hb.cell (p := ⟨n + 1 + 1 + 1, 0, none⟩) (by show n + 1 + 1 + 1 < _; omega)).trans h.b0, (hb.cell (p := ⟨n + 1 + 1 + 1, 1, none⟩) (by show n + 1 + 1 + 1 < _; omega)).trans h.b1⟩

theorem lives_start (w : World) (hT : Tab w) :
    LivesAt ((((w.alloc (.cells #[.int .i64 0, .int .i64 500, .int .i64 1000, .int .i64 10000] 65)).alloc (.cells #[.string sale, .slice (some ⟨w.heap.size, 0, none⟩) 2 2] 25)).alloc (.cells #[.int .i64 0, .int .i64 500] 65)).alloc (.cells #[.string flat, .slice (some ⟨w.heap.size + 1 + 1, 0, none⟩) 1 1] 25)) w.heap.size ∧
    Below w.heap.size w ((((w.alloc (.cells #[.int .i64 0, .int .i64 500, .int .i64 1000, .int .i64 10000] 65)).alloc (.cells #[.string sale, .slice (some ⟨w.heap.size, 0, none⟩) 2 2] 25)).alloc (.cells #[.int .i64 0, .int .i64 500] 65)).alloc (.cells #[.string flat, .slice (some ⟨w.heap.size + 1 + 1, 0, none⟩) 1 1] 25)) := by
  have hB : Below w.heap.size w ((((w.alloc (.cells #[.int .i64 0, .int .i64 500, .int .i64 1000, .int .i64 10000] 65)).alloc (.cells #[.string sale, .slice (some ⟨w.heap.size, 0, none⟩) 2 2] 25)).alloc (.cells #[.int .i64 0, .int .i64 500] 65)).alloc (.cells #[.string flat, .slice (some ⟨w.heap.size + 1 + 1, 0, none⟩) 1 1] 25)) :=
    ((((Below.refl _ w).alloc (Nat.le_refl _) _).alloc (by simp) _).alloc (by simp; omega) _).alloc (by simp; omega) _
  have k0 := (((Bk.new w 65 (bcells brsA)).alloc (.cells #[.string sale, .slice (some ⟨w.heap.size, 0, none⟩) 2 2] 25)).alloc (.cells #[.int .i64 0, .int .i64 500] 65)).alloc (.cells #[.string flat, .slice (some ⟨w.heap.size + 1 + 1, 0, none⟩) 1 1] 25)
  have k1 := Bk.new (w.alloc (.cells (bcells brsA).toArray 65)) 25 [.string sale, .slice (some ⟨w.heap.size, 0, none⟩) 2 2]
  rw [World.size_alloc] at k1
  have k1' := (k1.alloc (.cells #[.int .i64 0, .int .i64 500] 65)).alloc (.cells #[.string flat, .slice (some ⟨w.heap.size + 1 + 1, 0, none⟩) 1 1] 25)
  have k2 := Bk.new ((w.alloc (.cells (bcells brsA).toArray 65)).alloc (.cells #[.string sale, .slice (some ⟨w.heap.size, 0, none⟩) 2 2] 25)) 65 (bcells brsB)
  rw [World.size_alloc, World.size_alloc] at k2
  have k2' := k2.alloc (.cells #[.string flat, .slice (some ⟨w.heap.size + 1 + 1, 0, none⟩) 1 1] 25)
  have k3 := Bk.new (((w.alloc (.cells (bcells brsA).toArray 65)).alloc (.cells #[.string sale, .slice (some ⟨w.heap.size, 0, none⟩) 2 2] 25)).alloc (.cells (bcells brsB).toArray 65)) 25 [.string flat, .slice (some ⟨w.heap.size + 1 + 1, 0, none⟩) 1 1]
  rw [World.size_alloc, World.size_alloc, World.size_alloc] at k3
  have hs : w.heap.size + 3 < ((((w.alloc (.cells #[.int .i64 0, .int .i64 500, .int .i64 1000, .int .i64 10000] 65)).alloc (.cells #[.string sale, .slice (some ⟨w.heap.size, 0, none⟩) 2 2] 25)).alloc (.cells #[.int .i64 0, .int .i64 500] 65)).alloc (.cells #[.string flat, .slice (some ⟨w.heap.size + 1 + 1, 0, none⟩) 1 1] 25)).heap.size := by simp
  refine ⟨⟨hs, ⟨.inr ⟨w.heap.size, 0, rfl, by omega, ?_⟩, rfl, by omega, plain_sale, hT.below hB hT.1⟩, ⟨.inr ⟨w.heap.size + 2, 0, rfl, by omega, ?_⟩, rfl, by omega, plain_flat, hT.below hB hT.1⟩, k1'.cell 0, k1'.cell 1, k3.cell 0, k3.cell 1⟩, hB⟩
  · intro j u hu
    rw [Nat.zero_add]
    exact (k0.cell j).trans hu
  · intro j u hu
    rw [Nat.zero_add]
    exact (k2'.cell j).trans hu

set_option maxRecDepth 100000 in
set_option maxHeartbeats 1000000 in
theorem lives_any (w : World) (hT : Tab w) : Calls Tryz.prog 18 #[] w fun e w' => e = .returned (.bool true) ∧ Below w.heap.size w w' := by
  have HL := Lib.hid (lives_start w hT)
  clear hT
  go_enter Tryz.func18, Tryz.ntmps18
  go_wp2_with fail
  obtain ⟨W0, hW0⟩ : ∃ W0, ((((w.alloc (.cells #[.int .i64 0, .int .i64 500, .int .i64 1000, .int .i64 10000] 65)).alloc (.cells #[.string sale, .slice (some ⟨w.heap.size, 0, none⟩) 2 2] 25)).alloc (.cells #[.int .i64 0, .int .i64 500] 65)).alloc (.cells #[.string flat, .slice (some ⟨w.heap.size + 1 + 1, 0, none⟩) 1 1] 25)) = W0 := ⟨_, rfl⟩
  have h0 := HL.out
  rw [hW0] at h0
  obtain ⟨L0, B0⟩ := h0
  rw [show ({ data := #[115, 97, 108, 101] } : ByteArray) = sale from rfl, show ({ data := #[102, 108, 97, 116] } : ByteArray) = flat from rfl, hW0]
  clear hW0 HL
  have HL0 := Lib.hid L0
  clear L0
  (with_reducible refine (Due_any 2 1000 HL0.out.a).mono ?_)
  rintro e w1 ⟨rfl, hb1⟩
  rw [dueR_A1]
  have L1 := HL0.out.below hb1
  have B1 := B0.trans (hb1.mono B0.size)
  have a0 := L1.a0
  have a1 := L1.a1
  have HL1 := Lib.hid L1
  clear L1 hb1 HL0
  go_wp2_with fail
  (with_reducible refine (Due_any 2 1003 HL1.out.a).mono ?_)
  rintro e w2 ⟨rfl, hb2⟩
  rw [dueR_A2]
  have L2 := HL1.out.below hb2
  have B2 := B1.trans (hb2.mono B1.size)
  clear a0 a1
  have a0 := L2.a0
  have a1 := L2.a1
  have HL2 := Lib.hid L2
  clear L2 hb2 HL1
  go_wp2_with fail
  (with_reducible refine (Net_any 2 950 HL2.out.a).mono ?_)
  rintro e w3 ⟨r, hr, rfl, hb3⟩
  rw [netR_A hr]
  clear hr
  have L3 := HL2.out.below hb3
  have B3 := B2.trans (hb3.mono B2.size)
  clear a0 a1
  have a0 := L3.a0
  have a1 := L3.a1
  have HL3 := Lib.hid L3
  clear L3 hb3 HL2
  have hal : Below w3.heap.size w3 (w3.alloc (.cells #[.int .i64 600, .int .i64 0, .int .i64 400] 3)) := (Below.refl _ _).alloc (Nat.le_refl _) _
  have hra : Row (w3.alloc (.cells #[.int .i64 600, .int .i64 0, .int .i64 400] 3)) (w3.alloc (.cells #[.int .i64 600, .int .i64 0, .int .i64 400] 3)).heap.size (some ⟨w3.heap.size, 0, none⟩) (ints [600, 0, 400]) :=
    .inr ⟨_, _, rfl, by simp, fun j u hu => by rw [Nat.zero_add]; exact ((Bk.new w3 3 (ints [600, 0, 400])).cell j).trans hu⟩
  have Hal := Lib.hid hal
  have Hra := Lib.hid hra
  clear hal hra
  go_wp2_with fail
  (with_reducible refine (shares_A (HL3.out.below Hal.out).a Hra.out).mono ?_)
  rintro e w4 ⟨g, rfl, hg, hbk, hb4⟩
  rw [bump_A] at hbk
  have L4 := (HL3.out.below Hal.out).below hb4
  have B4 := (B3.trans (Hal.out.mono B3.size)).trans (hb4.mono (by have := B3.size; simp; omega))
  have HK4 := Lib.hid hbk
  clear a0 a1 hbk
  have b0 := L4.b0
  have b1 := L4.b1
  have HL4 := Lib.hid L4
  clear L4 hb4 HL3 Hal Hra
  go_wp2_with fail
  (with_reducible refine (Due_any 1 19 HL4.out.b).mono ?_)
  rintro e w5 ⟨rfl, hb5⟩
  rw [dueR_B1]
  have L5 := HL4.out.below hb5
  have B5 := B4.trans (hb5.mono B4.size)
  have HK5 := Lib.hid (HK4.out.below hb5 HK4.out.lt)
  clear b0 b1
  have b0 := L5.b0
  have b1 := L5.b1
  have HL5 := Lib.hid L5
  clear L5 hb5 HL4 HK4
  go_wp2_with fail
  (with_reducible refine (More_any 1 19 1 HL5.out.b).mono ?_)
  rintro e w6 ⟨rfl, hb6⟩
  rw [moreR_B]
  have B6 := B5.trans (hb6.mono B5.size)
  have HK6 := Lib.hid (HK5.out.below hb6 HK5.out.lt)
  clear b0 b1 hb6 HL5 HK5
  have hx : Row (w6.alloc (.cells #[.int .i64 30, .int .i64 0, .int .i64 20] 3)) (g + 1) (some ⟨g, 0, none⟩) (ints [30, 0, 20]) :=
    .inr ⟨_, _, rfl, by omega, fun j u hu => by rw [Nat.zero_add]; exact ((HK6.out.alloc _).cell j).trans hu⟩
  have hy : Row (w6.alloc (.cells #[.int .i64 30, .int .i64 0, .int .i64 20] 3)) (w6.heap.size + 1) (some ⟨w6.heap.size, 0, none⟩) (ints [30, 0, 20]) :=
    .inr ⟨_, _, rfl, by omega, fun j u hu => by rw [Nat.zero_add]; exact ((Bk.new w6 3 (ints [30, 0, 20])).cell j).trans hu⟩
  have HX := Lib.hid hx
  have HY := Lib.hid hy
  clear hx hy
  go_wp2_with fail
  (with_reducible refine (same_any (n := 3) (m := 3) (c := 3) (c' := 3) HX.out HY.out rfl rfl (by decide)).mono ?_)
  rintro e w7 ⟨rfl, hb7⟩
  have B7 := (B6.alloc B6.size _).trans (hb7.mono (by have := B6.size; simp; omega))
  rw [show sameB [30, 0, 20] [30, 0, 20] = true from by decide]
  clear hb7
  go_wp2
  go_ret
  exact ⟨rfl, B7⟩

end Go.Proofs.YtlgedljhheficaaGreatDoor
