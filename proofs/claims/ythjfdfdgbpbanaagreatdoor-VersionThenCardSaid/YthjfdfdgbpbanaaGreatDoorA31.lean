/- The walk of lives. -/
import Derived.Test.YthjfdfdgbpbanaaGreatDoorA30
namespace Go.Proofs.YthjfdfdgbpbanaaGreatDoor
open Go.RowKit

structure LvAt (W : World) (n : Nat) : Prop where
  i0 : Bk W n 89 (icells oldL)
  c0 : Bk W (n + 1) 28 [.slice (some ⟨n, 0, none⟩) 2 2, nilS, nilS, nilS]
  i1 : Bk W (n + 2) 89 (icells nextL)
  c1 : Bk W (n + 3) 28 [.slice (some ⟨n + 2, 0, none⟩) 2 2, nilS, nilS, nilS]
  tab : Tab W
theorem LvAt.grow {W W' : World} {n : Nat} (h : LvAt W n) (hb : Below W.heap.size W W') : LvAt W' n := ⟨h.i0.below hb h.i0.lt, h.c0.below hb h.c0.lt, h.i1.below hb h.i1.lt, h.c1.below hb h.c1.lt, h.tab.below hb h.tab.1⟩
theorem LvAt.old {W : World} {n : Nat} (h : LvAt W n) : CatV W (some ⟨n, 0, none⟩) 2 oldL := ⟨⟨h.i0.row, rfl, by omega, names_old⟩, good_old, h.tab⟩
theorem LvAt.next {W : World} {n : Nat} (h : LvAt W n) : CatV W (some ⟨n + 2, 0, none⟩) 2 nextL := ⟨⟨h.i1.row, rfl, by omega, names_next⟩, good_next, h.tab⟩

abbrev lvW (w : World) : World := ((((w.alloc (.cells #[.string sOre, .bool false, .bool false, .bool false, .int .i64 0, .int .i64 0, .int .i64 0, .string sWood, .bool false, .bool false, .bool false, .int .i64 0, .int .i64 0, .int .i64 0] 89)).alloc (.cells #[.slice (some ⟨w.heap.size, 0, none⟩) 2 2, nilS, nilS, nilS] 28)).alloc (.cells #[.string sWood, .bool false, .bool false, .bool false, .int .i64 0, .int .i64 0, .int .i64 0, .string sIron, .bool false, .bool false, .bool false, .int .i64 0, .int .i64 0, .int .i64 0] 89)).alloc (.cells #[.slice (some ⟨w.heap.size + 1 + 1, 0, none⟩) 2 2, nilS, nilS, nilS] 28)).alloc (.cells #[.string sOre, .string sIron, .int .i64 1, .int .i64 2] 94)

theorem lives_start (w : World) (hT : Tab w) : LvAt (lvW w) w.heap.size ∧ Below w.heap.size w (lvW w) ∧ Bk (lvW w) (w.heap.size + 4) 94 (rcells renL) := by
  have hB : Below w.heap.size w (lvW w) := (((((Below.refl _ w).alloc (Nat.le_refl _) _).alloc (by simp) _).alloc (by simp; omega) _).alloc (by simp; omega) _).alloc (by simp; omega) _
  refine ⟨⟨?_, ?_, ?_, ?_, hT.below hB hT.1⟩, hB, ?_⟩
  · exact ((((Bk.new w 89 (icells oldL)).alloc _).alloc _).alloc _).alloc _
  · have := Bk.new (w.alloc (.cells #[.string sOre, .bool false, .bool false, .bool false, .int .i64 0, .int .i64 0, .int .i64 0, .string sWood, .bool false, .bool false, .bool false, .int .i64 0, .int .i64 0, .int .i64 0] 89)) 28 [.slice (some ⟨w.heap.size, 0, none⟩) 2 2, nilS, nilS, nilS]
    rw [World.size_alloc] at this
    exact ((this.alloc _).alloc _).alloc _
  · have := Bk.new ((w.alloc (.cells #[.string sOre, .bool false, .bool false, .bool false, .int .i64 0, .int .i64 0, .int .i64 0, .string sWood, .bool false, .bool false, .bool false, .int .i64 0, .int .i64 0, .int .i64 0] 89)).alloc (.cells #[.slice (some ⟨w.heap.size, 0, none⟩) 2 2, nilS, nilS, nilS] 28)) 89 (icells nextL)
    rw [World.size_alloc, World.size_alloc] at this
    exact (this.alloc _).alloc _
  · have := Bk.new (((w.alloc (.cells #[.string sOre, .bool false, .bool false, .bool false, .int .i64 0, .int .i64 0, .int .i64 0, .string sWood, .bool false, .bool false, .bool false, .int .i64 0, .int .i64 0, .int .i64 0] 89)).alloc (.cells #[.slice (some ⟨w.heap.size, 0, none⟩) 2 2, nilS, nilS, nilS] 28)).alloc (.cells #[.string sWood, .bool false, .bool false, .bool false, .int .i64 0, .int .i64 0, .int .i64 0, .string sIron, .bool false, .bool false, .bool false, .int .i64 0, .int .i64 0, .int .i64 0] 89)) 28 [.slice (some ⟨w.heap.size + 2, 0, none⟩) 2 2, nilS, nilS, nilS]
    rw [World.size_alloc, World.size_alloc, World.size_alloc] at this
    exact this.alloc _
  · have := Bk.new ((((w.alloc (.cells #[.string sOre, .bool false, .bool false, .bool false, .int .i64 0, .int .i64 0, .int .i64 0, .string sWood, .bool false, .bool false, .bool false, .int .i64 0, .int .i64 0, .int .i64 0] 89)).alloc (.cells #[.slice (some ⟨w.heap.size, 0, none⟩) 2 2, nilS, nilS, nilS] 28)).alloc (.cells #[.string sWood, .bool false, .bool false, .bool false, .int .i64 0, .int .i64 0, .int .i64 0, .string sIron, .bool false, .bool false, .bool false, .int .i64 0, .int .i64 0, .int .i64 0] 89)).alloc (.cells #[.slice (some ⟨w.heap.size + 2, 0, none⟩) 2 2, nilS, nilS, nilS] 28)) 94 (rcells renL)
    rw [World.size_alloc, World.size_alloc, World.size_alloc, World.size_alloc] at this
    exact this

theorem lives_new {W : World} {n : Nat} (h : LvAt W n) (hr : Bk W (n + 4) 94 (rcells renL)) :
    Calls Tryz.prog 12 #[catV (some ⟨n, 0, none⟩) 2 2, catV (some ⟨n + 2, 0, none⟩) 2 2, .slice (some ⟨n + 4, 0, none⟩) 1 1] W fun e w' => ∃ A c, e = .returned (.tuple #[.slice A 2 c, .int .i64 0]) ∧ TosV w' A 2 [(1, 1, 2), (0, 1, 1)] ∧ Below W.heap.size W w' := by
  refine (New_valid (w := W) (io := ⟨some ⟨n, 0, none⟩, 2, 2⟩) (ro := ⟨none, 0, 0⟩) (to_ := ⟨none, 0, 0⟩) (xo := ⟨none, 0, 0⟩) (ix := ⟨some ⟨n + 2, 0, none⟩, 2, 2⟩) (rx := ⟨none, 0, 0⟩) (tx := ⟨none, 0, 0⟩) (xx := ⟨none, 0, 0⟩) (R := ⟨some ⟨n + 4, 0, none⟩, 1, 1⟩) (rs := renL) h.old.items h.next.items ⟨hr.row, rfl, by dsimp only; omega, fun k hk => ?_⟩ (fun V hV => both_items 2 2 (h.grow hV).old (h.grow hV).next)).mono ?_
  · obtain rfl : k = 0 := by dsimp only at hk; omega
    exact ⟨by unfold maxLen; decide, by unfold maxLen; decide⟩
  · rintro e w' ⟨A, c, rfl, hrow, hb⟩
    rw [new_l1] at hrow ⊢
    rw [new_e1]
    exact ⟨A, c, rfl, ⟨hrow, rfl⟩, hb⟩
theorem lives_conv {W : World} {A : Option Addr} {g : Nat} (c : Nat) (h : TosV W A 2 [(1, 1, 2), (0, 1, 1)]) (hg : Bk W g 3 (ints [5, 3])) :
    Calls Tryz.prog 27 #[.slice A 2 c, .int .i64 2, .slice (some ⟨g, 0, none⟩) 2 2] W fun e w' => ∃ A1 c1 A2 c2, e = .returned (.tuple #[.slice A1 2 c1, .slice A2 2 c2, .int .i64 0]) ∧ Row w' w'.heap.size A1 (ints [3, 2]) ∧ Row w' w'.heap.size A2 (ints [1, 0]) ∧ Below W.heap.size W w' := by
  have hi : IntsV W (some ⟨g, 0, none⟩) 2 [5, 3] := ⟨hg.row, rfl, fun z hz => by
    simp only [List.mem_cons, List.not_mem_nil, or_false] at hz
    rcases hz with rfl | rfl <;> omega⟩
  refine (conv_good (n := 2) c 2 h hi (by omega) (by omega) (fun e => by cases e) conv_arg).mono ?_
  rintro e w' ⟨A1, c1, A2, c2, rfl, h1, h2, hb⟩
  have e1 : convE [(1, 1, 2), (0, 1, 1)] ((2 : Nat) : Int) [5, 3] = 0 := conv_e
  have e2 : nowL [(1, 1, 2), (0, 1, 1)] ((2 : Nat) : Int) [5, 3] = [3, 2] := conv_now
  have e3 : leftL [(1, 1, 2), (0, 1, 1)] ((2 : Nat) : Int) [5, 3] = [1, 0] := conv_left
  rw [e2] at h1
  rw [e3] at h2
  rw [e1, e2, e3]
  exact ⟨A1, c1, A2, c2, rfl, h1, h2, hb⟩
theorem merge_len : (mergeL oldL nextL 2).length = 3 := by decide +kernel
theorem merge_2 : (itAt (mergeL oldL nextL 2) 2).name = sIron := by decide +kernel
theorem lives_merge {W : World} {n : Nat} (h : LvAt W n) :
    Calls Tryz.prog 18 #[catV (some ⟨n, 0, none⟩) 2 2, catV (some ⟨n + 2, 0, none⟩) 2 2] W fun e w' => ∃ b off c, e = .returned (.tuple #[.agg #[.slice (some ⟨b, off, none⟩) 3 c, nilS, nilS, nilS], .int .i64 0]) ∧ w'.cell? ⟨b, off + 14, none⟩ = some (.string sIron) ∧ b < w'.heap.size ∧ Below W.heap.size W w' := by
  refine (Merge_ok 2 2 h.old h.next keep_ok (by omega) (by omega)).mono ?_
  rintro e w' ⟨A, c, rfl, hrow, hb⟩
  obtain ⟨b, off, rfl, hbb, hc⟩ := hrow.at_ 14 (by rw [icells_length, merge_len]; omega)
  refine ⟨b, off, c, by rw [merge_len], ?_, hbb, hb⟩
  have hg := icells_get (mergeL oldL nextL 2) 2 0 (by rw [merge_len]; omega) (by omega)
  have := hc 14 (.string (itAt (mergeL oldL nextL 2) 2).name) hg
  rw [merge_2] at this
  exact this

set_option maxRecDepth 100000 in
set_option maxHeartbeats 2000000 in
theorem lives_any (w : World) (hT : Tab w) : Calls Tryz.prog 17 #[] w fun e w' => e = .returned (.bool true) ∧ Below w.heap.size w w' := by
  have HL := Lib.hid (lives_start w hT)
  clear hT
  go_enter Tryz.func17, Tryz.ntmps17
  go_wp2_with fail
  change Calls Tryz.prog 12 #[catV (some ⟨w.heap.size, 0, none⟩) 2 2, catV (some ⟨w.heap.size + 2, 0, none⟩) 2 2, .slice (some ⟨w.heap.size + 4, 0, none⟩) 1 1] (lvW w) _
  obtain ⟨L0, B0, R0⟩ := HL.out
  refine (lives_new L0 R0).mono ?_
  rintro e w1 ⟨A1, c1, rfl, t1, hb1⟩
  have L1 := L0.grow hb1
  have B1 := B0.trans (hb1.mono B0.size)
  have HL1 := Lib.hid L1
  have HT1 := Lib.hid t1
  have HB1 := Lib.hid B1
  clear L0 R0 B0 HL L1 B1 t1 hb1
  have KV := Lib.hid (lives_conv c1 (HT1.out.below ((Below.refl _ _).alloc (Nat.le_refl _) (.cells #[.int .i64 5, .int .i64 3] 3))) (Bk.new w1 3 (ints [5, 3])))
  generalize hn : w.heap.size = n at *
  have Hn := Lib.hid hn
  clear hn
  go_wp2_with fail
  refine KV.out.mono ?_
  rintro e w2 ⟨A3, c3, A4, c4, rfl, r3, r4, hb2⟩
  have bal : Below w1.heap.size w1 (w1.alloc (.cells #[.int .i64 5, .int .i64 3] 3)) := (Below.refl _ _).alloc (Nat.le_refl _) _
  have hb12 : Below w1.heap.size w1 w2 := bal.trans (hb2.mono (by simp))
  have HL2 := Lib.hid (HL1.out.grow hb12)
  have HT2 := Lib.hid (HT1.out.below hb12)
  have HB2 := Lib.hid (HB1.out.trans (hb12.mono (by have := HB1.out.size; rw [Hn.out] at this; exact this)))
  have HR3 := Lib.hid r3
  have HR4 := Lib.hid r4
  clear r3 r4 hb2 bal hb12 KV HL1 HT1 HB1
  have a0 : w2.cell? ⟨n + 1, 0, none⟩ = some (.slice (some ⟨n, 0, none⟩) 2 2) := HL2.out.c0.cell 0
  have a1 : w2.cell? ⟨n + 1, 1, none⟩ = some nilS := HL2.out.c0.cell 1
  have a2 : w2.cell? ⟨n + 1, 2, none⟩ = some nilS := HL2.out.c0.cell 2
  have a3 : w2.cell? ⟨n + 1, 3, none⟩ = some nilS := HL2.out.c0.cell 3
  have b0 : w2.cell? ⟨n + 1 + 1 + 1, 0, none⟩ = some (.slice (some ⟨n + 2, 0, none⟩) 2 2) := HL2.out.c1.cell 0
  have b1 : w2.cell? ⟨n + 1 + 1 + 1, 1, none⟩ = some nilS := HL2.out.c1.cell 1
  have b2 : w2.cell? ⟨n + 1 + 1 + 1, 2, none⟩ = some nilS := HL2.out.c1.cell 2
  have b3 : w2.cell? ⟨n + 1 + 1 + 1, 3, none⟩ = some nilS := HL2.out.c1.cell 3
  go_wp2_with fail
  refine (lives_merge HL2.out).mono ?_
  rintro e w3 ⟨bm, om, cm, rfl, hm, hbm, hb3⟩
  have HL3 := Lib.hid (HL2.out.grow hb3)
  have HT3 := Lib.hid (HT2.out.below hb3)
  have HB3 := Lib.hid (HB2.out.trans (hb3.mono (by have := HB2.out.size; rw [Hn.out] at this; exact this)))
  have HR33 := Lib.hid ((HR3.out.below hb3).more hb3.size)
  have HR34 := Lib.hid ((HR4.out.below hb3).more hb3.size)
  clear hb3 HL2 HT2 HB2 HR3 HR4 a0 a1 a2 a3 b0 b1 b2 b3
  have a0 : w3.cell? ⟨n + 1, 0, none⟩ = some (.slice (some ⟨n, 0, none⟩) 2 2) := HL3.out.c0.cell 0
  have a1 : w3.cell? ⟨n + 1, 1, none⟩ = some nilS := HL3.out.c0.cell 1
  have a2 : w3.cell? ⟨n + 1, 2, none⟩ = some nilS := HL3.out.c0.cell 2
  have a3 : w3.cell? ⟨n + 1, 3, none⟩ = some nilS := HL3.out.c0.cell 3
  have al := HL3.out.c0.lt
  have bal : Below w3.heap.size w3 (w3.alloc (.cells #[.slice (some ⟨bm, om, none⟩) 3 cm, nilS, nilS, nilS] 28)) := (Below.refl _ _).alloc (Nat.le_refl _) _
  have KS := Lib.hid (start_items 2 (HL3.out.grow bal).old (by omega))
  have K9 := Lib.hid (Bk.new w3 28 [.slice (some ⟨bm, om, none⟩) 3 cm, nilS, nilS, nilS])
  go_wp2_with fail
  refine KS.out.mono ?_
  rintro e w4 ⟨h, gc, ah, ch, rfl, hH, hb4⟩
  have hb34 : Below w3.heap.size w3 w4 := bal.trans (hb4.mono (by simp))
  have HL4 := Lib.hid (HL3.out.grow hb34)
  have HT4 := Lib.hid (HT3.out.below hb34)
  have HB4 := Lib.hid (HB3.out.trans (hb34.mono (by have := HB3.out.size; rw [Hn.out] at this; exact this)))
  have HR43 := Lib.hid ((HR33.out.below hb34).more hb34.size)
  have HR44 := Lib.hid ((HR34.out.below hb34).more hb34.size)
  have HH4 := Lib.hid hH
  have hm4 : w4.cell? ⟨bm, om + 14, none⟩ = some (.string sIron) := (hb34.cell (p := ⟨bm, om + 14, none⟩) hbm).trans hm
  have k9 : w4.cell? ⟨w3.heap.size, 0, none⟩ = some (.slice (some ⟨bm, om, none⟩) 3 cm) := (K9.out.below hb4 (by simp)).cell 0
  clear hb34 hb4 bal KS K9 HL3 HT3 HB3 HR33 HR34 a0 a1 a2 a3 hm hH al hbm
  have b0 : w4.cell? ⟨n + 1 + 1 + 1, 0, none⟩ = some (.slice (some ⟨n + 2, 0, none⟩) 2 2) := HL4.out.c1.cell 0
  have b1 : w4.cell? ⟨n + 1 + 1 + 1, 1, none⟩ = some nilS := HL4.out.c1.cell 1
  have b2 : w4.cell? ⟨n + 1 + 1 + 1, 2, none⟩ = some nilS := HL4.out.c1.cell 2
  have b3 : w4.cell? ⟨n + 1 + 1 + 1, 3, none⟩ = some nilS := HL4.out.c1.cell 3
  have es : (!sIron.toList == [105, 114, 111, 110]) = false := by decide +kernel
  have es2 : (sIron.toList == [105, 114, 111, 110]) = true := by decide +kernel
  go_wp2_with fail
  have bal : Below w4.heap.size w4 (w4.alloc (.cells #[.int .i64 5, .int .i64 0] 3)) := (Below.refl _ _).alloc (Nat.le_refl _) _
  have hi5 : IntsV (w4.alloc (.cells #[.int .i64 5, .int .i64 0] 3)) (some ⟨w4.heap.size, 0, none⟩) 2 [5, 0] := ⟨(Bk.new w4 3 (ints [5, 0])).row, rfl, fun z hz => by
    simp only [List.mem_cons, List.not_mem_nil, or_false] at hz
    rcases hz with rfl | rfl <;> omega⟩
  have hH5 := HH4.out.grow bal
  refine (add_busy 2 hH5 ⟨hH5.items, good_old, (HL4.out.grow bal).tab⟩ (HL4.out.grow bal).next hi5 units_50 new_e2 miss_2).mono ?_
  rintro e w5 ⟨rfl, hb5⟩
  have hb45 : Below w4.heap.size w4 w5 := bal.trans (hb5.mono (by simp))
  have HT5 := HT4.out.below hb45
  have HB5 := Lib.hid (HB4.out.trans (hb45.mono (by have := HB4.out.size; rw [Hn.out] at this; exact this)))
  have HR53 := Lib.hid ((HR43.out.below hb45).more hb45.size)
  have HR54 := Lib.hid ((HR44.out.below hb45).more hb45.size)
  obtain ⟨b, off, rfl, hbb, hc⟩ := HT5.row.at_ 0 (by decide)
  have t0 : w5.cell? ⟨b, off, none⟩ = some (.int .i64 1) := hc 0 _ rfl
  have t1 : w5.cell? ⟨b, off + 1, none⟩ = some (.int .i64 1) := hc 1 _ rfl
  have t2 : w5.cell? ⟨b, off + 2, none⟩ = some (.int .i64 2) := hc 2 _ rfl
  have t3 : w5.cell? ⟨b, off + 3, none⟩ = some (.int .i64 0) := hc 3 _ rfl
  have t4 : w5.cell? ⟨b, off + 3 + 1, none⟩ = some (.int .i64 1) := hc 4 _ rfl
  have t5 : w5.cell? ⟨b, off + 3 + 2, none⟩ = some (.int .i64 1) := hc 5 _ rfl
  clear hb45 hb5 bal HT5 hi5 hH5 hc b0 b1 b2 b3 k9 hm4 HL4 HT4 HB4 HR43 HR44 HH4 es es2
  have q1 : ∀ W : World, (binOp .eql 64 (.agg #[.int .i64 1, .int .i64 1, .int .i64 2]) (.agg #[.int .i64 1, .int .i64 1, .int .i64 2])).run Tryz.prog W = .ok (.bool true) W := fun W => by kernel_rfl
  have q2 : ∀ W : World, (binOp .eql 64 (.agg #[.int .i64 0, .int .i64 1, .int .i64 1]) (.agg #[.int .i64 0, .int .i64 1, .int .i64 1])).run Tryz.prog W = .ok (.bool true) W := fun W => by kernel_rfl
  go_wp2_with fail
  have K1 := Bk.new w5 3 (ints [3, 2])
  have ba1 : Below w5.heap.size w5 (w5.alloc (.cells #[.int .i64 3, .int .i64 2] 3)) := (Below.refl _ _).alloc (Nat.le_refl _) _
  refine (same_any (n := 2) (m := 2) (xs := [3, 2]) (ys := [3, 2]) ((HR53.out.below ba1).more ba1.size) K1.row rfl rfl (by decide)).mono ?_
  rintro e w6 ⟨rfl, hb6⟩
  rw [show sameB [3, 2] [3, 2] = true from by decide]
  have hb56 : Below w5.heap.size w5 w6 := ba1.trans (hb6.mono (by simp))
  have HB6 := Lib.hid (HB5.out.trans (hb56.mono (by have := HB5.out.size; rw [Hn.out] at this; exact this)))
  have HR64 := Lib.hid ((HR54.out.below hb56).more hb56.size)
  clear hb6 hb56 ba1 K1 HR53 HR54 HB5 t0 t1 t2 t3 t4 t5
  go_wp2_with fail
  have K2 := Bk.new w6 3 (ints [1, 0])
  have ba2 : Below w6.heap.size w6 (w6.alloc (.cells #[.int .i64 1, .int .i64 0] 3)) := (Below.refl _ _).alloc (Nat.le_refl _) _
  refine (same_any (n := 2) (m := 2) (xs := [1, 0]) (ys := [1, 0]) ((HR64.out.below ba2).more ba2.size) K2.row rfl rfl (by decide)).mono ?_
  rintro e w7 ⟨rfl, hb7⟩
  rw [show sameB [1, 0] [1, 0] = true from by decide]
  have hb67 : Below w6.heap.size w6 w7 := ba2.trans (hb7.mono (by simp))
  have HB7 := HB6.out.trans (hb67.mono (by have := HB6.out.size; rw [Hn.out] at this; exact this))
  clear hb7 hb67 ba2 K2 HR64 HB6
  go_wp2
  go_ret
  exact ⟨rfl, by rw [Hn.out]; exact HB7⟩

end Go.Proofs.YthjfdfdgbpbanaaGreatDoor
