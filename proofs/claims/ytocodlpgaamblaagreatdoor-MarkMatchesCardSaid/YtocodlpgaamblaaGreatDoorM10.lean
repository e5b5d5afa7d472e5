/- The generator of marks. -/
import Derived.Test.YtocodlpgaamblaaGreatDoorM9
set_option linter.unusedVariables false
set_option linter.unusedSimpArgs false
open Go.RowKit
namespace Go.Proofs.YtocodlpgaamblaaGreatDoor
theorem KSt.drew {V W : World} {g : Nat} (h : KSt V W g) : KSt V W.drew g := h.below (Below.refl _ _).drew
theorem in64_lt {a n : Int} (h0 : 0 ≤ a) (h1 : a < n) (hn : n ≤ 1000000) : In64 a := ⟨by omega, by omega⟩
set_option maxRecDepth 100000 in
set_option maxHeartbeats 8000000 in
theorem mark_zero {W : World} {g : Nat} {si sr st sx : Sl} (hi1 : (1 : Int) ≤ si.n) (hr1 : (1 : Int) ≤ sr.n) (hi4 : (si.n : Int) ≤ 1000000) (hr4 : (sr.n : Int) ≤ 1000000) (h : KOk W g) :
 Calls Tryz.prog 40 #[.pointer (some ⟨g, 0, none⟩), .agg #[.slice si.A si.n si.c, .slice sr.A sr.n sr.c, .slice st.A st.n st.c, .slice sx.A sx.n sx.c], .int .i64 0] W (MarkG W g 0) := by
 have hi2 : (si.n : Int) ≤ 9223372036854775807 := Int.le_trans hi4 (by decide)
 have hr2 : (sr.n : Int) ≤ 9223372036854775807 := Int.le_trans hr4 (by decide)
 have HKg : Hid (g < W.heap.size) := Lib.hid h.lt
 have HK0 := Lib.hid (((KSt.refl h).alloc (.cells #[.slice si.A si.n si.c, .slice sr.A sr.n sr.c, .slice st.A st.n st.c, .slice sx.A sx.n sx.c] 28)).alloc (.cells #[.string ⟨#[]⟩, .int .i64 0, .int .i64 0, .slice none 0 0] 35))
 have HC0 := Lib.hid ((Bk.new W 28 [.slice si.A si.n si.c, .slice sr.A sr.n sr.c, .slice st.A st.n st.c, .slice sx.A sx.n sx.c]).alloc (.cells #[.string ⟨#[]⟩, .int .i64 0, .int .i64 0, .slice none 0 0] 35))
 have HR0 : Hid (Bk ((W.alloc (.cells #[.slice si.A si.n si.c, .slice sr.A sr.n sr.c, .slice st.A st.n st.c, .slice sx.A sx.n sx.c] 28)).alloc (.cells #[.string ⟨#[]⟩, .int .i64 0, .int .i64 0, .slice none 0 0] 35)) (W.heap.size + 1) 35 [.string ⟨#[]⟩, .int .i64 0, .int .i64 0, .slice none 0 0]) := by
  have := Bk.new (W.alloc (.cells #[.slice si.A si.n si.c, .slice sr.A sr.n sr.c, .slice st.A st.n st.c, .slice sx.A sx.n sx.c] 28)) 35 [.string ⟨#[]⟩, .int .i64 0, .int .i64 0, .slice none 0 0]
  rw [World.size_alloc] at this
  exact Lib.hid this
 have KX0 := Lib.hid (next_k 12 HK0.out.ok (by decide) (by decide))
 clear h
 go_enter Tryz.func40, Tryz.ntmps40
 go_wp2_with fail
 refine KX0.out.mono ?_
 rintro e w1 ⟨x, rfl, x0, x1, hs⟩
 have HK1 := Lib.hid (HK0.out.trans hs)
 have HC1 := Lib.hid (hs.bk HC0.out (by have := HKg.out; omega))
 have HR1 := Lib.hid (hs.bk HR0.out (by have := HKg.out; omega))
 clear KX0 hs HK0 HC0 HR0
 rcases (show x = 0 ∨ x = 1 ∨ x = 2 ∨ x = 3 ∨ x = 4 ∨ x = 5 ∨ x = 6 ∨ x = 7 ∨ x = 8 ∨ x = 9 ∨ x = 10 ∨ x = 11 by omega) with rfl | rfl | rfl | rfl | rfl | rfl | rfl | rfl | rfl | rfl | rfl | rfl
 ·clear x0 x1
  have KN := Lib.hid (condNs_any w1)
  go_wp2_with fail
  refine KN.out.mono ?_
  rintro e w2 ⟨A2, n2, c2, rfl, hN, hb⟩
  obtain ⟨bb, off, rfl, hbb, c0⟩ := hN.at_ 0 (by decide)
  obtain rfl : n2 = 8 := hN.len
  change w2.cell? ⟨bb, off, none⟩ = some (.string ⟨#[107, 105, 110, 100]⟩) at c0
  have HK2 := Lib.hid ((HK1.out.below hb).alloc (.cells #[.string ⟨#[107, 105, 110, 100]⟩, .int .i64 0, .int .i64 0, .slice none 0 0] 35))
  have HC2 := Lib.hid ((HC1.out.below hb HC1.out.lt).alloc (.cells #[.string ⟨#[107, 105, 110, 100]⟩, .int .i64 0, .int .i64 0, .slice none 0 0] 35))
  have HR2 := Lib.hid ((HR1.out.below hb HR1.out.lt).alloc (.cells #[.string ⟨#[107, 105, 110, 100]⟩, .int .i64 0, .int .i64 0, .slice none 0 0] 35))
  have HX2 := Lib.hid (Bk.new w2 35 [.string ⟨#[107, 105, 110, 100]⟩, .int .i64 0, .int .i64 0, .slice none 0 0])
  have HW2 : Hid (W.heap.size + 2 ≤ w2.heap.size) := Lib.hid (by have h1 := HR1.out.lt; have h2 := hb.size; omega)
  clear KN hN hb
  have x0 : (w2.alloc (.cells #[.string ⟨#[107, 105, 110, 100]⟩, .int .i64 0, .int .i64 0, .slice none 0 0] 35)).cell? ⟨w2.heap.size, 0, none⟩ = some (.string ⟨#[107, 105, 110, 100]⟩) := HX2.out.cell 0
  have y0 : (w2.alloc (.cells #[.string ⟨#[107, 105, 110, 100]⟩, .int .i64 0, .int .i64 0, .slice none 0 0] 35)).cell? ⟨W.heap.size, 0, none⟩ = some (.slice si.A si.n si.c) := HC2.out.cell 0
  have y1 : (w2.alloc (.cells #[.string ⟨#[107, 105, 110, 100]⟩, .int .i64 0, .int .i64 0, .slice none 0 0] 35)).cell? ⟨W.heap.size, 1, none⟩ = some (.slice sr.A sr.n sr.c) := HC2.out.cell 1
  have yl := HC2.out.lt
  have KX := Lib.hid (next_k 11 HK2.out.ok (by decide) (by decide))
  go_wp2_with fail
  (with_reducible refine KX.out.mono ?_)
  rintro e w4 ⟨a, rfl, a0, a1, hs⟩
  have HK4 := Lib.hid (HK2.out.trans hs)
  have HC4 := Lib.hid (hs.bk HC2.out (by have := HKg.out; omega))
  have HR4 := Lib.hid (hs.bk HR2.out (by have := HKg.out; omega))
  have HX4 := Lib.hid (hs.bk HX2.out (by have := HKg.out; have := HW2.out; omega))
  clear KX hs x0 y0 y1 yl HK2 HC2 HR2 HX2
  obtain ⟨q, hq⟩ : ∃ q, w2.heap.size = q := ⟨_, rfl⟩
  rw [hq] at HX4 HW2
  try simp only [hq]
  clear hq
  have u0 : w4.cell? ⟨q, 0, none⟩ = some (.string ⟨#[107, 105, 110, 100]⟩) := HX4.out.cell 0
  have u1 : w4.cell? ⟨q, 1, none⟩ = some (.int .i64 0) := HX4.out.cell 1
  have u2 : w4.cell? ⟨q, 2, none⟩ = some (.int .i64 0) := HX4.out.cell 2
  have u3 : w4.cell? ⟨q, 3, none⟩ = some (.slice none 0 0) := HX4.out.cell 3
  have v1 := HX4.out.frozen 1
  have v2 := HX4.out.frozen 2
  have ul := HX4.out.lt
  have HR5 := Lib.hid (HR4.out.setOther (b := q) (k := 1) (u := .int .i64 a) (by have := HW2.out; omega))
  have HK5 := Lib.hid (HK4.out.set q 1 (.int .i64 a) (by have := HW2.out; omega))
  have HX5 := Lib.hid (HX4.out.set 1 (.int .i64 a))
  have z0 : (w4.setCell ⟨q, 1, none⟩ (.int .i64 a)).cell? ⟨W.heap.size + 1, 0, none⟩ = some (.string ⟨#[]⟩) := HR5.out.cell 0
  have z1 : (w4.setCell ⟨q, 1, none⟩ (.int .i64 a)).cell? ⟨W.heap.size + 1, 1, none⟩ = some (.int .i64 0) := HR5.out.cell 1
  have z2 : (w4.setCell ⟨q, 1, none⟩ (.int .i64 a)).cell? ⟨W.heap.size + 1, 2, none⟩ = some (.int .i64 0) := HR5.out.cell 2
  have z3 : (w4.setCell ⟨q, 1, none⟩ (.int .i64 a)).cell? ⟨W.heap.size + 1, 3, none⟩ = some (.slice none 0 0) := HR5.out.cell 3
  have fz0 := HR5.out.frozen 0
  have fz1 := HR5.out.frozen 1
  have fz2 := HR5.out.frozen 2
  have fz3 := HR5.out.frozen 3
  have hzl := HR5.out.lt
  go_wp2
  have hX := leaf_g (d := 0) (rb := W.heap.size + 1) (op := ⟨#[107, 105, 110, 100]⟩) (a := a) (b := 0) (by omega) HR5.out (by decide) (in64_lt a0 a1 (by first | decide | exact hr4 | exact hi4)) ⟨by decide, by decide⟩ HK5.out
  generalize ((((w4.setCell ⟨q, 1, none⟩ (.int .i64 a)).setCell ⟨W.heap.size + 1, 0, none⟩ (.string ⟨#[107, 105, 110, 100]⟩)).setCell ⟨W.heap.size + 1, 1, none⟩ (.int .i64 a)).setCell ⟨W.heap.size + 1, 2, none⟩ (.int .i64 0)).setCell ⟨W.heap.size + 1, 3, none⟩ (.slice none 0 0) = X at *
  have xx0 : X.cell? ⟨W.heap.size + 1, 0, none⟩ = some (.string ⟨#[107, 105, 110, 100]⟩) := hX.2.cell 0
  have xx1 : X.cell? ⟨W.heap.size + 1, 1, none⟩ = some (.int .i64 a) := hX.2.cell 1
  have xx2 : X.cell? ⟨W.heap.size + 1, 2, none⟩ = some (.int .i64 0) := hX.2.cell 2
  have xx3 : X.cell? ⟨W.heap.size + 1, 3, none⟩ = some (.slice none 0 0) := hX.2.cell 3
  refine bodyPost_ret (v := .agg #[.string ⟨#[107, 105, 110, 100]⟩, .int .i64 a, .int .i64 0, .slice none 0 0]) (by simp [results, Tryz.results40, go_sem, xx0, xx1, xx2, xx3]) rfl hX.1
 ·clear x0 x1
  have KN := Lib.hid (condNs_any w1)
  go_wp2_with fail
  refine KN.out.mono ?_
  rintro e w2 ⟨A2, n2, c2, rfl, hN, hb⟩
  obtain ⟨bb, off, rfl, hbb, c0⟩ := hN.at_ 1 (by decide)
  obtain rfl : n2 = 8 := hN.len
  change w2.cell? ⟨bb, off + 1, none⟩ = some (.string ⟨#[97, 99, 116, 111, 114]⟩) at c0
  have HK2 := Lib.hid ((HK1.out.below hb).alloc (.cells #[.string ⟨#[97, 99, 116, 111, 114]⟩, .int .i64 0, .int .i64 0, .slice none 0 0] 35))
  have HC2 := Lib.hid ((HC1.out.below hb HC1.out.lt).alloc (.cells #[.string ⟨#[97, 99, 116, 111, 114]⟩, .int .i64 0, .int .i64 0, .slice none 0 0] 35))
  have HR2 := Lib.hid ((HR1.out.below hb HR1.out.lt).alloc (.cells #[.string ⟨#[97, 99, 116, 111, 114]⟩, .int .i64 0, .int .i64 0, .slice none 0 0] 35))
  have HX2 := Lib.hid (Bk.new w2 35 [.string ⟨#[97, 99, 116, 111, 114]⟩, .int .i64 0, .int .i64 0, .slice none 0 0])
  have HW2 : Hid (W.heap.size + 2 ≤ w2.heap.size) := Lib.hid (by have h1 := HR1.out.lt; have h2 := hb.size; omega)
  clear KN hN hb
  have x0 : (w2.alloc (.cells #[.string ⟨#[97, 99, 116, 111, 114]⟩, .int .i64 0, .int .i64 0, .slice none 0 0] 35)).cell? ⟨w2.heap.size, 0, none⟩ = some (.string ⟨#[97, 99, 116, 111, 114]⟩) := HX2.out.cell 0
  have y0 : (w2.alloc (.cells #[.string ⟨#[97, 99, 116, 111, 114]⟩, .int .i64 0, .int .i64 0, .slice none 0 0] 35)).cell? ⟨W.heap.size, 0, none⟩ = some (.slice si.A si.n si.c) := HC2.out.cell 0
  have y1 : (w2.alloc (.cells #[.string ⟨#[97, 99, 116, 111, 114]⟩, .int .i64 0, .int .i64 0, .slice none 0 0] 35)).cell? ⟨W.heap.size, 1, none⟩ = some (.slice sr.A sr.n sr.c) := HC2.out.cell 1
  have yl := HC2.out.lt
  have KX := Lib.hid (next_k 6 HK2.out.ok (by decide) (by decide))
  go_wp2_with fail
  (with_reducible refine KX.out.mono ?_)
  rintro e w4 ⟨a, rfl, a0, a1, hs⟩
  have HK4 := Lib.hid (HK2.out.trans hs)
  have HC4 := Lib.hid (hs.bk HC2.out (by have := HKg.out; omega))
  have HR4 := Lib.hid (hs.bk HR2.out (by have := HKg.out; omega))
  have HX4 := Lib.hid (hs.bk HX2.out (by have := HKg.out; have := HW2.out; omega))
  clear KX hs x0 y0 y1 yl HK2 HC2 HR2 HX2
  obtain ⟨q, hq⟩ : ∃ q, w2.heap.size = q := ⟨_, rfl⟩
  rw [hq] at HX4 HW2
  try simp only [hq]
  clear hq
  have u0 : w4.cell? ⟨q, 0, none⟩ = some (.string ⟨#[97, 99, 116, 111, 114]⟩) := HX4.out.cell 0
  have u1 : w4.cell? ⟨q, 1, none⟩ = some (.int .i64 0) := HX4.out.cell 1
  have u2 : w4.cell? ⟨q, 2, none⟩ = some (.int .i64 0) := HX4.out.cell 2
  have u3 : w4.cell? ⟨q, 3, none⟩ = some (.slice none 0 0) := HX4.out.cell 3
  have v1 := HX4.out.frozen 1
  have v2 := HX4.out.frozen 2
  have ul := HX4.out.lt
  have HR5 := Lib.hid (HR4.out.setOther (b := q) (k := 1) (u := .int .i64 a) (by have := HW2.out; omega))
  have HK5 := Lib.hid (HK4.out.set q 1 (.int .i64 a) (by have := HW2.out; omega))
  have HX5 := Lib.hid (HX4.out.set 1 (.int .i64 a))
  have z0 : (w4.setCell ⟨q, 1, none⟩ (.int .i64 a)).cell? ⟨W.heap.size + 1, 0, none⟩ = some (.string ⟨#[]⟩) := HR5.out.cell 0
  have z1 : (w4.setCell ⟨q, 1, none⟩ (.int .i64 a)).cell? ⟨W.heap.size + 1, 1, none⟩ = some (.int .i64 0) := HR5.out.cell 1
  have z2 : (w4.setCell ⟨q, 1, none⟩ (.int .i64 a)).cell? ⟨W.heap.size + 1, 2, none⟩ = some (.int .i64 0) := HR5.out.cell 2
  have z3 : (w4.setCell ⟨q, 1, none⟩ (.int .i64 a)).cell? ⟨W.heap.size + 1, 3, none⟩ = some (.slice none 0 0) := HR5.out.cell 3
  have fz0 := HR5.out.frozen 0
  have fz1 := HR5.out.frozen 1
  have fz2 := HR5.out.frozen 2
  have fz3 := HR5.out.frozen 3
  have hzl := HR5.out.lt
  go_wp2
  have hX := leaf_g (d := 0) (rb := W.heap.size + 1) (op := ⟨#[97, 99, 116, 111, 114]⟩) (a := a) (b := 0) (by omega) HR5.out (by decide) (in64_lt a0 a1 (by first | decide | exact hr4 | exact hi4)) ⟨by decide, by decide⟩ HK5.out
  generalize ((((w4.setCell ⟨q, 1, none⟩ (.int .i64 a)).setCell ⟨W.heap.size + 1, 0, none⟩ (.string ⟨#[97, 99, 116, 111, 114]⟩)).setCell ⟨W.heap.size + 1, 1, none⟩ (.int .i64 a)).setCell ⟨W.heap.size + 1, 2, none⟩ (.int .i64 0)).setCell ⟨W.heap.size + 1, 3, none⟩ (.slice none 0 0) = X at *
  have xx0 : X.cell? ⟨W.heap.size + 1, 0, none⟩ = some (.string ⟨#[97, 99, 116, 111, 114]⟩) := hX.2.cell 0
  have xx1 : X.cell? ⟨W.heap.size + 1, 1, none⟩ = some (.int .i64 a) := hX.2.cell 1
  have xx2 : X.cell? ⟨W.heap.size + 1, 2, none⟩ = some (.int .i64 0) := hX.2.cell 2
  have xx3 : X.cell? ⟨W.heap.size + 1, 3, none⟩ = some (.slice none 0 0) := hX.2.cell 3
  refine bodyPost_ret (v := .agg #[.string ⟨#[97, 99, 116, 111, 114]⟩, .int .i64 a, .int .i64 0, .slice none 0 0]) (by simp [results, Tryz.results40, go_sem, xx0, xx1, xx2, xx3]) rfl hX.1
 ·clear x0 x1
  have KN := Lib.hid (condNs_any w1)
  go_wp2_with fail
  refine KN.out.mono ?_
  rintro e w2 ⟨A2, n2, c2, rfl, hN, hb⟩
  obtain ⟨bb, off, rfl, hbb, c0⟩ := hN.at_ 2 (by decide)
  obtain rfl : n2 = 8 := hN.len
  change w2.cell? ⟨bb, off + 2, none⟩ = some (.string ⟨#[114, 117, 108, 101]⟩) at c0
  have HK2 := Lib.hid ((HK1.out.below hb).alloc (.cells #[.string ⟨#[114, 117, 108, 101]⟩, .int .i64 0, .int .i64 0, .slice none 0 0] 35))
  have HC2 := Lib.hid ((HC1.out.below hb HC1.out.lt).alloc (.cells #[.string ⟨#[114, 117, 108, 101]⟩, .int .i64 0, .int .i64 0, .slice none 0 0] 35))
  have HR2 := Lib.hid ((HR1.out.below hb HR1.out.lt).alloc (.cells #[.string ⟨#[114, 117, 108, 101]⟩, .int .i64 0, .int .i64 0, .slice none 0 0] 35))
  have HX2 := Lib.hid (Bk.new w2 35 [.string ⟨#[114, 117, 108, 101]⟩, .int .i64 0, .int .i64 0, .slice none 0 0])
  have HW2 : Hid (W.heap.size + 2 ≤ w2.heap.size) := Lib.hid (by have h1 := HR1.out.lt; have h2 := hb.size; omega)
  clear KN hN hb
  have x0 : (w2.alloc (.cells #[.string ⟨#[114, 117, 108, 101]⟩, .int .i64 0, .int .i64 0, .slice none 0 0] 35)).cell? ⟨w2.heap.size, 0, none⟩ = some (.string ⟨#[114, 117, 108, 101]⟩) := HX2.out.cell 0
  have y0 : (w2.alloc (.cells #[.string ⟨#[114, 117, 108, 101]⟩, .int .i64 0, .int .i64 0, .slice none 0 0] 35)).cell? ⟨W.heap.size, 0, none⟩ = some (.slice si.A si.n si.c) := HC2.out.cell 0
  have y1 : (w2.alloc (.cells #[.string ⟨#[114, 117, 108, 101]⟩, .int .i64 0, .int .i64 0, .slice none 0 0] 35)).cell? ⟨W.heap.size, 1, none⟩ = some (.slice sr.A sr.n sr.c) := HC2.out.cell 1
  have yl := HC2.out.lt
  have KX := Lib.hid (next_k (sr.n : Int) HK2.out.ok hr1 hr2)
  go_wp2_with fail
  (with_reducible refine KX.out.mono ?_)
  rintro e w4 ⟨a, rfl, a0, a1, hs⟩
  have HK4 := Lib.hid (HK2.out.trans hs)
  have HC4 := Lib.hid (hs.bk HC2.out (by have := HKg.out; omega))
  have HR4 := Lib.hid (hs.bk HR2.out (by have := HKg.out; omega))
  have HX4 := Lib.hid (hs.bk HX2.out (by have := HKg.out; have := HW2.out; omega))
  clear KX hs x0 y0 y1 yl HK2 HC2 HR2 HX2
  obtain ⟨q, hq⟩ : ∃ q, w2.heap.size = q := ⟨_, rfl⟩
  rw [hq] at HX4 HW2
  try simp only [hq]
  clear hq
  have u0 : w4.cell? ⟨q, 0, none⟩ = some (.string ⟨#[114, 117, 108, 101]⟩) := HX4.out.cell 0
  have u1 : w4.cell? ⟨q, 1, none⟩ = some (.int .i64 0) := HX4.out.cell 1
  have u2 : w4.cell? ⟨q, 2, none⟩ = some (.int .i64 0) := HX4.out.cell 2
  have u3 : w4.cell? ⟨q, 3, none⟩ = some (.slice none 0 0) := HX4.out.cell 3
  have v1 := HX4.out.frozen 1
  have v2 := HX4.out.frozen 2
  have ul := HX4.out.lt
  have HR5 := Lib.hid (HR4.out.setOther (b := q) (k := 1) (u := .int .i64 a) (by have := HW2.out; omega))
  have HK5 := Lib.hid (HK4.out.set q 1 (.int .i64 a) (by have := HW2.out; omega))
  have HX5 := Lib.hid (HX4.out.set 1 (.int .i64 a))
  have z0 : (w4.setCell ⟨q, 1, none⟩ (.int .i64 a)).cell? ⟨W.heap.size + 1, 0, none⟩ = some (.string ⟨#[]⟩) := HR5.out.cell 0
  have z1 : (w4.setCell ⟨q, 1, none⟩ (.int .i64 a)).cell? ⟨W.heap.size + 1, 1, none⟩ = some (.int .i64 0) := HR5.out.cell 1
  have z2 : (w4.setCell ⟨q, 1, none⟩ (.int .i64 a)).cell? ⟨W.heap.size + 1, 2, none⟩ = some (.int .i64 0) := HR5.out.cell 2
  have z3 : (w4.setCell ⟨q, 1, none⟩ (.int .i64 a)).cell? ⟨W.heap.size + 1, 3, none⟩ = some (.slice none 0 0) := HR5.out.cell 3
  have fz0 := HR5.out.frozen 0
  have fz1 := HR5.out.frozen 1
  have fz2 := HR5.out.frozen 2
  have fz3 := HR5.out.frozen 3
  have hzl := HR5.out.lt
  go_wp2
  have hX := leaf_g (d := 0) (rb := W.heap.size + 1) (op := ⟨#[114, 117, 108, 101]⟩) (a := a) (b := 0) (by omega) HR5.out (by decide) (in64_lt a0 a1 (by first | decide | exact hr4 | exact hi4)) ⟨by decide, by decide⟩ HK5.out
  generalize ((((w4.setCell ⟨q, 1, none⟩ (.int .i64 a)).setCell ⟨W.heap.size + 1, 0, none⟩ (.string ⟨#[114, 117, 108, 101]⟩)).setCell ⟨W.heap.size + 1, 1, none⟩ (.int .i64 a)).setCell ⟨W.heap.size + 1, 2, none⟩ (.int .i64 0)).setCell ⟨W.heap.size + 1, 3, none⟩ (.slice none 0 0) = X at *
  have xx0 : X.cell? ⟨W.heap.size + 1, 0, none⟩ = some (.string ⟨#[114, 117, 108, 101]⟩) := hX.2.cell 0
  have xx1 : X.cell? ⟨W.heap.size + 1, 1, none⟩ = some (.int .i64 a) := hX.2.cell 1
  have xx2 : X.cell? ⟨W.heap.size + 1, 2, none⟩ = some (.int .i64 0) := hX.2.cell 2
  have xx3 : X.cell? ⟨W.heap.size + 1, 3, none⟩ = some (.slice none 0 0) := hX.2.cell 3
  refine bodyPost_ret (v := .agg #[.string ⟨#[114, 117, 108, 101]⟩, .int .i64 a, .int .i64 0, .slice none 0 0]) (by simp [results, Tryz.results40, go_sem, xx0, xx1, xx2, xx3]) rfl hX.1
 ·clear x0 x1
  have KN := Lib.hid (condNs_any w1)
  go_wp2_with fail
  refine KN.out.mono ?_
  rintro e w2 ⟨A2, n2, c2, rfl, hN, hb⟩
  obtain ⟨bb, off, rfl, hbb, c0⟩ := hN.at_ 3 (by decide)
  obtain rfl : n2 = 8 := hN.len
  change w2.cell? ⟨bb, off + 3, none⟩ = some (.string ⟨#[116, 105, 99, 107]⟩) at c0
  have HK2 := Lib.hid ((HK1.out.below hb).alloc (.cells #[.string ⟨#[116, 105, 99, 107]⟩, .int .i64 0, .int .i64 0, .slice none 0 0] 35))
  have HC2 := Lib.hid ((HC1.out.below hb HC1.out.lt).alloc (.cells #[.string ⟨#[116, 105, 99, 107]⟩, .int .i64 0, .int .i64 0, .slice none 0 0] 35))
  have HR2 := Lib.hid ((HR1.out.below hb HR1.out.lt).alloc (.cells #[.string ⟨#[116, 105, 99, 107]⟩, .int .i64 0, .int .i64 0, .slice none 0 0] 35))
  have HX2 := Lib.hid (Bk.new w2 35 [.string ⟨#[116, 105, 99, 107]⟩, .int .i64 0, .int .i64 0, .slice none 0 0])
  have HW2 : Hid (W.heap.size + 2 ≤ w2.heap.size) := Lib.hid (by have h1 := HR1.out.lt; have h2 := hb.size; omega)
  clear KN hN hb
  have x0 : (w2.alloc (.cells #[.string ⟨#[116, 105, 99, 107]⟩, .int .i64 0, .int .i64 0, .slice none 0 0] 35)).cell? ⟨w2.heap.size, 0, none⟩ = some (.string ⟨#[116, 105, 99, 107]⟩) := HX2.out.cell 0
  have y0 : (w2.alloc (.cells #[.string ⟨#[116, 105, 99, 107]⟩, .int .i64 0, .int .i64 0, .slice none 0 0] 35)).cell? ⟨W.heap.size, 0, none⟩ = some (.slice si.A si.n si.c) := HC2.out.cell 0
  have y1 : (w2.alloc (.cells #[.string ⟨#[116, 105, 99, 107]⟩, .int .i64 0, .int .i64 0, .slice none 0 0] 35)).cell? ⟨W.heap.size, 1, none⟩ = some (.slice sr.A sr.n sr.c) := HC2.out.cell 1
  have yl := HC2.out.lt
  have KX := Lib.hid (next_k 12 HK2.out.ok (by decide) (by decide))
  go_wp2_with fail
  (with_reducible refine KX.out.mono ?_)
  rintro e w4 ⟨a, rfl, a0, a1, hs⟩
  have HK4 := Lib.hid (HK2.out.trans hs)
  have HC4 := Lib.hid (hs.bk HC2.out (by have := HKg.out; omega))
  have HR4 := Lib.hid (hs.bk HR2.out (by have := HKg.out; omega))
  have HX4 := Lib.hid (hs.bk HX2.out (by have := HKg.out; have := HW2.out; omega))
  clear KX hs x0 y0 y1 yl HK2 HC2 HR2 HX2
  obtain ⟨q, hq⟩ : ∃ q, w2.heap.size = q := ⟨_, rfl⟩
  rw [hq] at HX4 HW2
  try simp only [hq]
  clear hq
  have u0 : w4.cell? ⟨q, 0, none⟩ = some (.string ⟨#[116, 105, 99, 107]⟩) := HX4.out.cell 0
  have u1 : w4.cell? ⟨q, 1, none⟩ = some (.int .i64 0) := HX4.out.cell 1
  have u2 : w4.cell? ⟨q, 2, none⟩ = some (.int .i64 0) := HX4.out.cell 2
  have u3 : w4.cell? ⟨q, 3, none⟩ = some (.slice none 0 0) := HX4.out.cell 3
  have v1 := HX4.out.frozen 1
  have v2 := HX4.out.frozen 2
  have ul := HX4.out.lt
  have HR5 := Lib.hid (HR4.out.setOther (b := q) (k := 1) (u := .int .i64 a) (by have := HW2.out; omega))
  have HK5 := Lib.hid (HK4.out.set q 1 (.int .i64 a) (by have := HW2.out; omega))
  have HX5 := Lib.hid (HX4.out.set 1 (.int .i64 a))
  go_wp2
  refine wp_region_X (fun w' => Bk w' q 35 [.string ⟨#[116, 105, 99, 107]⟩, .int .i64 a, .int .i64 0, .slice none 0 0]) 6 (n := 7) rfl (by kernel_rfl) (HX5.out.drew) (fun hS => ?_)
  refine X_take 0 (some 96) (v := ?_) (listed' := #[true, false, false, false, false, false, false]) rfl rfl rfl (by kernel_rfl) (fun _ _ _ h => h) ⟨rfl, ?_⟩ hS ?_
  rotate_left
  ·intro w' hS'
   (go_simp; try with_reducible rfl)
  simp only [Act.put, List.setIfInBounds_toArray, List.set_cons_zero, List.set_cons_succ]
  refine X_take 1 (some 97) (v := ?_) (listed' := #[true, true, false, false, false, false, false]) rfl rfl rfl (by kernel_rfl) (fun _ _ _ h => h) ⟨rfl, ?_⟩ hS ?_
  rotate_left
  ·intro w' hS'
   have e0 : w'.cell? ⟨q, 0, none⟩ = some (.string ⟨#[116, 105, 99, 107]⟩) := hS'.cell 0
   have e1 : w'.cell? ⟨q, 1, none⟩ = some (.int .i64 a) := hS'.cell 1
   have e2 : w'.cell? ⟨q, 2, none⟩ = some (.int .i64 0) := hS'.cell 2
   have e3 : w'.cell? ⟨q, 3, none⟩ = some (.slice none 0 0) := hS'.cell 3
   have el := hS'.lt
   (go_simp; try with_reducible rfl)
  simp only [Act.put, List.setIfInBounds_toArray, List.set_cons_zero, List.set_cons_succ]
  refine X_take 2 (some 98) (v := ?_) (listed' := #[true, true, true, false, false, false, false]) rfl rfl rfl (by kernel_rfl) (fun _ _ _ h => h) ⟨rfl, ?_⟩ hS ?_
  rotate_left
  ·intro w' hS'
   (go_simp; try with_reducible rfl)
  simp only [Act.put, List.setIfInBounds_toArray, List.set_cons_zero, List.set_cons_succ]
  refine X_one 3 (listed' := #[true, true, true, true, false, false, false]) (by kernel_rfl) rfl rfl (fun K hK => ?_)
  go_simp
  have KY := Lib.hid (next_k 6 HK5.out.drew.ok (by decide) (by decide))
  (with_reducible refine KY.out.mono ?_)
  rintro e w6 ⟨y, rfl, y0, y1, hs⟩
  have HK6 := Lib.hid (HK5.out.drew.trans hs)
  have HR6 := Lib.hid (hs.bk HR5.out.drew (by have := HKg.out; omega))
  have HX6 := Lib.hid (hs.bk HX5.out.drew (by have := HKg.out; have := HW2.out; omega))
  have hwr : IntKind.i64.wrap (a + y) = a + y := by simp [IntKind.wrap_i64]; omega
  refine hK _ _ HX6.out ?_
  clear hK KY hs HK5 HR5 HX5
  refine X_one 4 (listed' := #[true, true, true, true, true, false, false]) (by kernel_rfl) rfl rfl (fun K hK => ?_)
  go_simp
  refine hK _ _ HX6.out ?_
  clear hK
  refine X_one 5 (listed' := #[true, true, true, true, true, true, false]) (by kernel_rfl) rfl rfl (fun K hK => ?_)
  go_simp
  refine hK _ _ HX6.out ?_
  clear hK
  refine X_tail (by kernel_rfl) ?_
  refine A_one 6 (listed' := #[true, true, true, true, true, true, true]) (by kernel_rfl) rfl rfl (fun K hK => ?_)
  have k0 : w6.cell? ⟨q, 0, none⟩ = some (.string ⟨#[116, 105, 99, 107]⟩) := HX6.out.cell 0
  have k1 : w6.cell? ⟨q, 1, none⟩ = some (.int .i64 a) := HX6.out.cell 1
  have k2 : w6.cell? ⟨q, 2, none⟩ = some (.int .i64 0) := HX6.out.cell 2
  have k3 : w6.cell? ⟨q, 3, none⟩ = some (.slice none 0 0) := HX6.out.cell 3
  have kf := HX6.out.frozen 2
  have kl := HX6.out.lt
  go_simp
  refine hK _ _ ?_
  clear hK
  refine A_done (by kernel_rfl) ?_
  clear hS
  have HR7 := Lib.hid (HR6.out.setOther (b := q) (k := 2) (u := .int .i64 (a + y)) (by have := HW2.out; omega))
  have HK7 := Lib.hid (HK6.out.set q 2 (.int .i64 (a + y)) (by have := HW2.out; omega))
  have HX7 := Lib.hid (HX6.out.set 2 (.int .i64 (a + y)))
  have z0 : (w6.setCell ⟨q, 2, none⟩ (.int .i64 (a + y))).cell? ⟨W.heap.size + 1, 0, none⟩ = some (.string ⟨#[]⟩) := HR7.out.cell 0
  have z1 : (w6.setCell ⟨q, 2, none⟩ (.int .i64 (a + y))).cell? ⟨W.heap.size + 1, 1, none⟩ = some (.int .i64 0) := HR7.out.cell 1
  have z2 : (w6.setCell ⟨q, 2, none⟩ (.int .i64 (a + y))).cell? ⟨W.heap.size + 1, 2, none⟩ = some (.int .i64 0) := HR7.out.cell 2
  have z3 : (w6.setCell ⟨q, 2, none⟩ (.int .i64 (a + y))).cell? ⟨W.heap.size + 1, 3, none⟩ = some (.slice none 0 0) := HR7.out.cell 3
  have fz0 := HR7.out.frozen 0
  have fz1 := HR7.out.frozen 1
  have fz2 := HR7.out.frozen 2
  have fz3 := HR7.out.frozen 3
  have hzl := HR7.out.lt
  go_wp2
  have hX := leaf_g (d := 0) (rb := W.heap.size + 1) (op := ⟨#[116, 105, 99, 107]⟩) (a := a) (b := (a + y)) (by omega) HR7.out (by decide) (in64_lt a0 a1 (by first | decide | exact hr4 | exact hi4)) (in64_lt (n := 18) (by omega) (by omega) (by decide)) HK7.out
  generalize ((((w6.setCell ⟨q, 2, none⟩ (.int .i64 (a + y))).setCell ⟨W.heap.size + 1, 0, none⟩ (.string ⟨#[116, 105, 99, 107]⟩)).setCell ⟨W.heap.size + 1, 1, none⟩ (.int .i64 a)).setCell ⟨W.heap.size + 1, 2, none⟩ (.int .i64 (a + y))).setCell ⟨W.heap.size + 1, 3, none⟩ (.slice none 0 0) = X at *
  have xx0 : X.cell? ⟨W.heap.size + 1, 0, none⟩ = some (.string ⟨#[116, 105, 99, 107]⟩) := hX.2.cell 0
  have xx1 : X.cell? ⟨W.heap.size + 1, 1, none⟩ = some (.int .i64 a) := hX.2.cell 1
  have xx2 : X.cell? ⟨W.heap.size + 1, 2, none⟩ = some (.int .i64 (a + y)) := hX.2.cell 2
  have xx3 : X.cell? ⟨W.heap.size + 1, 3, none⟩ = some (.slice none 0 0) := hX.2.cell 3
  refine bodyPost_ret (v := .agg #[.string ⟨#[116, 105, 99, 107]⟩, .int .i64 a, .int .i64 (a + y), .slice none 0 0]) (by simp [results, Tryz.results40, go_sem, xx0, xx1, xx2, xx3]) rfl hX.1
 ·clear x0 x1
  have KN := Lib.hid (condNs_any w1)
  go_wp2_with fail
  refine KN.out.mono ?_
  rintro e w2 ⟨A2, n2, c2, rfl, hN, hb⟩
  obtain ⟨bb, off, rfl, hbb, c0⟩ := hN.at_ 4 (by decide)
  obtain rfl : n2 = 8 := hN.len
  change w2.cell? ⟨bb, off + 4, none⟩ = some (.string ⟨#[105, 116, 101, 109]⟩) at c0
  have HK2 := Lib.hid ((HK1.out.below hb).alloc (.cells #[.string ⟨#[105, 116, 101, 109]⟩, .int .i64 0, .int .i64 0, .slice none 0 0] 35))
  have HC2 := Lib.hid ((HC1.out.below hb HC1.out.lt).alloc (.cells #[.string ⟨#[105, 116, 101, 109]⟩, .int .i64 0, .int .i64 0, .slice none 0 0] 35))
  have HR2 := Lib.hid ((HR1.out.below hb HR1.out.lt).alloc (.cells #[.string ⟨#[105, 116, 101, 109]⟩, .int .i64 0, .int .i64 0, .slice none 0 0] 35))
  have HX2 := Lib.hid (Bk.new w2 35 [.string ⟨#[105, 116, 101, 109]⟩, .int .i64 0, .int .i64 0, .slice none 0 0])
  have HW2 : Hid (W.heap.size + 2 ≤ w2.heap.size) := Lib.hid (by have h1 := HR1.out.lt; have h2 := hb.size; omega)
  clear KN hN hb
  have x0 : (w2.alloc (.cells #[.string ⟨#[105, 116, 101, 109]⟩, .int .i64 0, .int .i64 0, .slice none 0 0] 35)).cell? ⟨w2.heap.size, 0, none⟩ = some (.string ⟨#[105, 116, 101, 109]⟩) := HX2.out.cell 0
  have y0 : (w2.alloc (.cells #[.string ⟨#[105, 116, 101, 109]⟩, .int .i64 0, .int .i64 0, .slice none 0 0] 35)).cell? ⟨W.heap.size, 0, none⟩ = some (.slice si.A si.n si.c) := HC2.out.cell 0
  have y1 : (w2.alloc (.cells #[.string ⟨#[105, 116, 101, 109]⟩, .int .i64 0, .int .i64 0, .slice none 0 0] 35)).cell? ⟨W.heap.size, 1, none⟩ = some (.slice sr.A sr.n sr.c) := HC2.out.cell 1
  have yl := HC2.out.lt
  have KX := Lib.hid (next_k (si.n : Int) HK2.out.ok hi1 hi2)
  go_wp2_with fail
  (with_reducible refine KX.out.mono ?_)
  rintro e w4 ⟨a, rfl, a0, a1, hs⟩
  have HK4 := Lib.hid (HK2.out.trans hs)
  have HC4 := Lib.hid (hs.bk HC2.out (by have := HKg.out; omega))
  have HR4 := Lib.hid (hs.bk HR2.out (by have := HKg.out; omega))
  have HX4 := Lib.hid (hs.bk HX2.out (by have := HKg.out; have := HW2.out; omega))
  clear KX hs x0 y0 y1 yl HK2 HC2 HR2 HX2
  obtain ⟨q, hq⟩ : ∃ q, w2.heap.size = q := ⟨_, rfl⟩
  rw [hq] at HX4 HW2
  try simp only [hq]
  clear hq
  have u0 : w4.cell? ⟨q, 0, none⟩ = some (.string ⟨#[105, 116, 101, 109]⟩) := HX4.out.cell 0
  have u1 : w4.cell? ⟨q, 1, none⟩ = some (.int .i64 0) := HX4.out.cell 1
  have u2 : w4.cell? ⟨q, 2, none⟩ = some (.int .i64 0) := HX4.out.cell 2
  have u3 : w4.cell? ⟨q, 3, none⟩ = some (.slice none 0 0) := HX4.out.cell 3
  have v1 := HX4.out.frozen 1
  have v2 := HX4.out.frozen 2
  have ul := HX4.out.lt
  have HR5 := Lib.hid (HR4.out.setOther (b := q) (k := 1) (u := .int .i64 a) (by have := HW2.out; omega))
  have HK5 := Lib.hid (HK4.out.set q 1 (.int .i64 a) (by have := HW2.out; omega))
  have HX5 := Lib.hid (HX4.out.set 1 (.int .i64 a))
  have z0 : (w4.setCell ⟨q, 1, none⟩ (.int .i64 a)).cell? ⟨W.heap.size + 1, 0, none⟩ = some (.string ⟨#[]⟩) := HR5.out.cell 0
  have z1 : (w4.setCell ⟨q, 1, none⟩ (.int .i64 a)).cell? ⟨W.heap.size + 1, 1, none⟩ = some (.int .i64 0) := HR5.out.cell 1
  have z2 : (w4.setCell ⟨q, 1, none⟩ (.int .i64 a)).cell? ⟨W.heap.size + 1, 2, none⟩ = some (.int .i64 0) := HR5.out.cell 2
  have z3 : (w4.setCell ⟨q, 1, none⟩ (.int .i64 a)).cell? ⟨W.heap.size + 1, 3, none⟩ = some (.slice none 0 0) := HR5.out.cell 3
  have fz0 := HR5.out.frozen 0
  have fz1 := HR5.out.frozen 1
  have fz2 := HR5.out.frozen 2
  have fz3 := HR5.out.frozen 3
  have hzl := HR5.out.lt
  go_wp2
  have hX := leaf_g (d := 0) (rb := W.heap.size + 1) (op := ⟨#[105, 116, 101, 109]⟩) (a := a) (b := 0) (by omega) HR5.out (by decide) (in64_lt a0 a1 (by first | decide | exact hr4 | exact hi4)) ⟨by decide, by decide⟩ HK5.out
  generalize ((((w4.setCell ⟨q, 1, none⟩ (.int .i64 a)).setCell ⟨W.heap.size + 1, 0, none⟩ (.string ⟨#[105, 116, 101, 109]⟩)).setCell ⟨W.heap.size + 1, 1, none⟩ (.int .i64 a)).setCell ⟨W.heap.size + 1, 2, none⟩ (.int .i64 0)).setCell ⟨W.heap.size + 1, 3, none⟩ (.slice none 0 0) = X at *
  have xx0 : X.cell? ⟨W.heap.size + 1, 0, none⟩ = some (.string ⟨#[105, 116, 101, 109]⟩) := hX.2.cell 0
  have xx1 : X.cell? ⟨W.heap.size + 1, 1, none⟩ = some (.int .i64 a) := hX.2.cell 1
  have xx2 : X.cell? ⟨W.heap.size + 1, 2, none⟩ = some (.int .i64 0) := hX.2.cell 2
  have xx3 : X.cell? ⟨W.heap.size + 1, 3, none⟩ = some (.slice none 0 0) := hX.2.cell 3
  refine bodyPost_ret (v := .agg #[.string ⟨#[105, 116, 101, 109]⟩, .int .i64 a, .int .i64 0, .slice none 0 0]) (by simp [results, Tryz.results40, go_sem, xx0, xx1, xx2, xx3]) rfl hX.1
 ·clear x0 x1
  have KN := Lib.hid (condNs_any w1)
  go_wp2_with fail
  refine KN.out.mono ?_
  rintro e w2 ⟨A2, n2, c2, rfl, hN, hb⟩
  obtain ⟨bb, off, rfl, hbb, c0⟩ := hN.at_ 5 (by decide)
  obtain rfl : n2 = 8 := hN.len
  change w2.cell? ⟨bb, off + 5, none⟩ = some (.string ⟨#[109, 111, 114, 101]⟩) at c0
  have HK2 := Lib.hid ((HK1.out.below hb).alloc (.cells #[.string ⟨#[109, 111, 114, 101]⟩, .int .i64 0, .int .i64 0, .slice none 0 0] 35))
  have HC2 := Lib.hid ((HC1.out.below hb HC1.out.lt).alloc (.cells #[.string ⟨#[109, 111, 114, 101]⟩, .int .i64 0, .int .i64 0, .slice none 0 0] 35))
  have HR2 := Lib.hid ((HR1.out.below hb HR1.out.lt).alloc (.cells #[.string ⟨#[109, 111, 114, 101]⟩, .int .i64 0, .int .i64 0, .slice none 0 0] 35))
  have HX2 := Lib.hid (Bk.new w2 35 [.string ⟨#[109, 111, 114, 101]⟩, .int .i64 0, .int .i64 0, .slice none 0 0])
  have HW2 : Hid (W.heap.size + 2 ≤ w2.heap.size) := Lib.hid (by have h1 := HR1.out.lt; have h2 := hb.size; omega)
  clear KN hN hb
  have x0 : (w2.alloc (.cells #[.string ⟨#[109, 111, 114, 101]⟩, .int .i64 0, .int .i64 0, .slice none 0 0] 35)).cell? ⟨w2.heap.size, 0, none⟩ = some (.string ⟨#[109, 111, 114, 101]⟩) := HX2.out.cell 0
  have y0 : (w2.alloc (.cells #[.string ⟨#[109, 111, 114, 101]⟩, .int .i64 0, .int .i64 0, .slice none 0 0] 35)).cell? ⟨W.heap.size, 0, none⟩ = some (.slice si.A si.n si.c) := HC2.out.cell 0
  have y1 : (w2.alloc (.cells #[.string ⟨#[109, 111, 114, 101]⟩, .int .i64 0, .int .i64 0, .slice none 0 0] 35)).cell? ⟨W.heap.size, 1, none⟩ = some (.slice sr.A sr.n sr.c) := HC2.out.cell 1
  have yl := HC2.out.lt
  have KX := Lib.hid (next_k 9 HK2.out.ok (by decide) (by decide))
  go_wp2_with fail
  (with_reducible refine KX.out.mono ?_)
  rintro e w4 ⟨a, rfl, a0, a1, hs⟩
  have HK4 := Lib.hid (HK2.out.trans hs)
  have HC4 := Lib.hid (hs.bk HC2.out (by have := HKg.out; omega))
  have HR4 := Lib.hid (hs.bk HR2.out (by have := HKg.out; omega))
  have HX4 := Lib.hid (hs.bk HX2.out (by have := HKg.out; have := HW2.out; omega))
  clear KX hs x0 y0 y1 yl HK2 HC2 HR2 HX2
  obtain ⟨q, hq⟩ : ∃ q, w2.heap.size = q := ⟨_, rfl⟩
  rw [hq] at HX4 HW2
  try simp only [hq]
  clear hq
  have u0 : w4.cell? ⟨q, 0, none⟩ = some (.string ⟨#[109, 111, 114, 101]⟩) := HX4.out.cell 0
  have u1 : w4.cell? ⟨q, 1, none⟩ = some (.int .i64 0) := HX4.out.cell 1
  have u2 : w4.cell? ⟨q, 2, none⟩ = some (.int .i64 0) := HX4.out.cell 2
  have u3 : w4.cell? ⟨q, 3, none⟩ = some (.slice none 0 0) := HX4.out.cell 3
  have v1 := HX4.out.frozen 1
  have v2 := HX4.out.frozen 2
  have ul := HX4.out.lt
  have HR5 := Lib.hid (HR4.out.setOther (b := q) (k := 1) (u := .int .i64 a) (by have := HW2.out; omega))
  have HK5 := Lib.hid (HK4.out.set q 1 (.int .i64 a) (by have := HW2.out; omega))
  have HX5 := Lib.hid (HX4.out.set 1 (.int .i64 a))
  have HC5 := Lib.hid (HC4.out.setOther (b := q) (k := 1) (u := .int .i64 a) (by have := HW2.out; omega))
  have y0 : (w4.setCell ⟨q, 1, none⟩ (.int .i64 a)).cell? ⟨W.heap.size, 0, none⟩ = some (.slice si.A si.n si.c) := HC5.out.cell 0
  have yl := HC5.out.lt
  have KY := Lib.hid (next_k (si.n : Int) HK5.out.ok hi1 hi2)
  go_wp2_with fail
  (with_reducible refine KY.out.mono ?_)
  rintro e w6 ⟨b, rfl, b0, b1, hs⟩
  have HK6 := Lib.hid (HK5.out.trans hs)
  have HR6 := Lib.hid (hs.bk HR5.out (by have := HKg.out; omega))
  have HX6 := Lib.hid (hs.bk HX5.out (by have := HKg.out; have := HW2.out; omega))
  clear KY hs y0 yl HC5 HK5 HR5 HX5 u0 u1 u2 u3 v1 v2 ul
  have k0 : w6.cell? ⟨q, 0, none⟩ = some (.string ⟨#[109, 111, 114, 101]⟩) := HX6.out.cell 0
  have k1 : w6.cell? ⟨q, 1, none⟩ = some (.int .i64 a) := HX6.out.cell 1
  have k2 : w6.cell? ⟨q, 2, none⟩ = some (.int .i64 0) := HX6.out.cell 2
  have k3 : w6.cell? ⟨q, 3, none⟩ = some (.slice none 0 0) := HX6.out.cell 3
  have kf := HX6.out.frozen 2
  have kl := HX6.out.lt
  have HR7 := Lib.hid (HR6.out.setOther (b := q) (k := 2) (u := .int .i64 b) (by have := HW2.out; omega))
  have HK7 := Lib.hid (HK6.out.set q 2 (.int .i64 b) (by have := HW2.out; omega))
  have HX7 := Lib.hid (HX6.out.set 2 (.int .i64 b))
  have z0 : (w6.setCell ⟨q, 2, none⟩ (.int .i64 b)).cell? ⟨W.heap.size + 1, 0, none⟩ = some (.string ⟨#[]⟩) := HR7.out.cell 0
  have z1 : (w6.setCell ⟨q, 2, none⟩ (.int .i64 b)).cell? ⟨W.heap.size + 1, 1, none⟩ = some (.int .i64 0) := HR7.out.cell 1
  have z2 : (w6.setCell ⟨q, 2, none⟩ (.int .i64 b)).cell? ⟨W.heap.size + 1, 2, none⟩ = some (.int .i64 0) := HR7.out.cell 2
  have z3 : (w6.setCell ⟨q, 2, none⟩ (.int .i64 b)).cell? ⟨W.heap.size + 1, 3, none⟩ = some (.slice none 0 0) := HR7.out.cell 3
  have fz0 := HR7.out.frozen 0
  have fz1 := HR7.out.frozen 1
  have fz2 := HR7.out.frozen 2
  have fz3 := HR7.out.frozen 3
  have hzl := HR7.out.lt
  go_wp2
  have hX := leaf_g (d := 0) (rb := W.heap.size + 1) (op := ⟨#[109, 111, 114, 101]⟩) (a := a) (b := b) (by omega) HR7.out (by decide) (in64_lt a0 a1 (by decide)) (in64_lt b0 b1 hi4) HK7.out
  generalize ((((w6.setCell ⟨q, 2, none⟩ (.int .i64 b)).setCell ⟨W.heap.size + 1, 0, none⟩ (.string ⟨#[109, 111, 114, 101]⟩)).setCell ⟨W.heap.size + 1, 1, none⟩ (.int .i64 a)).setCell ⟨W.heap.size + 1, 2, none⟩ (.int .i64 b)).setCell ⟨W.heap.size + 1, 3, none⟩ (.slice none 0 0) = X at *
  have xx0 : X.cell? ⟨W.heap.size + 1, 0, none⟩ = some (.string ⟨#[109, 111, 114, 101]⟩) := hX.2.cell 0
  have xx1 : X.cell? ⟨W.heap.size + 1, 1, none⟩ = some (.int .i64 a) := hX.2.cell 1
  have xx2 : X.cell? ⟨W.heap.size + 1, 2, none⟩ = some (.int .i64 b) := hX.2.cell 2
  have xx3 : X.cell? ⟨W.heap.size + 1, 3, none⟩ = some (.slice none 0 0) := hX.2.cell 3
  refine bodyPost_ret (v := .agg #[.string ⟨#[109, 111, 114, 101]⟩, .int .i64 a, .int .i64 b, .slice none 0 0]) (by simp [results, Tryz.results40, go_sem, xx0, xx1, xx2, xx3]) rfl hX.1
 ·clear x0 x1
  have KN := Lib.hid (condNs_any w1)
  go_wp2_with fail
  refine KN.out.mono ?_
  rintro e w2 ⟨A2, n2, c2, rfl, hN, hb⟩
  obtain ⟨bb, off, rfl, hbb, c0⟩ := hN.at_ 6 (by decide)
  obtain rfl : n2 = 8 := hN.len
  change w2.cell? ⟨bb, off + 6, none⟩ = some (.string ⟨#[115, 116, 101, 112]⟩) at c0
  have HK2 := Lib.hid ((HK1.out.below hb).alloc (.cells #[.string ⟨#[115, 116, 101, 112]⟩, .int .i64 0, .int .i64 0, .slice none 0 0] 35))
  have HC2 := Lib.hid ((HC1.out.below hb HC1.out.lt).alloc (.cells #[.string ⟨#[115, 116, 101, 112]⟩, .int .i64 0, .int .i64 0, .slice none 0 0] 35))
  have HR2 := Lib.hid ((HR1.out.below hb HR1.out.lt).alloc (.cells #[.string ⟨#[115, 116, 101, 112]⟩, .int .i64 0, .int .i64 0, .slice none 0 0] 35))
  have HX2 := Lib.hid (Bk.new w2 35 [.string ⟨#[115, 116, 101, 112]⟩, .int .i64 0, .int .i64 0, .slice none 0 0])
  have HW2 : Hid (W.heap.size + 2 ≤ w2.heap.size) := Lib.hid (by have h1 := HR1.out.lt; have h2 := hb.size; omega)
  clear KN hN hb
  have x0 : (w2.alloc (.cells #[.string ⟨#[115, 116, 101, 112]⟩, .int .i64 0, .int .i64 0, .slice none 0 0] 35)).cell? ⟨w2.heap.size, 0, none⟩ = some (.string ⟨#[115, 116, 101, 112]⟩) := HX2.out.cell 0
  have y0 : (w2.alloc (.cells #[.string ⟨#[115, 116, 101, 112]⟩, .int .i64 0, .int .i64 0, .slice none 0 0] 35)).cell? ⟨W.heap.size, 0, none⟩ = some (.slice si.A si.n si.c) := HC2.out.cell 0
  have y1 : (w2.alloc (.cells #[.string ⟨#[115, 116, 101, 112]⟩, .int .i64 0, .int .i64 0, .slice none 0 0] 35)).cell? ⟨W.heap.size, 1, none⟩ = some (.slice sr.A sr.n sr.c) := HC2.out.cell 1
  have yl := HC2.out.lt
  have KX := Lib.hid (next_k 12 HK2.out.ok (by decide) (by decide))
  go_wp2_with fail
  (with_reducible refine KX.out.mono ?_)
  rintro e w4 ⟨a, rfl, a0, a1, hs⟩
  have HK4 := Lib.hid (HK2.out.trans hs)
  have HC4 := Lib.hid (hs.bk HC2.out (by have := HKg.out; omega))
  have HR4 := Lib.hid (hs.bk HR2.out (by have := HKg.out; omega))
  have HX4 := Lib.hid (hs.bk HX2.out (by have := HKg.out; have := HW2.out; omega))
  clear KX hs x0 y0 y1 yl HK2 HC2 HR2 HX2
  obtain ⟨q, hq⟩ : ∃ q, w2.heap.size = q := ⟨_, rfl⟩
  rw [hq] at HX4 HW2
  try simp only [hq]
  clear hq
  have u0 : w4.cell? ⟨q, 0, none⟩ = some (.string ⟨#[115, 116, 101, 112]⟩) := HX4.out.cell 0
  have u1 : w4.cell? ⟨q, 1, none⟩ = some (.int .i64 0) := HX4.out.cell 1
  have u2 : w4.cell? ⟨q, 2, none⟩ = some (.int .i64 0) := HX4.out.cell 2
  have u3 : w4.cell? ⟨q, 3, none⟩ = some (.slice none 0 0) := HX4.out.cell 3
  have v1 := HX4.out.frozen 1
  have v2 := HX4.out.frozen 2
  have ul := HX4.out.lt
  have HR5 := Lib.hid (HR4.out.setOther (b := q) (k := 1) (u := .int .i64 a) (by have := HW2.out; omega))
  have HK5 := Lib.hid (HK4.out.set q 1 (.int .i64 a) (by have := HW2.out; omega))
  have HX5 := Lib.hid (HX4.out.set 1 (.int .i64 a))
  go_wp2
  refine wp_region_X (fun w' => Bk w' q 35 [.string ⟨#[115, 116, 101, 112]⟩, .int .i64 a, .int .i64 0, .slice none 0 0]) 6 (n := 7) rfl (by kernel_rfl) (HX5.out.drew) (fun hS => ?_)
  refine X_take 0 (some 96) (v := ?_) (listed' := #[true, false, false, false, false, false, false]) rfl rfl rfl (by kernel_rfl) (fun _ _ _ h => h) ⟨rfl, ?_⟩ hS ?_
  rotate_left
  ·intro w' hS'
   (go_simp; try with_reducible rfl)
  simp only [Act.put, List.setIfInBounds_toArray, List.set_cons_zero, List.set_cons_succ]
  refine X_take 1 (some 97) (v := ?_) (listed' := #[true, true, false, false, false, false, false]) rfl rfl rfl (by kernel_rfl) (fun _ _ _ h => h) ⟨rfl, ?_⟩ hS ?_
  rotate_left
  ·intro w' hS'
   have e0 : w'.cell? ⟨q, 0, none⟩ = some (.string ⟨#[115, 116, 101, 112]⟩) := hS'.cell 0
   have e1 : w'.cell? ⟨q, 1, none⟩ = some (.int .i64 a) := hS'.cell 1
   have e2 : w'.cell? ⟨q, 2, none⟩ = some (.int .i64 0) := hS'.cell 2
   have e3 : w'.cell? ⟨q, 3, none⟩ = some (.slice none 0 0) := hS'.cell 3
   have el := hS'.lt
   (go_simp; try with_reducible rfl)
  simp only [Act.put, List.setIfInBounds_toArray, List.set_cons_zero, List.set_cons_succ]
  refine X_take 2 (some 98) (v := ?_) (listed' := #[true, true, true, false, false, false, false]) rfl rfl rfl (by kernel_rfl) (fun _ _ _ h => h) ⟨rfl, ?_⟩ hS ?_
  rotate_left
  ·intro w' hS'
   (go_simp; try with_reducible rfl)
  simp only [Act.put, List.setIfInBounds_toArray, List.set_cons_zero, List.set_cons_succ]
  refine X_one 3 (listed' := #[true, true, true, true, false, false, false]) (by kernel_rfl) rfl rfl (fun K hK => ?_)
  go_simp
  have KY := Lib.hid (next_k 6 HK5.out.drew.ok (by decide) (by decide))
  (with_reducible refine KY.out.mono ?_)
  rintro e w6 ⟨y, rfl, y0, y1, hs⟩
  have HK6 := Lib.hid (HK5.out.drew.trans hs)
  have HR6 := Lib.hid (hs.bk HR5.out.drew (by have := HKg.out; omega))
  have HX6 := Lib.hid (hs.bk HX5.out.drew (by have := HKg.out; have := HW2.out; omega))
  have hwr : IntKind.i64.wrap (a + y) = a + y := by simp [IntKind.wrap_i64]; omega
  refine hK _ _ HX6.out ?_
  clear hK KY hs HK5 HR5 HX5
  refine X_one 4 (listed' := #[true, true, true, true, true, false, false]) (by kernel_rfl) rfl rfl (fun K hK => ?_)
  go_simp
  refine hK _ _ HX6.out ?_
  clear hK
  refine X_one 5 (listed' := #[true, true, true, true, true, true, false]) (by kernel_rfl) rfl rfl (fun K hK => ?_)
  go_simp
  refine hK _ _ HX6.out ?_
  clear hK
  refine X_tail (by kernel_rfl) ?_
  refine A_one 6 (listed' := #[true, true, true, true, true, true, true]) (by kernel_rfl) rfl rfl (fun K hK => ?_)
  have k0 : w6.cell? ⟨q, 0, none⟩ = some (.string ⟨#[115, 116, 101, 112]⟩) := HX6.out.cell 0
  have k1 : w6.cell? ⟨q, 1, none⟩ = some (.int .i64 a) := HX6.out.cell 1
  have k2 : w6.cell? ⟨q, 2, none⟩ = some (.int .i64 0) := HX6.out.cell 2
  have k3 : w6.cell? ⟨q, 3, none⟩ = some (.slice none 0 0) := HX6.out.cell 3
  have kf := HX6.out.frozen 2
  have kl := HX6.out.lt
  go_simp
  refine hK _ _ ?_
  clear hK
  refine A_done (by kernel_rfl) ?_
  clear hS
  have HR7 := Lib.hid (HR6.out.setOther (b := q) (k := 2) (u := .int .i64 (a + y)) (by have := HW2.out; omega))
  have HK7 := Lib.hid (HK6.out.set q 2 (.int .i64 (a + y)) (by have := HW2.out; omega))
  have HX7 := Lib.hid (HX6.out.set 2 (.int .i64 (a + y)))
  have z0 : (w6.setCell ⟨q, 2, none⟩ (.int .i64 (a + y))).cell? ⟨W.heap.size + 1, 0, none⟩ = some (.string ⟨#[]⟩) := HR7.out.cell 0
  have z1 : (w6.setCell ⟨q, 2, none⟩ (.int .i64 (a + y))).cell? ⟨W.heap.size + 1, 1, none⟩ = some (.int .i64 0) := HR7.out.cell 1
  have z2 : (w6.setCell ⟨q, 2, none⟩ (.int .i64 (a + y))).cell? ⟨W.heap.size + 1, 2, none⟩ = some (.int .i64 0) := HR7.out.cell 2
  have z3 : (w6.setCell ⟨q, 2, none⟩ (.int .i64 (a + y))).cell? ⟨W.heap.size + 1, 3, none⟩ = some (.slice none 0 0) := HR7.out.cell 3
  have fz0 := HR7.out.frozen 0
  have fz1 := HR7.out.frozen 1
  have fz2 := HR7.out.frozen 2
  have fz3 := HR7.out.frozen 3
  have hzl := HR7.out.lt
  go_wp2
  have hX := leaf_g (d := 0) (rb := W.heap.size + 1) (op := ⟨#[115, 116, 101, 112]⟩) (a := a) (b := (a + y)) (by omega) HR7.out (by decide) (in64_lt a0 a1 (by first | decide | exact hr4 | exact hi4)) (in64_lt (n := 18) (by omega) (by omega) (by decide)) HK7.out
  generalize ((((w6.setCell ⟨q, 2, none⟩ (.int .i64 (a + y))).setCell ⟨W.heap.size + 1, 0, none⟩ (.string ⟨#[115, 116, 101, 112]⟩)).setCell ⟨W.heap.size + 1, 1, none⟩ (.int .i64 a)).setCell ⟨W.heap.size + 1, 2, none⟩ (.int .i64 (a + y))).setCell ⟨W.heap.size + 1, 3, none⟩ (.slice none 0 0) = X at *
  have xx0 : X.cell? ⟨W.heap.size + 1, 0, none⟩ = some (.string ⟨#[115, 116, 101, 112]⟩) := hX.2.cell 0
  have xx1 : X.cell? ⟨W.heap.size + 1, 1, none⟩ = some (.int .i64 a) := hX.2.cell 1
  have xx2 : X.cell? ⟨W.heap.size + 1, 2, none⟩ = some (.int .i64 (a + y)) := hX.2.cell 2
  have xx3 : X.cell? ⟨W.heap.size + 1, 3, none⟩ = some (.slice none 0 0) := hX.2.cell 3
  refine bodyPost_ret (v := .agg #[.string ⟨#[115, 116, 101, 112]⟩, .int .i64 a, .int .i64 (a + y), .slice none 0 0]) (by simp [results, Tryz.results40, go_sem, xx0, xx1, xx2, xx3]) rfl hX.1
 ·clear x0 x1
  have KN := Lib.hid (condNs_any w1)
  go_wp2_with fail
  refine KN.out.mono ?_
  rintro e w2 ⟨A2, n2, c2, rfl, hN, hb⟩
  obtain ⟨bb, off, rfl, hbb, c0⟩ := hN.at_ 7 (by decide)
  obtain rfl : n2 = 8 := hN.len
  change w2.cell? ⟨bb, off + 7, none⟩ = some (.string ⟨#[97, 99, 99, 111, 117, 110, 116]⟩) at c0
  have HK2 := Lib.hid ((HK1.out.below hb).alloc (.cells #[.string ⟨#[97, 99, 99, 111, 117, 110, 116]⟩, .int .i64 0, .int .i64 0, .slice none 0 0] 35))
  have HC2 := Lib.hid ((HC1.out.below hb HC1.out.lt).alloc (.cells #[.string ⟨#[97, 99, 99, 111, 117, 110, 116]⟩, .int .i64 0, .int .i64 0, .slice none 0 0] 35))
  have HR2 := Lib.hid ((HR1.out.below hb HR1.out.lt).alloc (.cells #[.string ⟨#[97, 99, 99, 111, 117, 110, 116]⟩, .int .i64 0, .int .i64 0, .slice none 0 0] 35))
  have HX2 := Lib.hid (Bk.new w2 35 [.string ⟨#[97, 99, 99, 111, 117, 110, 116]⟩, .int .i64 0, .int .i64 0, .slice none 0 0])
  have HW2 : Hid (W.heap.size + 2 ≤ w2.heap.size) := Lib.hid (by have h1 := HR1.out.lt; have h2 := hb.size; omega)
  clear KN hN hb
  have x0 : (w2.alloc (.cells #[.string ⟨#[97, 99, 99, 111, 117, 110, 116]⟩, .int .i64 0, .int .i64 0, .slice none 0 0] 35)).cell? ⟨w2.heap.size, 0, none⟩ = some (.string ⟨#[97, 99, 99, 111, 117, 110, 116]⟩) := HX2.out.cell 0
  have y0 : (w2.alloc (.cells #[.string ⟨#[97, 99, 99, 111, 117, 110, 116]⟩, .int .i64 0, .int .i64 0, .slice none 0 0] 35)).cell? ⟨W.heap.size, 0, none⟩ = some (.slice si.A si.n si.c) := HC2.out.cell 0
  have y1 : (w2.alloc (.cells #[.string ⟨#[97, 99, 99, 111, 117, 110, 116]⟩, .int .i64 0, .int .i64 0, .slice none 0 0] 35)).cell? ⟨W.heap.size, 1, none⟩ = some (.slice sr.A sr.n sr.c) := HC2.out.cell 1
  have yl := HC2.out.lt
  have KX := Lib.hid (next_k 6 HK2.out.ok (by decide) (by decide))
  go_wp2_with fail
  (with_reducible refine KX.out.mono ?_)
  rintro e w4 ⟨a, rfl, a0, a1, hs⟩
  have HK4 := Lib.hid (HK2.out.trans hs)
  have HC4 := Lib.hid (hs.bk HC2.out (by have := HKg.out; omega))
  have HR4 := Lib.hid (hs.bk HR2.out (by have := HKg.out; omega))
  have HX4 := Lib.hid (hs.bk HX2.out (by have := HKg.out; have := HW2.out; omega))
  clear KX hs x0 y0 y1 yl HK2 HC2 HR2 HX2
  obtain ⟨q, hq⟩ : ∃ q, w2.heap.size = q := ⟨_, rfl⟩
  rw [hq] at HX4 HW2
  try simp only [hq]
  clear hq
  have u0 : w4.cell? ⟨q, 0, none⟩ = some (.string ⟨#[97, 99, 99, 111, 117, 110, 116]⟩) := HX4.out.cell 0
  have u1 : w4.cell? ⟨q, 1, none⟩ = some (.int .i64 0) := HX4.out.cell 1
  have u2 : w4.cell? ⟨q, 2, none⟩ = some (.int .i64 0) := HX4.out.cell 2
  have u3 : w4.cell? ⟨q, 3, none⟩ = some (.slice none 0 0) := HX4.out.cell 3
  have v1 := HX4.out.frozen 1
  have v2 := HX4.out.frozen 2
  have ul := HX4.out.lt
  have HR5 := Lib.hid (HR4.out.setOther (b := q) (k := 1) (u := .int .i64 a) (by have := HW2.out; omega))
  have HK5 := Lib.hid (HK4.out.set q 1 (.int .i64 a) (by have := HW2.out; omega))
  have HX5 := Lib.hid (HX4.out.set 1 (.int .i64 a))
  have z0 : (w4.setCell ⟨q, 1, none⟩ (.int .i64 a)).cell? ⟨W.heap.size + 1, 0, none⟩ = some (.string ⟨#[]⟩) := HR5.out.cell 0
  have z1 : (w4.setCell ⟨q, 1, none⟩ (.int .i64 a)).cell? ⟨W.heap.size + 1, 1, none⟩ = some (.int .i64 0) := HR5.out.cell 1
  have z2 : (w4.setCell ⟨q, 1, none⟩ (.int .i64 a)).cell? ⟨W.heap.size + 1, 2, none⟩ = some (.int .i64 0) := HR5.out.cell 2
  have z3 : (w4.setCell ⟨q, 1, none⟩ (.int .i64 a)).cell? ⟨W.heap.size + 1, 3, none⟩ = some (.slice none 0 0) := HR5.out.cell 3
  have fz0 := HR5.out.frozen 0
  have fz1 := HR5.out.frozen 1
  have fz2 := HR5.out.frozen 2
  have fz3 := HR5.out.frozen 3
  have hzl := HR5.out.lt
  go_wp2
  have hX := leaf_g (d := 0) (rb := W.heap.size + 1) (op := ⟨#[97, 99, 99, 111, 117, 110, 116]⟩) (a := a) (b := 0) (by omega) HR5.out (by decide) (in64_lt a0 a1 (by first | decide | exact hr4 | exact hi4)) ⟨by decide, by decide⟩ HK5.out
  generalize ((((w4.setCell ⟨q, 1, none⟩ (.int .i64 a)).setCell ⟨W.heap.size + 1, 0, none⟩ (.string ⟨#[97, 99, 99, 111, 117, 110, 116]⟩)).setCell ⟨W.heap.size + 1, 1, none⟩ (.int .i64 a)).setCell ⟨W.heap.size + 1, 2, none⟩ (.int .i64 0)).setCell ⟨W.heap.size + 1, 3, none⟩ (.slice none 0 0) = X at *
  have xx0 : X.cell? ⟨W.heap.size + 1, 0, none⟩ = some (.string ⟨#[97, 99, 99, 111, 117, 110, 116]⟩) := hX.2.cell 0
  have xx1 : X.cell? ⟨W.heap.size + 1, 1, none⟩ = some (.int .i64 a) := hX.2.cell 1
  have xx2 : X.cell? ⟨W.heap.size + 1, 2, none⟩ = some (.int .i64 0) := hX.2.cell 2
  have xx3 : X.cell? ⟨W.heap.size + 1, 3, none⟩ = some (.slice none 0 0) := hX.2.cell 3
  refine bodyPost_ret (v := .agg #[.string ⟨#[97, 99, 99, 111, 117, 110, 116]⟩, .int .i64 a, .int .i64 0, .slice none 0 0]) (by simp [results, Tryz.results40, go_sem, xx0, xx1, xx2, xx3]) rfl hX.1
 ·clear x0 x1
  have KN := Lib.hid (condNs_any w1)
  go_wp2_with fail
  refine KN.out.mono ?_
  rintro e w2 ⟨A2, n2, c2, rfl, hN, hb⟩
  obtain ⟨bb, off, rfl, hbb, c0⟩ := hN.at_ 0 (by decide)
  obtain rfl : n2 = 8 := hN.len
  change w2.cell? ⟨bb, off, none⟩ = some (.string ⟨#[107, 105, 110, 100]⟩) at c0
  have HK2 := Lib.hid ((HK1.out.below hb).alloc (.cells #[.string ⟨#[107, 105, 110, 100]⟩, .int .i64 0, .int .i64 0, .slice none 0 0] 35))
  have HC2 := Lib.hid ((HC1.out.below hb HC1.out.lt).alloc (.cells #[.string ⟨#[107, 105, 110, 100]⟩, .int .i64 0, .int .i64 0, .slice none 0 0] 35))
  have HR2 := Lib.hid ((HR1.out.below hb HR1.out.lt).alloc (.cells #[.string ⟨#[107, 105, 110, 100]⟩, .int .i64 0, .int .i64 0, .slice none 0 0] 35))
  have HX2 := Lib.hid (Bk.new w2 35 [.string ⟨#[107, 105, 110, 100]⟩, .int .i64 0, .int .i64 0, .slice none 0 0])
  have HW2 : Hid (W.heap.size + 2 ≤ w2.heap.size) := Lib.hid (by have h1 := HR1.out.lt; have h2 := hb.size; omega)
  clear KN hN hb
  have x0 : (w2.alloc (.cells #[.string ⟨#[107, 105, 110, 100]⟩, .int .i64 0, .int .i64 0, .slice none 0 0] 35)).cell? ⟨w2.heap.size, 0, none⟩ = some (.string ⟨#[107, 105, 110, 100]⟩) := HX2.out.cell 0
  have y0 : (w2.alloc (.cells #[.string ⟨#[107, 105, 110, 100]⟩, .int .i64 0, .int .i64 0, .slice none 0 0] 35)).cell? ⟨W.heap.size, 0, none⟩ = some (.slice si.A si.n si.c) := HC2.out.cell 0
  have y1 : (w2.alloc (.cells #[.string ⟨#[107, 105, 110, 100]⟩, .int .i64 0, .int .i64 0, .slice none 0 0] 35)).cell? ⟨W.heap.size, 1, none⟩ = some (.slice sr.A sr.n sr.c) := HC2.out.cell 1
  have yl := HC2.out.lt
  have KX := Lib.hid (next_k 11 HK2.out.ok (by decide) (by decide))
  go_wp2_with fail
  (with_reducible refine KX.out.mono ?_)
  rintro e w4 ⟨a, rfl, a0, a1, hs⟩
  have HK4 := Lib.hid (HK2.out.trans hs)
  have HC4 := Lib.hid (hs.bk HC2.out (by have := HKg.out; omega))
  have HR4 := Lib.hid (hs.bk HR2.out (by have := HKg.out; omega))
  have HX4 := Lib.hid (hs.bk HX2.out (by have := HKg.out; have := HW2.out; omega))
  clear KX hs x0 y0 y1 yl HK2 HC2 HR2 HX2
  obtain ⟨q, hq⟩ : ∃ q, w2.heap.size = q := ⟨_, rfl⟩
  rw [hq] at HX4 HW2
  try simp only [hq]
  clear hq
  have u0 : w4.cell? ⟨q, 0, none⟩ = some (.string ⟨#[107, 105, 110, 100]⟩) := HX4.out.cell 0
  have u1 : w4.cell? ⟨q, 1, none⟩ = some (.int .i64 0) := HX4.out.cell 1
  have u2 : w4.cell? ⟨q, 2, none⟩ = some (.int .i64 0) := HX4.out.cell 2
  have u3 : w4.cell? ⟨q, 3, none⟩ = some (.slice none 0 0) := HX4.out.cell 3
  have v1 := HX4.out.frozen 1
  have v2 := HX4.out.frozen 2
  have ul := HX4.out.lt
  have HR5 := Lib.hid (HR4.out.setOther (b := q) (k := 1) (u := .int .i64 a) (by have := HW2.out; omega))
  have HK5 := Lib.hid (HK4.out.set q 1 (.int .i64 a) (by have := HW2.out; omega))
  have HX5 := Lib.hid (HX4.out.set 1 (.int .i64 a))
  have z0 : (w4.setCell ⟨q, 1, none⟩ (.int .i64 a)).cell? ⟨W.heap.size + 1, 0, none⟩ = some (.string ⟨#[]⟩) := HR5.out.cell 0
  have z1 : (w4.setCell ⟨q, 1, none⟩ (.int .i64 a)).cell? ⟨W.heap.size + 1, 1, none⟩ = some (.int .i64 0) := HR5.out.cell 1
  have z2 : (w4.setCell ⟨q, 1, none⟩ (.int .i64 a)).cell? ⟨W.heap.size + 1, 2, none⟩ = some (.int .i64 0) := HR5.out.cell 2
  have z3 : (w4.setCell ⟨q, 1, none⟩ (.int .i64 a)).cell? ⟨W.heap.size + 1, 3, none⟩ = some (.slice none 0 0) := HR5.out.cell 3
  have fz0 := HR5.out.frozen 0
  have fz1 := HR5.out.frozen 1
  have fz2 := HR5.out.frozen 2
  have fz3 := HR5.out.frozen 3
  have hzl := HR5.out.lt
  go_wp2
  have hX := leaf_g (d := 0) (rb := W.heap.size + 1) (op := ⟨#[107, 105, 110, 100]⟩) (a := a) (b := 0) (by omega) HR5.out (by decide) (in64_lt a0 a1 (by first | decide | exact hr4 | exact hi4)) ⟨by decide, by decide⟩ HK5.out
  generalize ((((w4.setCell ⟨q, 1, none⟩ (.int .i64 a)).setCell ⟨W.heap.size + 1, 0, none⟩ (.string ⟨#[107, 105, 110, 100]⟩)).setCell ⟨W.heap.size + 1, 1, none⟩ (.int .i64 a)).setCell ⟨W.heap.size + 1, 2, none⟩ (.int .i64 0)).setCell ⟨W.heap.size + 1, 3, none⟩ (.slice none 0 0) = X at *
  have xx0 : X.cell? ⟨W.heap.size + 1, 0, none⟩ = some (.string ⟨#[107, 105, 110, 100]⟩) := hX.2.cell 0
  have xx1 : X.cell? ⟨W.heap.size + 1, 1, none⟩ = some (.int .i64 a) := hX.2.cell 1
  have xx2 : X.cell? ⟨W.heap.size + 1, 2, none⟩ = some (.int .i64 0) := hX.2.cell 2
  have xx3 : X.cell? ⟨W.heap.size + 1, 3, none⟩ = some (.slice none 0 0) := hX.2.cell 3
  refine bodyPost_ret (v := .agg #[.string ⟨#[107, 105, 110, 100]⟩, .int .i64 a, .int .i64 0, .slice none 0 0]) (by simp [results, Tryz.results40, go_sem, xx0, xx1, xx2, xx3]) rfl hX.1
 ·clear x0 x1
  have KN := Lib.hid (condNs_any w1)
  go_wp2_with fail
  refine KN.out.mono ?_
  rintro e w2 ⟨A2, n2, c2, rfl, hN, hb⟩
  obtain ⟨bb, off, rfl, hbb, c0⟩ := hN.at_ 1 (by decide)
  obtain rfl : n2 = 8 := hN.len
  change w2.cell? ⟨bb, off + 1, none⟩ = some (.string ⟨#[97, 99, 116, 111, 114]⟩) at c0
  have HK2 := Lib.hid ((HK1.out.below hb).alloc (.cells #[.string ⟨#[97, 99, 116, 111, 114]⟩, .int .i64 0, .int .i64 0, .slice none 0 0] 35))
  have HC2 := Lib.hid ((HC1.out.below hb HC1.out.lt).alloc (.cells #[.string ⟨#[97, 99, 116, 111, 114]⟩, .int .i64 0, .int .i64 0, .slice none 0 0] 35))
  have HR2 := Lib.hid ((HR1.out.below hb HR1.out.lt).alloc (.cells #[.string ⟨#[97, 99, 116, 111, 114]⟩, .int .i64 0, .int .i64 0, .slice none 0 0] 35))
  have HX2 := Lib.hid (Bk.new w2 35 [.string ⟨#[97, 99, 116, 111, 114]⟩, .int .i64 0, .int .i64 0, .slice none 0 0])
  have HW2 : Hid (W.heap.size + 2 ≤ w2.heap.size) := Lib.hid (by have h1 := HR1.out.lt; have h2 := hb.size; omega)
  clear KN hN hb
  have x0 : (w2.alloc (.cells #[.string ⟨#[97, 99, 116, 111, 114]⟩, .int .i64 0, .int .i64 0, .slice none 0 0] 35)).cell? ⟨w2.heap.size, 0, none⟩ = some (.string ⟨#[97, 99, 116, 111, 114]⟩) := HX2.out.cell 0
  have y0 : (w2.alloc (.cells #[.string ⟨#[97, 99, 116, 111, 114]⟩, .int .i64 0, .int .i64 0, .slice none 0 0] 35)).cell? ⟨W.heap.size, 0, none⟩ = some (.slice si.A si.n si.c) := HC2.out.cell 0
  have y1 : (w2.alloc (.cells #[.string ⟨#[97, 99, 116, 111, 114]⟩, .int .i64 0, .int .i64 0, .slice none 0 0] 35)).cell? ⟨W.heap.size, 1, none⟩ = some (.slice sr.A sr.n sr.c) := HC2.out.cell 1
  have yl := HC2.out.lt
  have KX := Lib.hid (next_k 6 HK2.out.ok (by decide) (by decide))
  go_wp2_with fail
  (with_reducible refine KX.out.mono ?_)
  rintro e w4 ⟨a, rfl, a0, a1, hs⟩
  have HK4 := Lib.hid (HK2.out.trans hs)
  have HC4 := Lib.hid (hs.bk HC2.out (by have := HKg.out; omega))
  have HR4 := Lib.hid (hs.bk HR2.out (by have := HKg.out; omega))
  have HX4 := Lib.hid (hs.bk HX2.out (by have := HKg.out; have := HW2.out; omega))
  clear KX hs x0 y0 y1 yl HK2 HC2 HR2 HX2
  obtain ⟨q, hq⟩ : ∃ q, w2.heap.size = q := ⟨_, rfl⟩
  rw [hq] at HX4 HW2
  try simp only [hq]
  clear hq
  have u0 : w4.cell? ⟨q, 0, none⟩ = some (.string ⟨#[97, 99, 116, 111, 114]⟩) := HX4.out.cell 0
  have u1 : w4.cell? ⟨q, 1, none⟩ = some (.int .i64 0) := HX4.out.cell 1
  have u2 : w4.cell? ⟨q, 2, none⟩ = some (.int .i64 0) := HX4.out.cell 2
  have u3 : w4.cell? ⟨q, 3, none⟩ = some (.slice none 0 0) := HX4.out.cell 3
  have v1 := HX4.out.frozen 1
  have v2 := HX4.out.frozen 2
  have ul := HX4.out.lt
  have HR5 := Lib.hid (HR4.out.setOther (b := q) (k := 1) (u := .int .i64 a) (by have := HW2.out; omega))
  have HK5 := Lib.hid (HK4.out.set q 1 (.int .i64 a) (by have := HW2.out; omega))
  have HX5 := Lib.hid (HX4.out.set 1 (.int .i64 a))
  have z0 : (w4.setCell ⟨q, 1, none⟩ (.int .i64 a)).cell? ⟨W.heap.size + 1, 0, none⟩ = some (.string ⟨#[]⟩) := HR5.out.cell 0
  have z1 : (w4.setCell ⟨q, 1, none⟩ (.int .i64 a)).cell? ⟨W.heap.size + 1, 1, none⟩ = some (.int .i64 0) := HR5.out.cell 1
  have z2 : (w4.setCell ⟨q, 1, none⟩ (.int .i64 a)).cell? ⟨W.heap.size + 1, 2, none⟩ = some (.int .i64 0) := HR5.out.cell 2
  have z3 : (w4.setCell ⟨q, 1, none⟩ (.int .i64 a)).cell? ⟨W.heap.size + 1, 3, none⟩ = some (.slice none 0 0) := HR5.out.cell 3
  have fz0 := HR5.out.frozen 0
  have fz1 := HR5.out.frozen 1
  have fz2 := HR5.out.frozen 2
  have fz3 := HR5.out.frozen 3
  have hzl := HR5.out.lt
  go_wp2
  have hX := leaf_g (d := 0) (rb := W.heap.size + 1) (op := ⟨#[97, 99, 116, 111, 114]⟩) (a := a) (b := 0) (by omega) HR5.out (by decide) (in64_lt a0 a1 (by first | decide | exact hr4 | exact hi4)) ⟨by decide, by decide⟩ HK5.out
  generalize ((((w4.setCell ⟨q, 1, none⟩ (.int .i64 a)).setCell ⟨W.heap.size + 1, 0, none⟩ (.string ⟨#[97, 99, 116, 111, 114]⟩)).setCell ⟨W.heap.size + 1, 1, none⟩ (.int .i64 a)).setCell ⟨W.heap.size + 1, 2, none⟩ (.int .i64 0)).setCell ⟨W.heap.size + 1, 3, none⟩ (.slice none 0 0) = X at *
  have xx0 : X.cell? ⟨W.heap.size + 1, 0, none⟩ = some (.string ⟨#[97, 99, 116, 111, 114]⟩) := hX.2.cell 0
  have xx1 : X.cell? ⟨W.heap.size + 1, 1, none⟩ = some (.int .i64 a) := hX.2.cell 1
  have xx2 : X.cell? ⟨W.heap.size + 1, 2, none⟩ = some (.int .i64 0) := hX.2.cell 2
  have xx3 : X.cell? ⟨W.heap.size + 1, 3, none⟩ = some (.slice none 0 0) := hX.2.cell 3
  refine bodyPost_ret (v := .agg #[.string ⟨#[97, 99, 116, 111, 114]⟩, .int .i64 a, .int .i64 0, .slice none 0 0]) (by simp [results, Tryz.results40, go_sem, xx0, xx1, xx2, xx3]) rfl hX.1
 ·clear x0 x1
  have KN := Lib.hid (condNs_any w1)
  go_wp2_with fail
  refine KN.out.mono ?_
  rintro e w2 ⟨A2, n2, c2, rfl, hN, hb⟩
  obtain ⟨bb, off, rfl, hbb, c0⟩ := hN.at_ 2 (by decide)
  obtain rfl : n2 = 8 := hN.len
  change w2.cell? ⟨bb, off + 2, none⟩ = some (.string ⟨#[114, 117, 108, 101]⟩) at c0
  have HK2 := Lib.hid ((HK1.out.below hb).alloc (.cells #[.string ⟨#[114, 117, 108, 101]⟩, .int .i64 0, .int .i64 0, .slice none 0 0] 35))
  have HC2 := Lib.hid ((HC1.out.below hb HC1.out.lt).alloc (.cells #[.string ⟨#[114, 117, 108, 101]⟩, .int .i64 0, .int .i64 0, .slice none 0 0] 35))
  have HR2 := Lib.hid ((HR1.out.below hb HR1.out.lt).alloc (.cells #[.string ⟨#[114, 117, 108, 101]⟩, .int .i64 0, .int .i64 0, .slice none 0 0] 35))
  have HX2 := Lib.hid (Bk.new w2 35 [.string ⟨#[114, 117, 108, 101]⟩, .int .i64 0, .int .i64 0, .slice none 0 0])
  have HW2 : Hid (W.heap.size + 2 ≤ w2.heap.size) := Lib.hid (by have h1 := HR1.out.lt; have h2 := hb.size; omega)
  clear KN hN hb
  have x0 : (w2.alloc (.cells #[.string ⟨#[114, 117, 108, 101]⟩, .int .i64 0, .int .i64 0, .slice none 0 0] 35)).cell? ⟨w2.heap.size, 0, none⟩ = some (.string ⟨#[114, 117, 108, 101]⟩) := HX2.out.cell 0
  have y0 : (w2.alloc (.cells #[.string ⟨#[114, 117, 108, 101]⟩, .int .i64 0, .int .i64 0, .slice none 0 0] 35)).cell? ⟨W.heap.size, 0, none⟩ = some (.slice si.A si.n si.c) := HC2.out.cell 0
  have y1 : (w2.alloc (.cells #[.string ⟨#[114, 117, 108, 101]⟩, .int .i64 0, .int .i64 0, .slice none 0 0] 35)).cell? ⟨W.heap.size, 1, none⟩ = some (.slice sr.A sr.n sr.c) := HC2.out.cell 1
  have yl := HC2.out.lt
  have KX := Lib.hid (next_k (sr.n : Int) HK2.out.ok hr1 hr2)
  go_wp2_with fail
  (with_reducible refine KX.out.mono ?_)
  rintro e w4 ⟨a, rfl, a0, a1, hs⟩
  have HK4 := Lib.hid (HK2.out.trans hs)
  have HC4 := Lib.hid (hs.bk HC2.out (by have := HKg.out; omega))
  have HR4 := Lib.hid (hs.bk HR2.out (by have := HKg.out; omega))
  have HX4 := Lib.hid (hs.bk HX2.out (by have := HKg.out; have := HW2.out; omega))
  clear KX hs x0 y0 y1 yl HK2 HC2 HR2 HX2
  obtain ⟨q, hq⟩ : ∃ q, w2.heap.size = q := ⟨_, rfl⟩
  rw [hq] at HX4 HW2
  try simp only [hq]
  clear hq
  have u0 : w4.cell? ⟨q, 0, none⟩ = some (.string ⟨#[114, 117, 108, 101]⟩) := HX4.out.cell 0
  have u1 : w4.cell? ⟨q, 1, none⟩ = some (.int .i64 0) := HX4.out.cell 1
  have u2 : w4.cell? ⟨q, 2, none⟩ = some (.int .i64 0) := HX4.out.cell 2
  have u3 : w4.cell? ⟨q, 3, none⟩ = some (.slice none 0 0) := HX4.out.cell 3
  have v1 := HX4.out.frozen 1
  have v2 := HX4.out.frozen 2
  have ul := HX4.out.lt
  have HR5 := Lib.hid (HR4.out.setOther (b := q) (k := 1) (u := .int .i64 a) (by have := HW2.out; omega))
  have HK5 := Lib.hid (HK4.out.set q 1 (.int .i64 a) (by have := HW2.out; omega))
  have HX5 := Lib.hid (HX4.out.set 1 (.int .i64 a))
  have z0 : (w4.setCell ⟨q, 1, none⟩ (.int .i64 a)).cell? ⟨W.heap.size + 1, 0, none⟩ = some (.string ⟨#[]⟩) := HR5.out.cell 0
  have z1 : (w4.setCell ⟨q, 1, none⟩ (.int .i64 a)).cell? ⟨W.heap.size + 1, 1, none⟩ = some (.int .i64 0) := HR5.out.cell 1
  have z2 : (w4.setCell ⟨q, 1, none⟩ (.int .i64 a)).cell? ⟨W.heap.size + 1, 2, none⟩ = some (.int .i64 0) := HR5.out.cell 2
  have z3 : (w4.setCell ⟨q, 1, none⟩ (.int .i64 a)).cell? ⟨W.heap.size + 1, 3, none⟩ = some (.slice none 0 0) := HR5.out.cell 3
  have fz0 := HR5.out.frozen 0
  have fz1 := HR5.out.frozen 1
  have fz2 := HR5.out.frozen 2
  have fz3 := HR5.out.frozen 3
  have hzl := HR5.out.lt
  go_wp2
  have hX := leaf_g (d := 0) (rb := W.heap.size + 1) (op := ⟨#[114, 117, 108, 101]⟩) (a := a) (b := 0) (by omega) HR5.out (by decide) (in64_lt a0 a1 (by first | decide | exact hr4 | exact hi4)) ⟨by decide, by decide⟩ HK5.out
  generalize ((((w4.setCell ⟨q, 1, none⟩ (.int .i64 a)).setCell ⟨W.heap.size + 1, 0, none⟩ (.string ⟨#[114, 117, 108, 101]⟩)).setCell ⟨W.heap.size + 1, 1, none⟩ (.int .i64 a)).setCell ⟨W.heap.size + 1, 2, none⟩ (.int .i64 0)).setCell ⟨W.heap.size + 1, 3, none⟩ (.slice none 0 0) = X at *
  have xx0 : X.cell? ⟨W.heap.size + 1, 0, none⟩ = some (.string ⟨#[114, 117, 108, 101]⟩) := hX.2.cell 0
  have xx1 : X.cell? ⟨W.heap.size + 1, 1, none⟩ = some (.int .i64 a) := hX.2.cell 1
  have xx2 : X.cell? ⟨W.heap.size + 1, 2, none⟩ = some (.int .i64 0) := hX.2.cell 2
  have xx3 : X.cell? ⟨W.heap.size + 1, 3, none⟩ = some (.slice none 0 0) := hX.2.cell 3
  refine bodyPost_ret (v := .agg #[.string ⟨#[114, 117, 108, 101]⟩, .int .i64 a, .int .i64 0, .slice none 0 0]) (by simp [results, Tryz.results40, go_sem, xx0, xx1, xx2, xx3]) rfl hX.1
 ·clear x0 x1
  have KN := Lib.hid (condNs_any w1)
  go_wp2_with fail
  refine KN.out.mono ?_
  rintro e w2 ⟨A2, n2, c2, rfl, hN, hb⟩
  obtain ⟨bb, off, rfl, hbb, c0⟩ := hN.at_ 3 (by decide)
  obtain rfl : n2 = 8 := hN.len
  change w2.cell? ⟨bb, off + 3, none⟩ = some (.string ⟨#[116, 105, 99, 107]⟩) at c0
  have HK2 := Lib.hid ((HK1.out.below hb).alloc (.cells #[.string ⟨#[116, 105, 99, 107]⟩, .int .i64 0, .int .i64 0, .slice none 0 0] 35))
  have HC2 := Lib.hid ((HC1.out.below hb HC1.out.lt).alloc (.cells #[.string ⟨#[116, 105, 99, 107]⟩, .int .i64 0, .int .i64 0, .slice none 0 0] 35))
  have HR2 := Lib.hid ((HR1.out.below hb HR1.out.lt).alloc (.cells #[.string ⟨#[116, 105, 99, 107]⟩, .int .i64 0, .int .i64 0, .slice none 0 0] 35))
  have HX2 := Lib.hid (Bk.new w2 35 [.string ⟨#[116, 105, 99, 107]⟩, .int .i64 0, .int .i64 0, .slice none 0 0])
  have HW2 : Hid (W.heap.size + 2 ≤ w2.heap.size) := Lib.hid (by have h1 := HR1.out.lt; have h2 := hb.size; omega)
  clear KN hN hb
  have x0 : (w2.alloc (.cells #[.string ⟨#[116, 105, 99, 107]⟩, .int .i64 0, .int .i64 0, .slice none 0 0] 35)).cell? ⟨w2.heap.size, 0, none⟩ = some (.string ⟨#[116, 105, 99, 107]⟩) := HX2.out.cell 0
  have y0 : (w2.alloc (.cells #[.string ⟨#[116, 105, 99, 107]⟩, .int .i64 0, .int .i64 0, .slice none 0 0] 35)).cell? ⟨W.heap.size, 0, none⟩ = some (.slice si.A si.n si.c) := HC2.out.cell 0
  have y1 : (w2.alloc (.cells #[.string ⟨#[116, 105, 99, 107]⟩, .int .i64 0, .int .i64 0, .slice none 0 0] 35)).cell? ⟨W.heap.size, 1, none⟩ = some (.slice sr.A sr.n sr.c) := HC2.out.cell 1
  have yl := HC2.out.lt
  have KX := Lib.hid (next_k 12 HK2.out.ok (by decide) (by decide))
  go_wp2_with fail
  (with_reducible refine KX.out.mono ?_)
  rintro e w4 ⟨a, rfl, a0, a1, hs⟩
  have HK4 := Lib.hid (HK2.out.trans hs)
  have HC4 := Lib.hid (hs.bk HC2.out (by have := HKg.out; omega))
  have HR4 := Lib.hid (hs.bk HR2.out (by have := HKg.out; omega))
  have HX4 := Lib.hid (hs.bk HX2.out (by have := HKg.out; have := HW2.out; omega))
  clear KX hs x0 y0 y1 yl HK2 HC2 HR2 HX2
  obtain ⟨q, hq⟩ : ∃ q, w2.heap.size = q := ⟨_, rfl⟩
  rw [hq] at HX4 HW2
  try simp only [hq]
  clear hq
  have u0 : w4.cell? ⟨q, 0, none⟩ = some (.string ⟨#[116, 105, 99, 107]⟩) := HX4.out.cell 0
  have u1 : w4.cell? ⟨q, 1, none⟩ = some (.int .i64 0) := HX4.out.cell 1
  have u2 : w4.cell? ⟨q, 2, none⟩ = some (.int .i64 0) := HX4.out.cell 2
  have u3 : w4.cell? ⟨q, 3, none⟩ = some (.slice none 0 0) := HX4.out.cell 3
  have v1 := HX4.out.frozen 1
  have v2 := HX4.out.frozen 2
  have ul := HX4.out.lt
  have HR5 := Lib.hid (HR4.out.setOther (b := q) (k := 1) (u := .int .i64 a) (by have := HW2.out; omega))
  have HK5 := Lib.hid (HK4.out.set q 1 (.int .i64 a) (by have := HW2.out; omega))
  have HX5 := Lib.hid (HX4.out.set 1 (.int .i64 a))
  go_wp2
  refine wp_region_X (fun w' => Bk w' q 35 [.string ⟨#[116, 105, 99, 107]⟩, .int .i64 a, .int .i64 0, .slice none 0 0]) 6 (n := 7) rfl (by kernel_rfl) (HX5.out.drew) (fun hS => ?_)
  refine X_take 0 (some 96) (v := ?_) (listed' := #[true, false, false, false, false, false, false]) rfl rfl rfl (by kernel_rfl) (fun _ _ _ h => h) ⟨rfl, ?_⟩ hS ?_
  rotate_left
  ·intro w' hS'
   (go_simp; try with_reducible rfl)
  simp only [Act.put, List.setIfInBounds_toArray, List.set_cons_zero, List.set_cons_succ]
  refine X_take 1 (some 97) (v := ?_) (listed' := #[true, true, false, false, false, false, false]) rfl rfl rfl (by kernel_rfl) (fun _ _ _ h => h) ⟨rfl, ?_⟩ hS ?_
  rotate_left
  ·intro w' hS'
   have e0 : w'.cell? ⟨q, 0, none⟩ = some (.string ⟨#[116, 105, 99, 107]⟩) := hS'.cell 0
   have e1 : w'.cell? ⟨q, 1, none⟩ = some (.int .i64 a) := hS'.cell 1
   have e2 : w'.cell? ⟨q, 2, none⟩ = some (.int .i64 0) := hS'.cell 2
   have e3 : w'.cell? ⟨q, 3, none⟩ = some (.slice none 0 0) := hS'.cell 3
   have el := hS'.lt
   (go_simp; try with_reducible rfl)
  simp only [Act.put, List.setIfInBounds_toArray, List.set_cons_zero, List.set_cons_succ]
  refine X_take 2 (some 98) (v := ?_) (listed' := #[true, true, true, false, false, false, false]) rfl rfl rfl (by kernel_rfl) (fun _ _ _ h => h) ⟨rfl, ?_⟩ hS ?_
  rotate_left
  ·intro w' hS'
   (go_simp; try with_reducible rfl)
  simp only [Act.put, List.setIfInBounds_toArray, List.set_cons_zero, List.set_cons_succ]
  refine X_one 3 (listed' := #[true, true, true, true, false, false, false]) (by kernel_rfl) rfl rfl (fun K hK => ?_)
  go_simp
  have KY := Lib.hid (next_k 6 HK5.out.drew.ok (by decide) (by decide))
  (with_reducible refine KY.out.mono ?_)
  rintro e w6 ⟨y, rfl, y0, y1, hs⟩
  have HK6 := Lib.hid (HK5.out.drew.trans hs)
  have HR6 := Lib.hid (hs.bk HR5.out.drew (by have := HKg.out; omega))
  have HX6 := Lib.hid (hs.bk HX5.out.drew (by have := HKg.out; have := HW2.out; omega))
  have hwr : IntKind.i64.wrap (a + y) = a + y := by simp [IntKind.wrap_i64]; omega
  refine hK _ _ HX6.out ?_
  clear hK KY hs HK5 HR5 HX5
  refine X_one 4 (listed' := #[true, true, true, true, true, false, false]) (by kernel_rfl) rfl rfl (fun K hK => ?_)
  go_simp
  refine hK _ _ HX6.out ?_
  clear hK
  refine X_one 5 (listed' := #[true, true, true, true, true, true, false]) (by kernel_rfl) rfl rfl (fun K hK => ?_)
  go_simp
  refine hK _ _ HX6.out ?_
  clear hK
  refine X_tail (by kernel_rfl) ?_
  refine A_one 6 (listed' := #[true, true, true, true, true, true, true]) (by kernel_rfl) rfl rfl (fun K hK => ?_)
  have k0 : w6.cell? ⟨q, 0, none⟩ = some (.string ⟨#[116, 105, 99, 107]⟩) := HX6.out.cell 0
  have k1 : w6.cell? ⟨q, 1, none⟩ = some (.int .i64 a) := HX6.out.cell 1
  have k2 : w6.cell? ⟨q, 2, none⟩ = some (.int .i64 0) := HX6.out.cell 2
  have k3 : w6.cell? ⟨q, 3, none⟩ = some (.slice none 0 0) := HX6.out.cell 3
  have kf := HX6.out.frozen 2
  have kl := HX6.out.lt
  go_simp
  refine hK _ _ ?_
  clear hK
  refine A_done (by kernel_rfl) ?_
  clear hS
  have HR7 := Lib.hid (HR6.out.setOther (b := q) (k := 2) (u := .int .i64 (a + y)) (by have := HW2.out; omega))
  have HK7 := Lib.hid (HK6.out.set q 2 (.int .i64 (a + y)) (by have := HW2.out; omega))
  have HX7 := Lib.hid (HX6.out.set 2 (.int .i64 (a + y)))
  have z0 : (w6.setCell ⟨q, 2, none⟩ (.int .i64 (a + y))).cell? ⟨W.heap.size + 1, 0, none⟩ = some (.string ⟨#[]⟩) := HR7.out.cell 0
  have z1 : (w6.setCell ⟨q, 2, none⟩ (.int .i64 (a + y))).cell? ⟨W.heap.size + 1, 1, none⟩ = some (.int .i64 0) := HR7.out.cell 1
  have z2 : (w6.setCell ⟨q, 2, none⟩ (.int .i64 (a + y))).cell? ⟨W.heap.size + 1, 2, none⟩ = some (.int .i64 0) := HR7.out.cell 2
  have z3 : (w6.setCell ⟨q, 2, none⟩ (.int .i64 (a + y))).cell? ⟨W.heap.size + 1, 3, none⟩ = some (.slice none 0 0) := HR7.out.cell 3
  have fz0 := HR7.out.frozen 0
  have fz1 := HR7.out.frozen 1
  have fz2 := HR7.out.frozen 2
  have fz3 := HR7.out.frozen 3
  have hzl := HR7.out.lt
  go_wp2
  have hX := leaf_g (d := 0) (rb := W.heap.size + 1) (op := ⟨#[116, 105, 99, 107]⟩) (a := a) (b := (a + y)) (by omega) HR7.out (by decide) (in64_lt a0 a1 (by first | decide | exact hr4 | exact hi4)) (in64_lt (n := 18) (by omega) (by omega) (by decide)) HK7.out
  generalize ((((w6.setCell ⟨q, 2, none⟩ (.int .i64 (a + y))).setCell ⟨W.heap.size + 1, 0, none⟩ (.string ⟨#[116, 105, 99, 107]⟩)).setCell ⟨W.heap.size + 1, 1, none⟩ (.int .i64 a)).setCell ⟨W.heap.size + 1, 2, none⟩ (.int .i64 (a + y))).setCell ⟨W.heap.size + 1, 3, none⟩ (.slice none 0 0) = X at *
  have xx0 : X.cell? ⟨W.heap.size + 1, 0, none⟩ = some (.string ⟨#[116, 105, 99, 107]⟩) := hX.2.cell 0
  have xx1 : X.cell? ⟨W.heap.size + 1, 1, none⟩ = some (.int .i64 a) := hX.2.cell 1
  have xx2 : X.cell? ⟨W.heap.size + 1, 2, none⟩ = some (.int .i64 (a + y)) := hX.2.cell 2
  have xx3 : X.cell? ⟨W.heap.size + 1, 3, none⟩ = some (.slice none 0 0) := hX.2.cell 3
  refine bodyPost_ret (v := .agg #[.string ⟨#[116, 105, 99, 107]⟩, .int .i64 a, .int .i64 (a + y), .slice none 0 0]) (by simp [results, Tryz.results40, go_sem, xx0, xx1, xx2, xx3]) rfl hX.1
set_option maxRecDepth 100000 in
set_option maxHeartbeats 8000000 in
theorem mark_succ {W : World} {g d : Nat} {si sr st sx : Sl} (hi1 : (1 : Int) ≤ si.n) (hr1 : (1 : Int) ≤ sr.n) (hi4 : (si.n : Int) ≤ 1000000) (hr4 : (sr.n : Int) ≤ 1000000) (hd : d ≤ 1000) (h : KOk W g)
 (ih : ∀ U, KOk U g → Calls Tryz.prog 40 #[.pointer (some ⟨g, 0, none⟩), .agg #[.slice si.A si.n si.c, .slice sr.A sr.n sr.c, .slice st.A st.n st.c, .slice sx.A sx.n sx.c], .int .i64 d] U (MarkG U g d)) :
 Calls Tryz.prog 40 #[.pointer (some ⟨g, 0, none⟩), .agg #[.slice si.A si.n si.c, .slice sr.A sr.n sr.c, .slice st.A st.n st.c, .slice sx.A sx.n sx.c], .int .i64 ((d + 1 : Nat) : Int)] W (MarkG W g (d + 1)) := by
 have hi2 : (si.n : Int) ≤ 9223372036854775807 := Int.le_trans hi4 (by decide)
 have hr2 : (sr.n : Int) ≤ 9223372036854775807 := Int.le_trans hr4 (by decide)
 obtain ⟨i0, hi, hz0, hz1, hz2⟩ := info_parts info35
 have hd1 : IntKind.i64.wrap (((d + 1 : Nat) : Int) - 1) = (d : Int) := by simp [IntKind.wrap_i64]; omega
 have hd0 : (((d + 1 : Nat) : Int) == 0) = false := by simp; omega
 have HI := Lib.hid ih
 clear ih
 generalize ((d + 1 : Nat) : Int) = DD at *
 have HKg : Hid (g < W.heap.size) := Lib.hid h.lt
 have HK0 := Lib.hid (((KSt.refl h).alloc (.cells #[.slice si.A si.n si.c, .slice sr.A sr.n sr.c, .slice st.A st.n st.c, .slice sx.A sx.n sx.c] 28)).alloc (.cells #[.string ⟨#[]⟩, .int .i64 0, .int .i64 0, .slice none 0 0] 35))
 have HC0 := Lib.hid ((Bk.new W 28 [.slice si.A si.n si.c, .slice sr.A sr.n sr.c, .slice st.A st.n st.c, .slice sx.A sx.n sx.c]).alloc (.cells #[.string ⟨#[]⟩, .int .i64 0, .int .i64 0, .slice none 0 0] 35))
 have HR0 : Hid (Bk ((W.alloc (.cells #[.slice si.A si.n si.c, .slice sr.A sr.n sr.c, .slice st.A st.n st.c, .slice sx.A sx.n sx.c] 28)).alloc (.cells #[.string ⟨#[]⟩, .int .i64 0, .int .i64 0, .slice none 0 0] 35)) (W.heap.size + 1) 35 [.string ⟨#[]⟩, .int .i64 0, .int .i64 0, .slice none 0 0]) := by
  have := Bk.new (W.alloc (.cells #[.slice si.A si.n si.c, .slice sr.A sr.n sr.c, .slice st.A st.n st.c, .slice sx.A sx.n sx.c] 28)) 35 [.string ⟨#[]⟩, .int .i64 0, .int .i64 0, .slice none 0 0]
  rw [World.size_alloc] at this
  exact Lib.hid this
 have KX0 := Lib.hid (next_k 12 HK0.out.ok (by decide) (by decide))
 clear h
 go_enter Tryz.func40, Tryz.ntmps40
 go_wp2_with fail
 refine KX0.out.mono ?_
 rintro e w1 ⟨x, rfl, x0, x1, hs⟩
 have HK1 := Lib.hid (HK0.out.trans hs)
 have HC1 := Lib.hid (hs.bk HC0.out (by have := HKg.out; omega))
 have HR1 := Lib.hid (hs.bk HR0.out (by have := HKg.out; omega))
 clear KX0 hs HK0 HC0 HR0
 rcases (show x = 0 ∨ x = 1 ∨ x = 2 ∨ x = 3 ∨ x = 4 ∨ x = 5 ∨ x = 6 ∨ x = 7 ∨ x = 8 ∨ x = 9 ∨ x = 10 ∨ x = 11 by omega) with rfl | rfl | rfl | rfl | rfl | rfl | rfl | rfl | rfl | rfl | rfl | rfl
 ·clear x0 x1
  have KN := Lib.hid (condNs_any w1)
  go_wp2_with fail
  refine KN.out.mono ?_
  rintro e w2 ⟨A2, n2, c2, rfl, hN, hb⟩
  obtain ⟨bb, off, rfl, hbb, c0⟩ := hN.at_ 0 (by decide)
  obtain rfl : n2 = 8 := hN.len
  change w2.cell? ⟨bb, off, none⟩ = some (.string ⟨#[107, 105, 110, 100]⟩) at c0
  have HK2 := Lib.hid ((HK1.out.below hb).alloc (.cells #[.string ⟨#[107, 105, 110, 100]⟩, .int .i64 0, .int .i64 0, .slice none 0 0] 35))
  have HC2 := Lib.hid ((HC1.out.below hb HC1.out.lt).alloc (.cells #[.string ⟨#[107, 105, 110, 100]⟩, .int .i64 0, .int .i64 0, .slice none 0 0] 35))
  have HR2 := Lib.hid ((HR1.out.below hb HR1.out.lt).alloc (.cells #[.string ⟨#[107, 105, 110, 100]⟩, .int .i64 0, .int .i64 0, .slice none 0 0] 35))
  have HX2 := Lib.hid (Bk.new w2 35 [.string ⟨#[107, 105, 110, 100]⟩, .int .i64 0, .int .i64 0, .slice none 0 0])
  have HW2 : Hid (W.heap.size + 2 ≤ w2.heap.size) := Lib.hid (by have h1 := HR1.out.lt; have h2 := hb.size; omega)
  clear KN hN hb
  have x0 : (w2.alloc (.cells #[.string ⟨#[107, 105, 110, 100]⟩, .int .i64 0, .int .i64 0, .slice none 0 0] 35)).cell? ⟨w2.heap.size, 0, none⟩ = some (.string ⟨#[107, 105, 110, 100]⟩) := HX2.out.cell 0
  have y0 : (w2.alloc (.cells #[.string ⟨#[107, 105, 110, 100]⟩, .int .i64 0, .int .i64 0, .slice none 0 0] 35)).cell? ⟨W.heap.size, 0, none⟩ = some (.slice si.A si.n si.c) := HC2.out.cell 0
  have y1 : (w2.alloc (.cells #[.string ⟨#[107, 105, 110, 100]⟩, .int .i64 0, .int .i64 0, .slice none 0 0] 35)).cell? ⟨W.heap.size, 1, none⟩ = some (.slice sr.A sr.n sr.c) := HC2.out.cell 1
  have yl := HC2.out.lt
  have KX := Lib.hid (next_k 11 HK2.out.ok (by decide) (by decide))
  go_wp2_with fail
  (with_reducible refine KX.out.mono ?_)
  rintro e w4 ⟨a, rfl, a0, a1, hs⟩
  have HK4 := Lib.hid (HK2.out.trans hs)
  have HC4 := Lib.hid (hs.bk HC2.out (by have := HKg.out; omega))
  have HR4 := Lib.hid (hs.bk HR2.out (by have := HKg.out; omega))
  have HX4 := Lib.hid (hs.bk HX2.out (by have := HKg.out; have := HW2.out; omega))
  clear KX hs x0 y0 y1 yl HK2 HC2 HR2 HX2
  obtain ⟨q, hq⟩ : ∃ q, w2.heap.size = q := ⟨_, rfl⟩
  rw [hq] at HX4 HW2
  try simp only [hq]
  clear hq
  have u0 : w4.cell? ⟨q, 0, none⟩ = some (.string ⟨#[107, 105, 110, 100]⟩) := HX4.out.cell 0
  have u1 : w4.cell? ⟨q, 1, none⟩ = some (.int .i64 0) := HX4.out.cell 1
  have u2 : w4.cell? ⟨q, 2, none⟩ = some (.int .i64 0) := HX4.out.cell 2
  have u3 : w4.cell? ⟨q, 3, none⟩ = some (.slice none 0 0) := HX4.out.cell 3
  have v1 := HX4.out.frozen 1
  have v2 := HX4.out.frozen 2
  have ul := HX4.out.lt
  have HR5 := Lib.hid (HR4.out.setOther (b := q) (k := 1) (u := .int .i64 a) (by have := HW2.out; omega))
  have HK5 := Lib.hid (HK4.out.set q 1 (.int .i64 a) (by have := HW2.out; omega))
  have HX5 := Lib.hid (HX4.out.set 1 (.int .i64 a))
  have z0 : (w4.setCell ⟨q, 1, none⟩ (.int .i64 a)).cell? ⟨W.heap.size + 1, 0, none⟩ = some (.string ⟨#[]⟩) := HR5.out.cell 0
  have z1 : (w4.setCell ⟨q, 1, none⟩ (.int .i64 a)).cell? ⟨W.heap.size + 1, 1, none⟩ = some (.int .i64 0) := HR5.out.cell 1
  have z2 : (w4.setCell ⟨q, 1, none⟩ (.int .i64 a)).cell? ⟨W.heap.size + 1, 2, none⟩ = some (.int .i64 0) := HR5.out.cell 2
  have z3 : (w4.setCell ⟨q, 1, none⟩ (.int .i64 a)).cell? ⟨W.heap.size + 1, 3, none⟩ = some (.slice none 0 0) := HR5.out.cell 3
  have fz0 := HR5.out.frozen 0
  have fz1 := HR5.out.frozen 1
  have fz2 := HR5.out.frozen 2
  have fz3 := HR5.out.frozen 3
  have hzl := HR5.out.lt
  go_wp2
  have hX := leaf_g (d := (d + 1)) (rb := W.heap.size + 1) (op := ⟨#[107, 105, 110, 100]⟩) (a := a) (b := 0) (by omega) HR5.out (by decide) (in64_lt a0 a1 (by first | decide | exact hr4 | exact hi4)) ⟨by decide, by decide⟩ HK5.out
  generalize ((((w4.setCell ⟨q, 1, none⟩ (.int .i64 a)).setCell ⟨W.heap.size + 1, 0, none⟩ (.string ⟨#[107, 105, 110, 100]⟩)).setCell ⟨W.heap.size + 1, 1, none⟩ (.int .i64 a)).setCell ⟨W.heap.size + 1, 2, none⟩ (.int .i64 0)).setCell ⟨W.heap.size + 1, 3, none⟩ (.slice none 0 0) = X at *
  have xx0 : X.cell? ⟨W.heap.size + 1, 0, none⟩ = some (.string ⟨#[107, 105, 110, 100]⟩) := hX.2.cell 0
  have xx1 : X.cell? ⟨W.heap.size + 1, 1, none⟩ = some (.int .i64 a) := hX.2.cell 1
  have xx2 : X.cell? ⟨W.heap.size + 1, 2, none⟩ = some (.int .i64 0) := hX.2.cell 2
  have xx3 : X.cell? ⟨W.heap.size + 1, 3, none⟩ = some (.slice none 0 0) := hX.2.cell 3
  refine bodyPost_ret (v := .agg #[.string ⟨#[107, 105, 110, 100]⟩, .int .i64 a, .int .i64 0, .slice none 0 0]) (by simp [results, Tryz.results40, go_sem, xx0, xx1, xx2, xx3]) rfl hX.1
 ·clear x0 x1
  have KN := Lib.hid (condNs_any w1)
  go_wp2_with fail
  refine KN.out.mono ?_
  rintro e w2 ⟨A2, n2, c2, rfl, hN, hb⟩
  obtain ⟨bb, off, rfl, hbb, c0⟩ := hN.at_ 1 (by decide)
  obtain rfl : n2 = 8 := hN.len
  change w2.cell? ⟨bb, off + 1, none⟩ = some (.string ⟨#[97, 99, 116, 111, 114]⟩) at c0
  have HK2 := Lib.hid ((HK1.out.below hb).alloc (.cells #[.string ⟨#[97, 99, 116, 111, 114]⟩, .int .i64 0, .int .i64 0, .slice none 0 0] 35))
  have HC2 := Lib.hid ((HC1.out.below hb HC1.out.lt).alloc (.cells #[.string ⟨#[97, 99, 116, 111, 114]⟩, .int .i64 0, .int .i64 0, .slice none 0 0] 35))
  have HR2 := Lib.hid ((HR1.out.below hb HR1.out.lt).alloc (.cells #[.string ⟨#[97, 99, 116, 111, 114]⟩, .int .i64 0, .int .i64 0, .slice none 0 0] 35))
  have HX2 := Lib.hid (Bk.new w2 35 [.string ⟨#[97, 99, 116, 111, 114]⟩, .int .i64 0, .int .i64 0, .slice none 0 0])
  have HW2 : Hid (W.heap.size + 2 ≤ w2.heap.size) := Lib.hid (by have h1 := HR1.out.lt; have h2 := hb.size; omega)
  clear KN hN hb
  have x0 : (w2.alloc (.cells #[.string ⟨#[97, 99, 116, 111, 114]⟩, .int .i64 0, .int .i64 0, .slice none 0 0] 35)).cell? ⟨w2.heap.size, 0, none⟩ = some (.string ⟨#[97, 99, 116, 111, 114]⟩) := HX2.out.cell 0
  have y0 : (w2.alloc (.cells #[.string ⟨#[97, 99, 116, 111, 114]⟩, .int .i64 0, .int .i64 0, .slice none 0 0] 35)).cell? ⟨W.heap.size, 0, none⟩ = some (.slice si.A si.n si.c) := HC2.out.cell 0
  have y1 : (w2.alloc (.cells #[.string ⟨#[97, 99, 116, 111, 114]⟩, .int .i64 0, .int .i64 0, .slice none 0 0] 35)).cell? ⟨W.heap.size, 1, none⟩ = some (.slice sr.A sr.n sr.c) := HC2.out.cell 1
  have yl := HC2.out.lt
  have KX := Lib.hid (next_k 6 HK2.out.ok (by decide) (by decide))
  go_wp2_with fail
  (with_reducible refine KX.out.mono ?_)
  rintro e w4 ⟨a, rfl, a0, a1, hs⟩
  have HK4 := Lib.hid (HK2.out.trans hs)
  have HC4 := Lib.hid (hs.bk HC2.out (by have := HKg.out; omega))
  have HR4 := Lib.hid (hs.bk HR2.out (by have := HKg.out; omega))
  have HX4 := Lib.hid (hs.bk HX2.out (by have := HKg.out; have := HW2.out; omega))
  clear KX hs x0 y0 y1 yl HK2 HC2 HR2 HX2
  obtain ⟨q, hq⟩ : ∃ q, w2.heap.size = q := ⟨_, rfl⟩
  rw [hq] at HX4 HW2
  try simp only [hq]
  clear hq
  have u0 : w4.cell? ⟨q, 0, none⟩ = some (.string ⟨#[97, 99, 116, 111, 114]⟩) := HX4.out.cell 0
  have u1 : w4.cell? ⟨q, 1, none⟩ = some (.int .i64 0) := HX4.out.cell 1
  have u2 : w4.cell? ⟨q, 2, none⟩ = some (.int .i64 0) := HX4.out.cell 2
  have u3 : w4.cell? ⟨q, 3, none⟩ = some (.slice none 0 0) := HX4.out.cell 3
  have v1 := HX4.out.frozen 1
  have v2 := HX4.out.frozen 2
  have ul := HX4.out.lt
  have HR5 := Lib.hid (HR4.out.setOther (b := q) (k := 1) (u := .int .i64 a) (by have := HW2.out; omega))
  have HK5 := Lib.hid (HK4.out.set q 1 (.int .i64 a) (by have := HW2.out; omega))
  have HX5 := Lib.hid (HX4.out.set 1 (.int .i64 a))
  have z0 : (w4.setCell ⟨q, 1, none⟩ (.int .i64 a)).cell? ⟨W.heap.size + 1, 0, none⟩ = some (.string ⟨#[]⟩) := HR5.out.cell 0
  have z1 : (w4.setCell ⟨q, 1, none⟩ (.int .i64 a)).cell? ⟨W.heap.size + 1, 1, none⟩ = some (.int .i64 0) := HR5.out.cell 1
  have z2 : (w4.setCell ⟨q, 1, none⟩ (.int .i64 a)).cell? ⟨W.heap.size + 1, 2, none⟩ = some (.int .i64 0) := HR5.out.cell 2
  have z3 : (w4.setCell ⟨q, 1, none⟩ (.int .i64 a)).cell? ⟨W.heap.size + 1, 3, none⟩ = some (.slice none 0 0) := HR5.out.cell 3
  have fz0 := HR5.out.frozen 0
  have fz1 := HR5.out.frozen 1
  have fz2 := HR5.out.frozen 2
  have fz3 := HR5.out.frozen 3
  have hzl := HR5.out.lt
  go_wp2
  have hX := leaf_g (d := (d + 1)) (rb := W.heap.size + 1) (op := ⟨#[97, 99, 116, 111, 114]⟩) (a := a) (b := 0) (by omega) HR5.out (by decide) (in64_lt a0 a1 (by first | decide | exact hr4 | exact hi4)) ⟨by decide, by decide⟩ HK5.out
  generalize ((((w4.setCell ⟨q, 1, none⟩ (.int .i64 a)).setCell ⟨W.heap.size + 1, 0, none⟩ (.string ⟨#[97, 99, 116, 111, 114]⟩)).setCell ⟨W.heap.size + 1, 1, none⟩ (.int .i64 a)).setCell ⟨W.heap.size + 1, 2, none⟩ (.int .i64 0)).setCell ⟨W.heap.size + 1, 3, none⟩ (.slice none 0 0) = X at *
  have xx0 : X.cell? ⟨W.heap.size + 1, 0, none⟩ = some (.string ⟨#[97, 99, 116, 111, 114]⟩) := hX.2.cell 0
  have xx1 : X.cell? ⟨W.heap.size + 1, 1, none⟩ = some (.int .i64 a) := hX.2.cell 1
  have xx2 : X.cell? ⟨W.heap.size + 1, 2, none⟩ = some (.int .i64 0) := hX.2.cell 2
  have xx3 : X.cell? ⟨W.heap.size + 1, 3, none⟩ = some (.slice none 0 0) := hX.2.cell 3
  refine bodyPost_ret (v := .agg #[.string ⟨#[97, 99, 116, 111, 114]⟩, .int .i64 a, .int .i64 0, .slice none 0 0]) (by simp [results, Tryz.results40, go_sem, xx0, xx1, xx2, xx3]) rfl hX.1
 ·clear x0 x1
  have KN := Lib.hid (condNs_any w1)
  go_wp2_with fail
  refine KN.out.mono ?_
  rintro e w2 ⟨A2, n2, c2, rfl, hN, hb⟩
  obtain ⟨bb, off, rfl, hbb, c0⟩ := hN.at_ 2 (by decide)
  obtain rfl : n2 = 8 := hN.len
  change w2.cell? ⟨bb, off + 2, none⟩ = some (.string ⟨#[114, 117, 108, 101]⟩) at c0
  have HK2 := Lib.hid ((HK1.out.below hb).alloc (.cells #[.string ⟨#[114, 117, 108, 101]⟩, .int .i64 0, .int .i64 0, .slice none 0 0] 35))
  have HC2 := Lib.hid ((HC1.out.below hb HC1.out.lt).alloc (.cells #[.string ⟨#[114, 117, 108, 101]⟩, .int .i64 0, .int .i64 0, .slice none 0 0] 35))
  have HR2 := Lib.hid ((HR1.out.below hb HR1.out.lt).alloc (.cells #[.string ⟨#[114, 117, 108, 101]⟩, .int .i64 0, .int .i64 0, .slice none 0 0] 35))
  have HX2 := Lib.hid (Bk.new w2 35 [.string ⟨#[114, 117, 108, 101]⟩, .int .i64 0, .int .i64 0, .slice none 0 0])
  have HW2 : Hid (W.heap.size + 2 ≤ w2.heap.size) := Lib.hid (by have h1 := HR1.out.lt; have h2 := hb.size; omega)
  clear KN hN hb
  have x0 : (w2.alloc (.cells #[.string ⟨#[114, 117, 108, 101]⟩, .int .i64 0, .int .i64 0, .slice none 0 0] 35)).cell? ⟨w2.heap.size, 0, none⟩ = some (.string ⟨#[114, 117, 108, 101]⟩) := HX2.out.cell 0
  have y0 : (w2.alloc (.cells #[.string ⟨#[114, 117, 108, 101]⟩, .int .i64 0, .int .i64 0, .slice none 0 0] 35)).cell? ⟨W.heap.size, 0, none⟩ = some (.slice si.A si.n si.c) := HC2.out.cell 0
  have y1 : (w2.alloc (.cells #[.string ⟨#[114, 117, 108, 101]⟩, .int .i64 0, .int .i64 0, .slice none 0 0] 35)).cell? ⟨W.heap.size, 1, none⟩ = some (.slice sr.A sr.n sr.c) := HC2.out.cell 1
  have yl := HC2.out.lt
  have KX := Lib.hid (next_k (sr.n : Int) HK2.out.ok hr1 hr2)
  go_wp2_with fail
  (with_reducible refine KX.out.mono ?_)
  rintro e w4 ⟨a, rfl, a0, a1, hs⟩
  have HK4 := Lib.hid (HK2.out.trans hs)
  have HC4 := Lib.hid (hs.bk HC2.out (by have := HKg.out; omega))
  have HR4 := Lib.hid (hs.bk HR2.out (by have := HKg.out; omega))
  have HX4 := Lib.hid (hs.bk HX2.out (by have := HKg.out; have := HW2.out; omega))
  clear KX hs x0 y0 y1 yl HK2 HC2 HR2 HX2
  obtain ⟨q, hq⟩ : ∃ q, w2.heap.size = q := ⟨_, rfl⟩
  rw [hq] at HX4 HW2
  try simp only [hq]
  clear hq
  have u0 : w4.cell? ⟨q, 0, none⟩ = some (.string ⟨#[114, 117, 108, 101]⟩) := HX4.out.cell 0
  have u1 : w4.cell? ⟨q, 1, none⟩ = some (.int .i64 0) := HX4.out.cell 1
  have u2 : w4.cell? ⟨q, 2, none⟩ = some (.int .i64 0) := HX4.out.cell 2
  have u3 : w4.cell? ⟨q, 3, none⟩ = some (.slice none 0 0) := HX4.out.cell 3
  have v1 := HX4.out.frozen 1
  have v2 := HX4.out.frozen 2
  have ul := HX4.out.lt
  have HR5 := Lib.hid (HR4.out.setOther (b := q) (k := 1) (u := .int .i64 a) (by have := HW2.out; omega))
  have HK5 := Lib.hid (HK4.out.set q 1 (.int .i64 a) (by have := HW2.out; omega))
  have HX5 := Lib.hid (HX4.out.set 1 (.int .i64 a))
  have z0 : (w4.setCell ⟨q, 1, none⟩ (.int .i64 a)).cell? ⟨W.heap.size + 1, 0, none⟩ = some (.string ⟨#[]⟩) := HR5.out.cell 0
  have z1 : (w4.setCell ⟨q, 1, none⟩ (.int .i64 a)).cell? ⟨W.heap.size + 1, 1, none⟩ = some (.int .i64 0) := HR5.out.cell 1
  have z2 : (w4.setCell ⟨q, 1, none⟩ (.int .i64 a)).cell? ⟨W.heap.size + 1, 2, none⟩ = some (.int .i64 0) := HR5.out.cell 2
  have z3 : (w4.setCell ⟨q, 1, none⟩ (.int .i64 a)).cell? ⟨W.heap.size + 1, 3, none⟩ = some (.slice none 0 0) := HR5.out.cell 3
  have fz0 := HR5.out.frozen 0
  have fz1 := HR5.out.frozen 1
  have fz2 := HR5.out.frozen 2
  have fz3 := HR5.out.frozen 3
  have hzl := HR5.out.lt
  go_wp2
  have hX := leaf_g (d := (d + 1)) (rb := W.heap.size + 1) (op := ⟨#[114, 117, 108, 101]⟩) (a := a) (b := 0) (by omega) HR5.out (by decide) (in64_lt a0 a1 (by first | decide | exact hr4 | exact hi4)) ⟨by decide, by decide⟩ HK5.out
  generalize ((((w4.setCell ⟨q, 1, none⟩ (.int .i64 a)).setCell ⟨W.heap.size + 1, 0, none⟩ (.string ⟨#[114, 117, 108, 101]⟩)).setCell ⟨W.heap.size + 1, 1, none⟩ (.int .i64 a)).setCell ⟨W.heap.size + 1, 2, none⟩ (.int .i64 0)).setCell ⟨W.heap.size + 1, 3, none⟩ (.slice none 0 0) = X at *
  have xx0 : X.cell? ⟨W.heap.size + 1, 0, none⟩ = some (.string ⟨#[114, 117, 108, 101]⟩) := hX.2.cell 0
  have xx1 : X.cell? ⟨W.heap.size + 1, 1, none⟩ = some (.int .i64 a) := hX.2.cell 1
  have xx2 : X.cell? ⟨W.heap.size + 1, 2, none⟩ = some (.int .i64 0) := hX.2.cell 2
  have xx3 : X.cell? ⟨W.heap.size + 1, 3, none⟩ = some (.slice none 0 0) := hX.2.cell 3
  refine bodyPost_ret (v := .agg #[.string ⟨#[114, 117, 108, 101]⟩, .int .i64 a, .int .i64 0, .slice none 0 0]) (by simp [results, Tryz.results40, go_sem, xx0, xx1, xx2, xx3]) rfl hX.1
 ·clear x0 x1
  have KN := Lib.hid (condNs_any w1)
  go_wp2_with fail
  refine KN.out.mono ?_
  rintro e w2 ⟨A2, n2, c2, rfl, hN, hb⟩
  obtain ⟨bb, off, rfl, hbb, c0⟩ := hN.at_ 3 (by decide)
  obtain rfl : n2 = 8 := hN.len
  change w2.cell? ⟨bb, off + 3, none⟩ = some (.string ⟨#[116, 105, 99, 107]⟩) at c0
  have HK2 := Lib.hid ((HK1.out.below hb).alloc (.cells #[.string ⟨#[116, 105, 99, 107]⟩, .int .i64 0, .int .i64 0, .slice none 0 0] 35))
  have HC2 := Lib.hid ((HC1.out.below hb HC1.out.lt).alloc (.cells #[.string ⟨#[116, 105, 99, 107]⟩, .int .i64 0, .int .i64 0, .slice none 0 0] 35))
  have HR2 := Lib.hid ((HR1.out.below hb HR1.out.lt).alloc (.cells #[.string ⟨#[116, 105, 99, 107]⟩, .int .i64 0, .int .i64 0, .slice none 0 0] 35))
  have HX2 := Lib.hid (Bk.new w2 35 [.string ⟨#[116, 105, 99, 107]⟩, .int .i64 0, .int .i64 0, .slice none 0 0])
  have HW2 : Hid (W.heap.size + 2 ≤ w2.heap.size) := Lib.hid (by have h1 := HR1.out.lt; have h2 := hb.size; omega)
  clear KN hN hb
  have x0 : (w2.alloc (.cells #[.string ⟨#[116, 105, 99, 107]⟩, .int .i64 0, .int .i64 0, .slice none 0 0] 35)).cell? ⟨w2.heap.size, 0, none⟩ = some (.string ⟨#[116, 105, 99, 107]⟩) := HX2.out.cell 0
  have y0 : (w2.alloc (.cells #[.string ⟨#[116, 105, 99, 107]⟩, .int .i64 0, .int .i64 0, .slice none 0 0] 35)).cell? ⟨W.heap.size, 0, none⟩ = some (.slice si.A si.n si.c) := HC2.out.cell 0
  have y1 : (w2.alloc (.cells #[.string ⟨#[116, 105, 99, 107]⟩, .int .i64 0, .int .i64 0, .slice none 0 0] 35)).cell? ⟨W.heap.size, 1, none⟩ = some (.slice sr.A sr.n sr.c) := HC2.out.cell 1
  have yl := HC2.out.lt
  have KX := Lib.hid (next_k 12 HK2.out.ok (by decide) (by decide))
  go_wp2_with fail
  (with_reducible refine KX.out.mono ?_)
  rintro e w4 ⟨a, rfl, a0, a1, hs⟩
  have HK4 := Lib.hid (HK2.out.trans hs)
  have HC4 := Lib.hid (hs.bk HC2.out (by have := HKg.out; omega))
  have HR4 := Lib.hid (hs.bk HR2.out (by have := HKg.out; omega))
  have HX4 := Lib.hid (hs.bk HX2.out (by have := HKg.out; have := HW2.out; omega))
  clear KX hs x0 y0 y1 yl HK2 HC2 HR2 HX2
  obtain ⟨q, hq⟩ : ∃ q, w2.heap.size = q := ⟨_, rfl⟩
  rw [hq] at HX4 HW2
  try simp only [hq]
  clear hq
  have u0 : w4.cell? ⟨q, 0, none⟩ = some (.string ⟨#[116, 105, 99, 107]⟩) := HX4.out.cell 0
  have u1 : w4.cell? ⟨q, 1, none⟩ = some (.int .i64 0) := HX4.out.cell 1
  have u2 : w4.cell? ⟨q, 2, none⟩ = some (.int .i64 0) := HX4.out.cell 2
  have u3 : w4.cell? ⟨q, 3, none⟩ = some (.slice none 0 0) := HX4.out.cell 3
  have v1 := HX4.out.frozen 1
  have v2 := HX4.out.frozen 2
  have ul := HX4.out.lt
  have HR5 := Lib.hid (HR4.out.setOther (b := q) (k := 1) (u := .int .i64 a) (by have := HW2.out; omega))
  have HK5 := Lib.hid (HK4.out.set q 1 (.int .i64 a) (by have := HW2.out; omega))
  have HX5 := Lib.hid (HX4.out.set 1 (.int .i64 a))
  go_wp2
  refine wp_region_X (fun w' => Bk w' q 35 [.string ⟨#[116, 105, 99, 107]⟩, .int .i64 a, .int .i64 0, .slice none 0 0]) 6 (n := 7) rfl (by kernel_rfl) (HX5.out.drew) (fun hS => ?_)
  refine X_take 0 (some 96) (v := ?_) (listed' := #[true, false, false, false, false, false, false]) rfl rfl rfl (by kernel_rfl) (fun _ _ _ h => h) ⟨rfl, ?_⟩ hS ?_
  rotate_left
  ·intro w' hS'
   (go_simp; try with_reducible rfl)
  simp only [Act.put, List.setIfInBounds_toArray, List.set_cons_zero, List.set_cons_succ]
  refine X_take 1 (some 97) (v := ?_) (listed' := #[true, true, false, false, false, false, false]) rfl rfl rfl (by kernel_rfl) (fun _ _ _ h => h) ⟨rfl, ?_⟩ hS ?_
  rotate_left
  ·intro w' hS'
   have e0 : w'.cell? ⟨q, 0, none⟩ = some (.string ⟨#[116, 105, 99, 107]⟩) := hS'.cell 0
   have e1 : w'.cell? ⟨q, 1, none⟩ = some (.int .i64 a) := hS'.cell 1
   have e2 : w'.cell? ⟨q, 2, none⟩ = some (.int .i64 0) := hS'.cell 2
   have e3 : w'.cell? ⟨q, 3, none⟩ = some (.slice none 0 0) := hS'.cell 3
   have el := hS'.lt
   (go_simp; try with_reducible rfl)
  simp only [Act.put, List.setIfInBounds_toArray, List.set_cons_zero, List.set_cons_succ]
  refine X_take 2 (some 98) (v := ?_) (listed' := #[true, true, true, false, false, false, false]) rfl rfl rfl (by kernel_rfl) (fun _ _ _ h => h) ⟨rfl, ?_⟩ hS ?_
  rotate_left
  ·intro w' hS'
   (go_simp; try with_reducible rfl)
  simp only [Act.put, List.setIfInBounds_toArray, List.set_cons_zero, List.set_cons_succ]
  refine X_one 3 (listed' := #[true, true, true, true, false, false, false]) (by kernel_rfl) rfl rfl (fun K hK => ?_)
  go_simp
  have KY := Lib.hid (next_k 6 HK5.out.drew.ok (by decide) (by decide))
  (with_reducible refine KY.out.mono ?_)
  rintro e w6 ⟨y, rfl, y0, y1, hs⟩
  have HK6 := Lib.hid (HK5.out.drew.trans hs)
  have HR6 := Lib.hid (hs.bk HR5.out.drew (by have := HKg.out; omega))
  have HX6 := Lib.hid (hs.bk HX5.out.drew (by have := HKg.out; have := HW2.out; omega))
  have hwr : IntKind.i64.wrap (a + y) = a + y := by simp [IntKind.wrap_i64]; omega
  refine hK _ _ HX6.out ?_
  clear hK KY hs HK5 HR5 HX5
  refine X_one 4 (listed' := #[true, true, true, true, true, false, false]) (by kernel_rfl) rfl rfl (fun K hK => ?_)
  go_simp
  refine hK _ _ HX6.out ?_
  clear hK
  refine X_one 5 (listed' := #[true, true, true, true, true, true, false]) (by kernel_rfl) rfl rfl (fun K hK => ?_)
  go_simp
  refine hK _ _ HX6.out ?_
  clear hK
  refine X_tail (by kernel_rfl) ?_
  refine A_one 6 (listed' := #[true, true, true, true, true, true, true]) (by kernel_rfl) rfl rfl (fun K hK => ?_)
  have k0 : w6.cell? ⟨q, 0, none⟩ = some (.string ⟨#[116, 105, 99, 107]⟩) := HX6.out.cell 0
  have k1 : w6.cell? ⟨q, 1, none⟩ = some (.int .i64 a) := HX6.out.cell 1
  have k2 : w6.cell? ⟨q, 2, none⟩ = some (.int .i64 0) := HX6.out.cell 2
  have k3 : w6.cell? ⟨q, 3, none⟩ = some (.slice none 0 0) := HX6.out.cell 3
  have kf := HX6.out.frozen 2
  have kl := HX6.out.lt
  go_simp
  refine hK _ _ ?_
  clear hK
  refine A_done (by kernel_rfl) ?_
  clear hS
  have HR7 := Lib.hid (HR6.out.setOther (b := q) (k := 2) (u := .int .i64 (a + y)) (by have := HW2.out; omega))
  have HK7 := Lib.hid (HK6.out.set q 2 (.int .i64 (a + y)) (by have := HW2.out; omega))
  have HX7 := Lib.hid (HX6.out.set 2 (.int .i64 (a + y)))
  have z0 : (w6.setCell ⟨q, 2, none⟩ (.int .i64 (a + y))).cell? ⟨W.heap.size + 1, 0, none⟩ = some (.string ⟨#[]⟩) := HR7.out.cell 0
  have z1 : (w6.setCell ⟨q, 2, none⟩ (.int .i64 (a + y))).cell? ⟨W.heap.size + 1, 1, none⟩ = some (.int .i64 0) := HR7.out.cell 1
  have z2 : (w6.setCell ⟨q, 2, none⟩ (.int .i64 (a + y))).cell? ⟨W.heap.size + 1, 2, none⟩ = some (.int .i64 0) := HR7.out.cell 2
  have z3 : (w6.setCell ⟨q, 2, none⟩ (.int .i64 (a + y))).cell? ⟨W.heap.size + 1, 3, none⟩ = some (.slice none 0 0) := HR7.out.cell 3
  have fz0 := HR7.out.frozen 0
  have fz1 := HR7.out.frozen 1
  have fz2 := HR7.out.frozen 2
  have fz3 := HR7.out.frozen 3
  have hzl := HR7.out.lt
  go_wp2
  have hX := leaf_g (d := (d + 1)) (rb := W.heap.size + 1) (op := ⟨#[116, 105, 99, 107]⟩) (a := a) (b := (a + y)) (by omega) HR7.out (by decide) (in64_lt a0 a1 (by first | decide | exact hr4 | exact hi4)) (in64_lt (n := 18) (by omega) (by omega) (by decide)) HK7.out
  generalize ((((w6.setCell ⟨q, 2, none⟩ (.int .i64 (a + y))).setCell ⟨W.heap.size + 1, 0, none⟩ (.string ⟨#[116, 105, 99, 107]⟩)).setCell ⟨W.heap.size + 1, 1, none⟩ (.int .i64 a)).setCell ⟨W.heap.size + 1, 2, none⟩ (.int .i64 (a + y))).setCell ⟨W.heap.size + 1, 3, none⟩ (.slice none 0 0) = X at *
  have xx0 : X.cell? ⟨W.heap.size + 1, 0, none⟩ = some (.string ⟨#[116, 105, 99, 107]⟩) := hX.2.cell 0
  have xx1 : X.cell? ⟨W.heap.size + 1, 1, none⟩ = some (.int .i64 a) := hX.2.cell 1
  have xx2 : X.cell? ⟨W.heap.size + 1, 2, none⟩ = some (.int .i64 (a + y)) := hX.2.cell 2
  have xx3 : X.cell? ⟨W.heap.size + 1, 3, none⟩ = some (.slice none 0 0) := hX.2.cell 3
  refine bodyPost_ret (v := .agg #[.string ⟨#[116, 105, 99, 107]⟩, .int .i64 a, .int .i64 (a + y), .slice none 0 0]) (by simp [results, Tryz.results40, go_sem, xx0, xx1, xx2, xx3]) rfl hX.1
 ·clear x0 x1
  have KN := Lib.hid (condNs_any w1)
  go_wp2_with fail
  refine KN.out.mono ?_
  rintro e w2 ⟨A2, n2, c2, rfl, hN, hb⟩
  obtain ⟨bb, off, rfl, hbb, c0⟩ := hN.at_ 4 (by decide)
  obtain rfl : n2 = 8 := hN.len
  change w2.cell? ⟨bb, off + 4, none⟩ = some (.string ⟨#[105, 116, 101, 109]⟩) at c0
  have HK2 := Lib.hid ((HK1.out.below hb).alloc (.cells #[.string ⟨#[105, 116, 101, 109]⟩, .int .i64 0, .int .i64 0, .slice none 0 0] 35))
  have HC2 := Lib.hid ((HC1.out.below hb HC1.out.lt).alloc (.cells #[.string ⟨#[105, 116, 101, 109]⟩, .int .i64 0, .int .i64 0, .slice none 0 0] 35))
  have HR2 := Lib.hid ((HR1.out.below hb HR1.out.lt).alloc (.cells #[.string ⟨#[105, 116, 101, 109]⟩, .int .i64 0, .int .i64 0, .slice none 0 0] 35))
  have HX2 := Lib.hid (Bk.new w2 35 [.string ⟨#[105, 116, 101, 109]⟩, .int .i64 0, .int .i64 0, .slice none 0 0])
  have HW2 : Hid (W.heap.size + 2 ≤ w2.heap.size) := Lib.hid (by have h1 := HR1.out.lt; have h2 := hb.size; omega)
  clear KN hN hb
  have x0 : (w2.alloc (.cells #[.string ⟨#[105, 116, 101, 109]⟩, .int .i64 0, .int .i64 0, .slice none 0 0] 35)).cell? ⟨w2.heap.size, 0, none⟩ = some (.string ⟨#[105, 116, 101, 109]⟩) := HX2.out.cell 0
  have y0 : (w2.alloc (.cells #[.string ⟨#[105, 116, 101, 109]⟩, .int .i64 0, .int .i64 0, .slice none 0 0] 35)).cell? ⟨W.heap.size, 0, none⟩ = some (.slice si.A si.n si.c) := HC2.out.cell 0
  have y1 : (w2.alloc (.cells #[.string ⟨#[105, 116, 101, 109]⟩, .int .i64 0, .int .i64 0, .slice none 0 0] 35)).cell? ⟨W.heap.size, 1, none⟩ = some (.slice sr.A sr.n sr.c) := HC2.out.cell 1
  have yl := HC2.out.lt
  have KX := Lib.hid (next_k (si.n : Int) HK2.out.ok hi1 hi2)
  go_wp2_with fail
  (with_reducible refine KX.out.mono ?_)
  rintro e w4 ⟨a, rfl, a0, a1, hs⟩
  have HK4 := Lib.hid (HK2.out.trans hs)
  have HC4 := Lib.hid (hs.bk HC2.out (by have := HKg.out; omega))
  have HR4 := Lib.hid (hs.bk HR2.out (by have := HKg.out; omega))
  have HX4 := Lib.hid (hs.bk HX2.out (by have := HKg.out; have := HW2.out; omega))
  clear KX hs x0 y0 y1 yl HK2 HC2 HR2 HX2
  obtain ⟨q, hq⟩ : ∃ q, w2.heap.size = q := ⟨_, rfl⟩
  rw [hq] at HX4 HW2
  try simp only [hq]
  clear hq
  have u0 : w4.cell? ⟨q, 0, none⟩ = some (.string ⟨#[105, 116, 101, 109]⟩) := HX4.out.cell 0
  have u1 : w4.cell? ⟨q, 1, none⟩ = some (.int .i64 0) := HX4.out.cell 1
  have u2 : w4.cell? ⟨q, 2, none⟩ = some (.int .i64 0) := HX4.out.cell 2
  have u3 : w4.cell? ⟨q, 3, none⟩ = some (.slice none 0 0) := HX4.out.cell 3
  have v1 := HX4.out.frozen 1
  have v2 := HX4.out.frozen 2
  have ul := HX4.out.lt
  have HR5 := Lib.hid (HR4.out.setOther (b := q) (k := 1) (u := .int .i64 a) (by have := HW2.out; omega))
  have HK5 := Lib.hid (HK4.out.set q 1 (.int .i64 a) (by have := HW2.out; omega))
  have HX5 := Lib.hid (HX4.out.set 1 (.int .i64 a))
  have z0 : (w4.setCell ⟨q, 1, none⟩ (.int .i64 a)).cell? ⟨W.heap.size + 1, 0, none⟩ = some (.string ⟨#[]⟩) := HR5.out.cell 0
  have z1 : (w4.setCell ⟨q, 1, none⟩ (.int .i64 a)).cell? ⟨W.heap.size + 1, 1, none⟩ = some (.int .i64 0) := HR5.out.cell 1
  have z2 : (w4.setCell ⟨q, 1, none⟩ (.int .i64 a)).cell? ⟨W.heap.size + 1, 2, none⟩ = some (.int .i64 0) := HR5.out.cell 2
  have z3 : (w4.setCell ⟨q, 1, none⟩ (.int .i64 a)).cell? ⟨W.heap.size + 1, 3, none⟩ = some (.slice none 0 0) := HR5.out.cell 3
  have fz0 := HR5.out.frozen 0
  have fz1 := HR5.out.frozen 1
  have fz2 := HR5.out.frozen 2
  have fz3 := HR5.out.frozen 3
  have hzl := HR5.out.lt
  go_wp2
  have hX := leaf_g (d := (d + 1)) (rb := W.heap.size + 1) (op := ⟨#[105, 116, 101, 109]⟩) (a := a) (b := 0) (by omega) HR5.out (by decide) (in64_lt a0 a1 (by first | decide | exact hr4 | exact hi4)) ⟨by decide, by decide⟩ HK5.out
  generalize ((((w4.setCell ⟨q, 1, none⟩ (.int .i64 a)).setCell ⟨W.heap.size + 1, 0, none⟩ (.string ⟨#[105, 116, 101, 109]⟩)).setCell ⟨W.heap.size + 1, 1, none⟩ (.int .i64 a)).setCell ⟨W.heap.size + 1, 2, none⟩ (.int .i64 0)).setCell ⟨W.heap.size + 1, 3, none⟩ (.slice none 0 0) = X at *
  have xx0 : X.cell? ⟨W.heap.size + 1, 0, none⟩ = some (.string ⟨#[105, 116, 101, 109]⟩) := hX.2.cell 0
  have xx1 : X.cell? ⟨W.heap.size + 1, 1, none⟩ = some (.int .i64 a) := hX.2.cell 1
  have xx2 : X.cell? ⟨W.heap.size + 1, 2, none⟩ = some (.int .i64 0) := hX.2.cell 2
  have xx3 : X.cell? ⟨W.heap.size + 1, 3, none⟩ = some (.slice none 0 0) := hX.2.cell 3
  refine bodyPost_ret (v := .agg #[.string ⟨#[105, 116, 101, 109]⟩, .int .i64 a, .int .i64 0, .slice none 0 0]) (by simp [results, Tryz.results40, go_sem, xx0, xx1, xx2, xx3]) rfl hX.1
 ·clear x0 x1
  have KN := Lib.hid (condNs_any w1)
  go_wp2_with fail
  refine KN.out.mono ?_
  rintro e w2 ⟨A2, n2, c2, rfl, hN, hb⟩
  obtain ⟨bb, off, rfl, hbb, c0⟩ := hN.at_ 5 (by decide)
  obtain rfl : n2 = 8 := hN.len
  change w2.cell? ⟨bb, off + 5, none⟩ = some (.string ⟨#[109, 111, 114, 101]⟩) at c0
  have HK2 := Lib.hid ((HK1.out.below hb).alloc (.cells #[.string ⟨#[109, 111, 114, 101]⟩, .int .i64 0, .int .i64 0, .slice none 0 0] 35))
  have HC2 := Lib.hid ((HC1.out.below hb HC1.out.lt).alloc (.cells #[.string ⟨#[109, 111, 114, 101]⟩, .int .i64 0, .int .i64 0, .slice none 0 0] 35))
  have HR2 := Lib.hid ((HR1.out.below hb HR1.out.lt).alloc (.cells #[.string ⟨#[109, 111, 114, 101]⟩, .int .i64 0, .int .i64 0, .slice none 0 0] 35))
  have HX2 := Lib.hid (Bk.new w2 35 [.string ⟨#[109, 111, 114, 101]⟩, .int .i64 0, .int .i64 0, .slice none 0 0])
  have HW2 : Hid (W.heap.size + 2 ≤ w2.heap.size) := Lib.hid (by have h1 := HR1.out.lt; have h2 := hb.size; omega)
  clear KN hN hb
  have x0 : (w2.alloc (.cells #[.string ⟨#[109, 111, 114, 101]⟩, .int .i64 0, .int .i64 0, .slice none 0 0] 35)).cell? ⟨w2.heap.size, 0, none⟩ = some (.string ⟨#[109, 111, 114, 101]⟩) := HX2.out.cell 0
  have y0 : (w2.alloc (.cells #[.string ⟨#[109, 111, 114, 101]⟩, .int .i64 0, .int .i64 0, .slice none 0 0] 35)).cell? ⟨W.heap.size, 0, none⟩ = some (.slice si.A si.n si.c) := HC2.out.cell 0
  have y1 : (w2.alloc (.cells #[.string ⟨#[109, 111, 114, 101]⟩, .int .i64 0, .int .i64 0, .slice none 0 0] 35)).cell? ⟨W.heap.size, 1, none⟩ = some (.slice sr.A sr.n sr.c) := HC2.out.cell 1
  have yl := HC2.out.lt
  have KX := Lib.hid (next_k 9 HK2.out.ok (by decide) (by decide))
  go_wp2_with fail
  (with_reducible refine KX.out.mono ?_)
  rintro e w4 ⟨a, rfl, a0, a1, hs⟩
  have HK4 := Lib.hid (HK2.out.trans hs)
  have HC4 := Lib.hid (hs.bk HC2.out (by have := HKg.out; omega))
  have HR4 := Lib.hid (hs.bk HR2.out (by have := HKg.out; omega))
  have HX4 := Lib.hid (hs.bk HX2.out (by have := HKg.out; have := HW2.out; omega))
  clear KX hs x0 y0 y1 yl HK2 HC2 HR2 HX2
  obtain ⟨q, hq⟩ : ∃ q, w2.heap.size = q := ⟨_, rfl⟩
  rw [hq] at HX4 HW2
  try simp only [hq]
  clear hq
  have u0 : w4.cell? ⟨q, 0, none⟩ = some (.string ⟨#[109, 111, 114, 101]⟩) := HX4.out.cell 0
  have u1 : w4.cell? ⟨q, 1, none⟩ = some (.int .i64 0) := HX4.out.cell 1
  have u2 : w4.cell? ⟨q, 2, none⟩ = some (.int .i64 0) := HX4.out.cell 2
  have u3 : w4.cell? ⟨q, 3, none⟩ = some (.slice none 0 0) := HX4.out.cell 3
  have v1 := HX4.out.frozen 1
  have v2 := HX4.out.frozen 2
  have ul := HX4.out.lt
  have HR5 := Lib.hid (HR4.out.setOther (b := q) (k := 1) (u := .int .i64 a) (by have := HW2.out; omega))
  have HK5 := Lib.hid (HK4.out.set q 1 (.int .i64 a) (by have := HW2.out; omega))
  have HX5 := Lib.hid (HX4.out.set 1 (.int .i64 a))
  have HC5 := Lib.hid (HC4.out.setOther (b := q) (k := 1) (u := .int .i64 a) (by have := HW2.out; omega))
  have y0 : (w4.setCell ⟨q, 1, none⟩ (.int .i64 a)).cell? ⟨W.heap.size, 0, none⟩ = some (.slice si.A si.n si.c) := HC5.out.cell 0
  have yl := HC5.out.lt
  have KY := Lib.hid (next_k (si.n : Int) HK5.out.ok hi1 hi2)
  go_wp2_with fail
  (with_reducible refine KY.out.mono ?_)
  rintro e w6 ⟨b, rfl, b0, b1, hs⟩
  have HK6 := Lib.hid (HK5.out.trans hs)
  have HR6 := Lib.hid (hs.bk HR5.out (by have := HKg.out; omega))
  have HX6 := Lib.hid (hs.bk HX5.out (by have := HKg.out; have := HW2.out; omega))
  clear KY hs y0 yl HC5 HK5 HR5 HX5 u0 u1 u2 u3 v1 v2 ul
  have k0 : w6.cell? ⟨q, 0, none⟩ = some (.string ⟨#[109, 111, 114, 101]⟩) := HX6.out.cell 0
  have k1 : w6.cell? ⟨q, 1, none⟩ = some (.int .i64 a) := HX6.out.cell 1
  have k2 : w6.cell? ⟨q, 2, none⟩ = some (.int .i64 0) := HX6.out.cell 2
  have k3 : w6.cell? ⟨q, 3, none⟩ = some (.slice none 0 0) := HX6.out.cell 3
  have kf := HX6.out.frozen 2
  have kl := HX6.out.lt
  have HR7 := Lib.hid (HR6.out.setOther (b := q) (k := 2) (u := .int .i64 b) (by have := HW2.out; omega))
  have HK7 := Lib.hid (HK6.out.set q 2 (.int .i64 b) (by have := HW2.out; omega))
  have HX7 := Lib.hid (HX6.out.set 2 (.int .i64 b))
  have z0 : (w6.setCell ⟨q, 2, none⟩ (.int .i64 b)).cell? ⟨W.heap.size + 1, 0, none⟩ = some (.string ⟨#[]⟩) := HR7.out.cell 0
  have z1 : (w6.setCell ⟨q, 2, none⟩ (.int .i64 b)).cell? ⟨W.heap.size + 1, 1, none⟩ = some (.int .i64 0) := HR7.out.cell 1
  have z2 : (w6.setCell ⟨q, 2, none⟩ (.int .i64 b)).cell? ⟨W.heap.size + 1, 2, none⟩ = some (.int .i64 0) := HR7.out.cell 2
  have z3 : (w6.setCell ⟨q, 2, none⟩ (.int .i64 b)).cell? ⟨W.heap.size + 1, 3, none⟩ = some (.slice none 0 0) := HR7.out.cell 3
  have fz0 := HR7.out.frozen 0
  have fz1 := HR7.out.frozen 1
  have fz2 := HR7.out.frozen 2
  have fz3 := HR7.out.frozen 3
  have hzl := HR7.out.lt
  go_wp2
  have hX := leaf_g (d := (d + 1)) (rb := W.heap.size + 1) (op := ⟨#[109, 111, 114, 101]⟩) (a := a) (b := b) (by omega) HR7.out (by decide) (in64_lt a0 a1 (by decide)) (in64_lt b0 b1 hi4) HK7.out
  generalize ((((w6.setCell ⟨q, 2, none⟩ (.int .i64 b)).setCell ⟨W.heap.size + 1, 0, none⟩ (.string ⟨#[109, 111, 114, 101]⟩)).setCell ⟨W.heap.size + 1, 1, none⟩ (.int .i64 a)).setCell ⟨W.heap.size + 1, 2, none⟩ (.int .i64 b)).setCell ⟨W.heap.size + 1, 3, none⟩ (.slice none 0 0) = X at *
  have xx0 : X.cell? ⟨W.heap.size + 1, 0, none⟩ = some (.string ⟨#[109, 111, 114, 101]⟩) := hX.2.cell 0
  have xx1 : X.cell? ⟨W.heap.size + 1, 1, none⟩ = some (.int .i64 a) := hX.2.cell 1
  have xx2 : X.cell? ⟨W.heap.size + 1, 2, none⟩ = some (.int .i64 b) := hX.2.cell 2
  have xx3 : X.cell? ⟨W.heap.size + 1, 3, none⟩ = some (.slice none 0 0) := hX.2.cell 3
  refine bodyPost_ret (v := .agg #[.string ⟨#[109, 111, 114, 101]⟩, .int .i64 a, .int .i64 b, .slice none 0 0]) (by simp [results, Tryz.results40, go_sem, xx0, xx1, xx2, xx3]) rfl hX.1
 ·clear x0 x1
  have KN := Lib.hid (condNs_any w1)
  go_wp2_with fail
  refine KN.out.mono ?_
  rintro e w2 ⟨A2, n2, c2, rfl, hN, hb⟩
  obtain ⟨bb, off, rfl, hbb, c0⟩ := hN.at_ 6 (by decide)
  obtain rfl : n2 = 8 := hN.len
  change w2.cell? ⟨bb, off + 6, none⟩ = some (.string ⟨#[115, 116, 101, 112]⟩) at c0
  have HK2 := Lib.hid ((HK1.out.below hb).alloc (.cells #[.string ⟨#[115, 116, 101, 112]⟩, .int .i64 0, .int .i64 0, .slice none 0 0] 35))
  have HC2 := Lib.hid ((HC1.out.below hb HC1.out.lt).alloc (.cells #[.string ⟨#[115, 116, 101, 112]⟩, .int .i64 0, .int .i64 0, .slice none 0 0] 35))
  have HR2 := Lib.hid ((HR1.out.below hb HR1.out.lt).alloc (.cells #[.string ⟨#[115, 116, 101, 112]⟩, .int .i64 0, .int .i64 0, .slice none 0 0] 35))
  have HX2 := Lib.hid (Bk.new w2 35 [.string ⟨#[115, 116, 101, 112]⟩, .int .i64 0, .int .i64 0, .slice none 0 0])
  have HW2 : Hid (W.heap.size + 2 ≤ w2.heap.size) := Lib.hid (by have h1 := HR1.out.lt; have h2 := hb.size; omega)
  clear KN hN hb
  have x0 : (w2.alloc (.cells #[.string ⟨#[115, 116, 101, 112]⟩, .int .i64 0, .int .i64 0, .slice none 0 0] 35)).cell? ⟨w2.heap.size, 0, none⟩ = some (.string ⟨#[115, 116, 101, 112]⟩) := HX2.out.cell 0
  have y0 : (w2.alloc (.cells #[.string ⟨#[115, 116, 101, 112]⟩, .int .i64 0, .int .i64 0, .slice none 0 0] 35)).cell? ⟨W.heap.size, 0, none⟩ = some (.slice si.A si.n si.c) := HC2.out.cell 0
  have y1 : (w2.alloc (.cells #[.string ⟨#[115, 116, 101, 112]⟩, .int .i64 0, .int .i64 0, .slice none 0 0] 35)).cell? ⟨W.heap.size, 1, none⟩ = some (.slice sr.A sr.n sr.c) := HC2.out.cell 1
  have yl := HC2.out.lt
  have KX := Lib.hid (next_k 12 HK2.out.ok (by decide) (by decide))
  go_wp2_with fail
  (with_reducible refine KX.out.mono ?_)
  rintro e w4 ⟨a, rfl, a0, a1, hs⟩
  have HK4 := Lib.hid (HK2.out.trans hs)
  have HC4 := Lib.hid (hs.bk HC2.out (by have := HKg.out; omega))
  have HR4 := Lib.hid (hs.bk HR2.out (by have := HKg.out; omega))
  have HX4 := Lib.hid (hs.bk HX2.out (by have := HKg.out; have := HW2.out; omega))
  clear KX hs x0 y0 y1 yl HK2 HC2 HR2 HX2
  obtain ⟨q, hq⟩ : ∃ q, w2.heap.size = q := ⟨_, rfl⟩
  rw [hq] at HX4 HW2
  try simp only [hq]
  clear hq
  have u0 : w4.cell? ⟨q, 0, none⟩ = some (.string ⟨#[115, 116, 101, 112]⟩) := HX4.out.cell 0
  have u1 : w4.cell? ⟨q, 1, none⟩ = some (.int .i64 0) := HX4.out.cell 1
  have u2 : w4.cell? ⟨q, 2, none⟩ = some (.int .i64 0) := HX4.out.cell 2
  have u3 : w4.cell? ⟨q, 3, none⟩ = some (.slice none 0 0) := HX4.out.cell 3
  have v1 := HX4.out.frozen 1
  have v2 := HX4.out.frozen 2
  have ul := HX4.out.lt
  have HR5 := Lib.hid (HR4.out.setOther (b := q) (k := 1) (u := .int .i64 a) (by have := HW2.out; omega))
  have HK5 := Lib.hid (HK4.out.set q 1 (.int .i64 a) (by have := HW2.out; omega))
  have HX5 := Lib.hid (HX4.out.set 1 (.int .i64 a))
  go_wp2
  refine wp_region_X (fun w' => Bk w' q 35 [.string ⟨#[115, 116, 101, 112]⟩, .int .i64 a, .int .i64 0, .slice none 0 0]) 6 (n := 7) rfl (by kernel_rfl) (HX5.out.drew) (fun hS => ?_)
  refine X_take 0 (some 96) (v := ?_) (listed' := #[true, false, false, false, false, false, false]) rfl rfl rfl (by kernel_rfl) (fun _ _ _ h => h) ⟨rfl, ?_⟩ hS ?_
  rotate_left
  ·intro w' hS'
   (go_simp; try with_reducible rfl)
  simp only [Act.put, List.setIfInBounds_toArray, List.set_cons_zero, List.set_cons_succ]
  refine X_take 1 (some 97) (v := ?_) (listed' := #[true, true, false, false, false, false, false]) rfl rfl rfl (by kernel_rfl) (fun _ _ _ h => h) ⟨rfl, ?_⟩ hS ?_
  rotate_left
  ·intro w' hS'
   have e0 : w'.cell? ⟨q, 0, none⟩ = some (.string ⟨#[115, 116, 101, 112]⟩) := hS'.cell 0
   have e1 : w'.cell? ⟨q, 1, none⟩ = some (.int .i64 a) := hS'.cell 1
   have e2 : w'.cell? ⟨q, 2, none⟩ = some (.int .i64 0) := hS'.cell 2
   have e3 : w'.cell? ⟨q, 3, none⟩ = some (.slice none 0 0) := hS'.cell 3
   have el := hS'.lt
   (go_simp; try with_reducible rfl)
  simp only [Act.put, List.setIfInBounds_toArray, List.set_cons_zero, List.set_cons_succ]
  refine X_take 2 (some 98) (v := ?_) (listed' := #[true, true, true, false, false, false, false]) rfl rfl rfl (by kernel_rfl) (fun _ _ _ h => h) ⟨rfl, ?_⟩ hS ?_
  rotate_left
  ·intro w' hS'
   (go_simp; try with_reducible rfl)
  simp only [Act.put, List.setIfInBounds_toArray, List.set_cons_zero, List.set_cons_succ]
  refine X_one 3 (listed' := #[true, true, true, true, false, false, false]) (by kernel_rfl) rfl rfl (fun K hK => ?_)
  go_simp
  have KY := Lib.hid (next_k 6 HK5.out.drew.ok (by decide) (by decide))
  (with_reducible refine KY.out.mono ?_)
  rintro e w6 ⟨y, rfl, y0, y1, hs⟩
  have HK6 := Lib.hid (HK5.out.drew.trans hs)
  have HR6 := Lib.hid (hs.bk HR5.out.drew (by have := HKg.out; omega))
  have HX6 := Lib.hid (hs.bk HX5.out.drew (by have := HKg.out; have := HW2.out; omega))
  have hwr : IntKind.i64.wrap (a + y) = a + y := by simp [IntKind.wrap_i64]; omega
  refine hK _ _ HX6.out ?_
  clear hK KY hs HK5 HR5 HX5
  refine X_one 4 (listed' := #[true, true, true, true, true, false, false]) (by kernel_rfl) rfl rfl (fun K hK => ?_)
  go_simp
  refine hK _ _ HX6.out ?_
  clear hK
  refine X_one 5 (listed' := #[true, true, true, true, true, true, false]) (by kernel_rfl) rfl rfl (fun K hK => ?_)
  go_simp
  refine hK _ _ HX6.out ?_
  clear hK
  refine X_tail (by kernel_rfl) ?_
  refine A_one 6 (listed' := #[true, true, true, true, true, true, true]) (by kernel_rfl) rfl rfl (fun K hK => ?_)
  have k0 : w6.cell? ⟨q, 0, none⟩ = some (.string ⟨#[115, 116, 101, 112]⟩) := HX6.out.cell 0
  have k1 : w6.cell? ⟨q, 1, none⟩ = some (.int .i64 a) := HX6.out.cell 1
  have k2 : w6.cell? ⟨q, 2, none⟩ = some (.int .i64 0) := HX6.out.cell 2
  have k3 : w6.cell? ⟨q, 3, none⟩ = some (.slice none 0 0) := HX6.out.cell 3
  have kf := HX6.out.frozen 2
  have kl := HX6.out.lt
  go_simp
  refine hK _ _ ?_
  clear hK
  refine A_done (by kernel_rfl) ?_
  clear hS
  have HR7 := Lib.hid (HR6.out.setOther (b := q) (k := 2) (u := .int .i64 (a + y)) (by have := HW2.out; omega))
  have HK7 := Lib.hid (HK6.out.set q 2 (.int .i64 (a + y)) (by have := HW2.out; omega))
  have HX7 := Lib.hid (HX6.out.set 2 (.int .i64 (a + y)))
  have z0 : (w6.setCell ⟨q, 2, none⟩ (.int .i64 (a + y))).cell? ⟨W.heap.size + 1, 0, none⟩ = some (.string ⟨#[]⟩) := HR7.out.cell 0
  have z1 : (w6.setCell ⟨q, 2, none⟩ (.int .i64 (a + y))).cell? ⟨W.heap.size + 1, 1, none⟩ = some (.int .i64 0) := HR7.out.cell 1
  have z2 : (w6.setCell ⟨q, 2, none⟩ (.int .i64 (a + y))).cell? ⟨W.heap.size + 1, 2, none⟩ = some (.int .i64 0) := HR7.out.cell 2
  have z3 : (w6.setCell ⟨q, 2, none⟩ (.int .i64 (a + y))).cell? ⟨W.heap.size + 1, 3, none⟩ = some (.slice none 0 0) := HR7.out.cell 3
  have fz0 := HR7.out.frozen 0
  have fz1 := HR7.out.frozen 1
  have fz2 := HR7.out.frozen 2
  have fz3 := HR7.out.frozen 3
  have hzl := HR7.out.lt
  go_wp2
  have hX := leaf_g (d := (d + 1)) (rb := W.heap.size + 1) (op := ⟨#[115, 116, 101, 112]⟩) (a := a) (b := (a + y)) (by omega) HR7.out (by decide) (in64_lt a0 a1 (by first | decide | exact hr4 | exact hi4)) (in64_lt (n := 18) (by omega) (by omega) (by decide)) HK7.out
  generalize ((((w6.setCell ⟨q, 2, none⟩ (.int .i64 (a + y))).setCell ⟨W.heap.size + 1, 0, none⟩ (.string ⟨#[115, 116, 101, 112]⟩)).setCell ⟨W.heap.size + 1, 1, none⟩ (.int .i64 a)).setCell ⟨W.heap.size + 1, 2, none⟩ (.int .i64 (a + y))).setCell ⟨W.heap.size + 1, 3, none⟩ (.slice none 0 0) = X at *
  have xx0 : X.cell? ⟨W.heap.size + 1, 0, none⟩ = some (.string ⟨#[115, 116, 101, 112]⟩) := hX.2.cell 0
  have xx1 : X.cell? ⟨W.heap.size + 1, 1, none⟩ = some (.int .i64 a) := hX.2.cell 1
  have xx2 : X.cell? ⟨W.heap.size + 1, 2, none⟩ = some (.int .i64 (a + y)) := hX.2.cell 2
  have xx3 : X.cell? ⟨W.heap.size + 1, 3, none⟩ = some (.slice none 0 0) := hX.2.cell 3
  refine bodyPost_ret (v := .agg #[.string ⟨#[115, 116, 101, 112]⟩, .int .i64 a, .int .i64 (a + y), .slice none 0 0]) (by simp [results, Tryz.results40, go_sem, xx0, xx1, xx2, xx3]) rfl hX.1
 ·clear x0 x1
  have KN := Lib.hid (condNs_any w1)
  go_wp2_with fail
  refine KN.out.mono ?_
  rintro e w2 ⟨A2, n2, c2, rfl, hN, hb⟩
  obtain ⟨bb, off, rfl, hbb, c0⟩ := hN.at_ 7 (by decide)
  obtain rfl : n2 = 8 := hN.len
  change w2.cell? ⟨bb, off + 7, none⟩ = some (.string ⟨#[97, 99, 99, 111, 117, 110, 116]⟩) at c0
  have HK2 := Lib.hid ((HK1.out.below hb).alloc (.cells #[.string ⟨#[97, 99, 99, 111, 117, 110, 116]⟩, .int .i64 0, .int .i64 0, .slice none 0 0] 35))
  have HC2 := Lib.hid ((HC1.out.below hb HC1.out.lt).alloc (.cells #[.string ⟨#[97, 99, 99, 111, 117, 110, 116]⟩, .int .i64 0, .int .i64 0, .slice none 0 0] 35))
  have HR2 := Lib.hid ((HR1.out.below hb HR1.out.lt).alloc (.cells #[.string ⟨#[97, 99, 99, 111, 117, 110, 116]⟩, .int .i64 0, .int .i64 0, .slice none 0 0] 35))
  have HX2 := Lib.hid (Bk.new w2 35 [.string ⟨#[97, 99, 99, 111, 117, 110, 116]⟩, .int .i64 0, .int .i64 0, .slice none 0 0])
  have HW2 : Hid (W.heap.size + 2 ≤ w2.heap.size) := Lib.hid (by have h1 := HR1.out.lt; have h2 := hb.size; omega)
  clear KN hN hb
  have x0 : (w2.alloc (.cells #[.string ⟨#[97, 99, 99, 111, 117, 110, 116]⟩, .int .i64 0, .int .i64 0, .slice none 0 0] 35)).cell? ⟨w2.heap.size, 0, none⟩ = some (.string ⟨#[97, 99, 99, 111, 117, 110, 116]⟩) := HX2.out.cell 0
  have y0 : (w2.alloc (.cells #[.string ⟨#[97, 99, 99, 111, 117, 110, 116]⟩, .int .i64 0, .int .i64 0, .slice none 0 0] 35)).cell? ⟨W.heap.size, 0, none⟩ = some (.slice si.A si.n si.c) := HC2.out.cell 0
  have y1 : (w2.alloc (.cells #[.string ⟨#[97, 99, 99, 111, 117, 110, 116]⟩, .int .i64 0, .int .i64 0, .slice none 0 0] 35)).cell? ⟨W.heap.size, 1, none⟩ = some (.slice sr.A sr.n sr.c) := HC2.out.cell 1
  have yl := HC2.out.lt
  have KX := Lib.hid (next_k 6 HK2.out.ok (by decide) (by decide))
  go_wp2_with fail
  (with_reducible refine KX.out.mono ?_)
  rintro e w4 ⟨a, rfl, a0, a1, hs⟩
  have HK4 := Lib.hid (HK2.out.trans hs)
  have HC4 := Lib.hid (hs.bk HC2.out (by have := HKg.out; omega))
  have HR4 := Lib.hid (hs.bk HR2.out (by have := HKg.out; omega))
  have HX4 := Lib.hid (hs.bk HX2.out (by have := HKg.out; have := HW2.out; omega))
  clear KX hs x0 y0 y1 yl HK2 HC2 HR2 HX2
  obtain ⟨q, hq⟩ : ∃ q, w2.heap.size = q := ⟨_, rfl⟩
  rw [hq] at HX4 HW2
  try simp only [hq]
  clear hq
  have u0 : w4.cell? ⟨q, 0, none⟩ = some (.string ⟨#[97, 99, 99, 111, 117, 110, 116]⟩) := HX4.out.cell 0
  have u1 : w4.cell? ⟨q, 1, none⟩ = some (.int .i64 0) := HX4.out.cell 1
  have u2 : w4.cell? ⟨q, 2, none⟩ = some (.int .i64 0) := HX4.out.cell 2
  have u3 : w4.cell? ⟨q, 3, none⟩ = some (.slice none 0 0) := HX4.out.cell 3
  have v1 := HX4.out.frozen 1
  have v2 := HX4.out.frozen 2
  have ul := HX4.out.lt
  have HR5 := Lib.hid (HR4.out.setOther (b := q) (k := 1) (u := .int .i64 a) (by have := HW2.out; omega))
  have HK5 := Lib.hid (HK4.out.set q 1 (.int .i64 a) (by have := HW2.out; omega))
  have HX5 := Lib.hid (HX4.out.set 1 (.int .i64 a))
  have z0 : (w4.setCell ⟨q, 1, none⟩ (.int .i64 a)).cell? ⟨W.heap.size + 1, 0, none⟩ = some (.string ⟨#[]⟩) := HR5.out.cell 0
  have z1 : (w4.setCell ⟨q, 1, none⟩ (.int .i64 a)).cell? ⟨W.heap.size + 1, 1, none⟩ = some (.int .i64 0) := HR5.out.cell 1
  have z2 : (w4.setCell ⟨q, 1, none⟩ (.int .i64 a)).cell? ⟨W.heap.size + 1, 2, none⟩ = some (.int .i64 0) := HR5.out.cell 2
  have z3 : (w4.setCell ⟨q, 1, none⟩ (.int .i64 a)).cell? ⟨W.heap.size + 1, 3, none⟩ = some (.slice none 0 0) := HR5.out.cell 3
  have fz0 := HR5.out.frozen 0
  have fz1 := HR5.out.frozen 1
  have fz2 := HR5.out.frozen 2
  have fz3 := HR5.out.frozen 3
  have hzl := HR5.out.lt
  go_wp2
  have hX := leaf_g (d := (d + 1)) (rb := W.heap.size + 1) (op := ⟨#[97, 99, 99, 111, 117, 110, 116]⟩) (a := a) (b := 0) (by omega) HR5.out (by decide) (in64_lt a0 a1 (by first | decide | exact hr4 | exact hi4)) ⟨by decide, by decide⟩ HK5.out
  generalize ((((w4.setCell ⟨q, 1, none⟩ (.int .i64 a)).setCell ⟨W.heap.size + 1, 0, none⟩ (.string ⟨#[97, 99, 99, 111, 117, 110, 116]⟩)).setCell ⟨W.heap.size + 1, 1, none⟩ (.int .i64 a)).setCell ⟨W.heap.size + 1, 2, none⟩ (.int .i64 0)).setCell ⟨W.heap.size + 1, 3, none⟩ (.slice none 0 0) = X at *
  have xx0 : X.cell? ⟨W.heap.size + 1, 0, none⟩ = some (.string ⟨#[97, 99, 99, 111, 117, 110, 116]⟩) := hX.2.cell 0
  have xx1 : X.cell? ⟨W.heap.size + 1, 1, none⟩ = some (.int .i64 a) := hX.2.cell 1
  have xx2 : X.cell? ⟨W.heap.size + 1, 2, none⟩ = some (.int .i64 0) := hX.2.cell 2
  have xx3 : X.cell? ⟨W.heap.size + 1, 3, none⟩ = some (.slice none 0 0) := hX.2.cell 3
  refine bodyPost_ret (v := .agg #[.string ⟨#[97, 99, 99, 111, 117, 110, 116]⟩, .int .i64 a, .int .i64 0, .slice none 0 0]) (by simp [results, Tryz.results40, go_sem, xx0, xx1, xx2, xx3]) rfl hX.1
 ·clear x0 x1
  have hbx : Bk ((w1.alloc (.cells #[.string ⟨#[97, 110, 100]⟩, .string ⟨#[111, 114]⟩, .string ⟨#[110, 111, 116]⟩, .string ⟨#[97, 110, 100]⟩] 9)).alloc (.cells #[.string ⟨#[97, 110, 100]⟩, .int .i64 0, .int .i64 0, .slice none 0 0] 35)) (w1.heap.size + 1) 35 [.string ⟨#[97, 110, 100]⟩, .int .i64 0, .int .i64 0, .slice none 0 0] := by
   have := Bk.new (w1.alloc (.cells #[.string ⟨#[97, 110, 100]⟩, .string ⟨#[111, 114]⟩, .string ⟨#[110, 111, 116]⟩, .string ⟨#[97, 110, 100]⟩] 9)) 35 [.string ⟨#[97, 110, 100]⟩, .int .i64 0, .int .i64 0, .slice none 0 0]
   rw [World.size_alloc] at this
   exact this
  have HW2 : Hid (W.heap.size + 2 ≤ w1.heap.size) := Lib.hid (by have h1 := HR1.out.lt; omega)
  have HX2 := Lib.hid hbx
  have HK2 := Lib.hid ((HK1.out.alloc (.cells #[.string ⟨#[97, 110, 100]⟩, .string ⟨#[111, 114]⟩, .string ⟨#[110, 111, 116]⟩, .string ⟨#[97, 110, 100]⟩] 9)).alloc (.cells #[.string ⟨#[97, 110, 100]⟩, .int .i64 0, .int .i64 0, .slice none 0 0] 35))
  have HC2 := Lib.hid ((HC1.out.alloc (.cells #[.string ⟨#[97, 110, 100]⟩, .string ⟨#[111, 114]⟩, .string ⟨#[110, 111, 116]⟩, .string ⟨#[97, 110, 100]⟩] 9)).alloc (.cells #[.string ⟨#[97, 110, 100]⟩, .int .i64 0, .int .i64 0, .slice none 0 0] 35))
  have HR2 := Lib.hid ((HR1.out.alloc (.cells #[.string ⟨#[97, 110, 100]⟩, .string ⟨#[111, 114]⟩, .string ⟨#[110, 111, 116]⟩, .string ⟨#[97, 110, 100]⟩] 9)).alloc (.cells #[.string ⟨#[97, 110, 100]⟩, .int .i64 0, .int .i64 0, .slice none 0 0] 35))
  clear hbx
  have KY := Lib.hid (next_k 2 HK2.out.ok (by decide) (by decide))
  have x0 : ((w1.alloc (.cells #[.string ⟨#[97, 110, 100]⟩, .string ⟨#[111, 114]⟩, .string ⟨#[110, 111, 116]⟩, .string ⟨#[97, 110, 100]⟩] 9)).alloc (.cells #[.string ⟨#[97, 110, 100]⟩, .int .i64 0, .int .i64 0, .slice none 0 0] 35)).cell? ⟨w1.heap.size + 1, 0, none⟩ = some (.string ⟨#[97, 110, 100]⟩) := HX2.out.cell 0
  go_wp2_with fail
  (with_reducible refine KY.out.mono ?_)
  rintro e w3 ⟨y, rfl, y0, y1, hs⟩
  have HK3 := Lib.hid (HK2.out.trans hs)
  have HC3 := Lib.hid (hs.bk HC2.out (by have := HKg.out; omega))
  have HR3 := Lib.hid (hs.bk HR2.out (by have := HKg.out; omega))
  have HX3 := Lib.hid (hs.bk HX2.out (by have := HKg.out; have := HW2.out; omega))
  obtain ⟨n, hn⟩ : ∃ n : Nat, (n : Int) = 2 + y := ⟨(2 + y).toNat, by omega⟩
  have hn3 : n ≤ 3 := by omega
  have hwr : IntKind.i64.wrap (2 + y) = (n : Int) := by rw [hn]; simp [IntKind.wrap_i64]; omega
  have HN := Lib.hid hn
  clear hn
  obtain ⟨bx, hbx⟩ : ∃ q, w1.heap.size + 1 = q := ⟨_, rfl⟩
  have HBX : Hid (W.heap.size + 3 ≤ bx) := Lib.hid (by have := HW2.out; omega)
  rw [hbx] at HX3 x0
  clear KY hs x0 HK2 HC2 HR2 HX2 y0 y1
  have b0 : w3.cell? ⟨bx, 0, none⟩ = some (.string ⟨#[97, 110, 100]⟩) := HX3.out.cell 0
  go_wp2_with fail
  go_loopw [10] (fun i wr => ∃ (k : Nat) (ks : List MkM) (s : Sl), k ≤ n ∧ i = .int .i64 k ∧ MkAt bx wr 35 bx ⟨#[97, 110, 100]⟩ 0 0 ks s ∧ ks.length = k ∧ (Mk.sizeL (ks.map MkM.core) ≤ k * szG d ∧ ∀ t ∈ ks, t.Fan 3) ∧ KSt W wr g ∧ Bk wr W.heap.size 28 [.slice si.A si.n si.c, .slice sr.A sr.n sr.c, .slice st.A st.n st.c, .slice sx.A sx.n sx.c] ∧ Bk wr (W.heap.size + 1) 35 [.string ⟨#[]⟩, .int .i64 0, .int .i64 0, .slice none 0 0]) (fun i _ => n - (intOf i).toNat)
  case atStart => exact ⟨0, [], ⟨none, 0, 0⟩, Nat.zero_le _, rfl, MkAt.start HX3.out (Nat.le_refl _), rfl, ⟨by simp [Mk.sizeL], fun _ h => absurd h List.not_mem_nil⟩, HK3.out, HC3.out, HR3.out⟩
  case round =>
   obtain ⟨k, ks, s, hk, rfl, hma, hkl0, hfs, hks, hcb, hrb⟩ := hrel
   have HMA := Lib.hid hma
   have HKS := Lib.hid hks
   have HCb := Lib.hid hcb
   have HRb := Lib.hid hrb
   have HKL := Lib.hid hkl0
   have HFS := Lib.hid hfs
   have hsn : s.n ≤ 3 := by rw [hma.len, hkl0]; omega
   have HSN : Hid (s.n = k) := Lib.hid (by rw [hma.len, hkl0])
   by_cases hlt : k < n
   ·skip
    clear hma hkl0 hfs hks hcb hrb
    go_wp2
    refine wp_region_X (fun w' => Bk w' bx 35 [.string ⟨#[97, 110, 100]⟩, .int .i64 0, .int .i64 0, .slice s.A s.n s.c] ∧ Bk w' W.heap.size 28 [.slice si.A si.n si.c, .slice sr.A sr.n sr.c, .slice st.A st.n st.c, .slice sx.A sx.n sx.c]) 10 (n := 11) rfl (by kernel_rfl) (⟨HMA.out.bk.drew, HCb.out.drew⟩) (fun hS => ?_)
    refine X_take 0 (some 37) (v := ?_) (listed' := #[true, false, false, false, false, false, false, false, false, false, false]) rfl rfl rfl (by kernel_rfl) (fun _ _ _ h => h) ⟨rfl, ?_⟩ hS ?_
    rotate_left
    ·intro w' hS'
     (go_simp; try with_reducible rfl)
    simp only [Act.put, List.setIfInBounds_toArray, List.set_cons_zero, List.set_cons_succ]
    refine X_take 1 (some 38) (v := ?_) (listed' := #[true, true, false, false, false, false, false, false, false, false, false]) rfl rfl rfl (by kernel_rfl) (fun _ _ _ h => h) ⟨rfl, ?_⟩ hS ?_
    rotate_left
    ·intro w' hS'
     have e0 : w'.cell? ⟨bx, 0, none⟩ = some (.string ⟨#[97, 110, 100]⟩) := hS'.1.cell 0
     have e1 : w'.cell? ⟨bx, 1, none⟩ = some (.int .i64 0) := hS'.1.cell 1
     have e2 : w'.cell? ⟨bx, 2, none⟩ = some (.int .i64 0) := hS'.1.cell 2
     have e3 : w'.cell? ⟨bx, 3, none⟩ = some (.slice s.A s.n s.c) := hS'.1.cell 3
     have el := hS'.1.lt
     (go_simp; try with_reducible rfl)
    simp only [Act.put, List.setIfInBounds_toArray, List.set_cons_zero, List.set_cons_succ]
    refine X_take 2 (some 39) (v := ?_) (listed' := #[true, true, true, false, false, false, false, false, false, false, false]) rfl rfl rfl (by kernel_rfl) (fun _ _ _ h => h) ⟨rfl, ?_⟩ hS ?_
    rotate_left
    ·intro w' hS'
     (go_simp; try with_reducible rfl)
    simp only [Act.put, List.setIfInBounds_toArray, List.set_cons_zero, List.set_cons_succ]
    refine X_take 3 (some 40) (v := ?_) (listed' := #[true, true, true, true, false, false, false, false, false, false, false]) rfl rfl rfl (by kernel_rfl) (fun _ _ _ h => h) ⟨rfl, ?_⟩ hS ?_
    rotate_left
    ·intro w' hS'
     have e0 : w'.cell? ⟨W.heap.size, 0, none⟩ = some (.slice si.A si.n si.c) := hS'.2.cell 0
     have e1 : w'.cell? ⟨W.heap.size, 1, none⟩ = some (.slice sr.A sr.n sr.c) := hS'.2.cell 1
     have e2 : w'.cell? ⟨W.heap.size, 2, none⟩ = some (.slice st.A st.n st.c) := hS'.2.cell 2
     have e3 : w'.cell? ⟨W.heap.size, 3, none⟩ = some (.slice sx.A sx.n sx.c) := hS'.2.cell 3
     have el := hS'.2.lt
     (go_simp; try with_reducible rfl)
    simp only [Act.put, List.setIfInBounds_toArray, List.set_cons_zero, List.set_cons_succ]
    refine X_take 4 (some 41) (v := ?_) (listed' := #[true, true, true, true, true, false, false, false, false, false, false]) rfl rfl rfl (by kernel_rfl) (fun _ _ _ h => h) ⟨rfl, ?_⟩ hS ?_
    rotate_left
    ·intro w' hS'
     (go_simp; try with_reducible rfl)
    simp only [Act.put, List.setIfInBounds_toArray, List.set_cons_zero, List.set_cons_succ]
    refine X_take 5 (some 42) (v := ?_) (listed' := #[true, true, true, true, true, true, false, false, false, false, false]) rfl rfl rfl (by kernel_rfl) (fun _ _ _ h => h) ⟨rfl, ?_⟩ hS ?_
    rotate_left
    ·intro w' hS'
     (go_simp; try with_reducible rfl)
    simp only [Act.put, List.setIfInBounds_toArray, List.set_cons_zero, List.set_cons_succ]
    refine X_one 6 (listed' := #[true, true, true, true, true, true, true, false, false, false, false]) (by kernel_rfl) rfl rfl (fun K hK => ?_)
    go_simp
    have KM := Lib.hid (HI.out wr.drew HKS.out.drew.ok)
    (with_reducible refine KM.out.mono ?_)
    rintro e w5 ⟨M2, rfl, hok, hsz2, hfan, hs⟩
    have HK5 := Lib.hid (HKS.out.drew.trans hs)
    have HC5 := Lib.hid (hs.bk HCb.out.drew (by have := HKg.out; omega))
    have HR5 := Lib.hid (hs.bk HRb.out.drew (by have := HKg.out; omega))
    have HM5 := Lib.hid ((HMA.out.below ((Below.refl _ _).drew)).kst hs (by have := HKg.out; have := HBX.out; omega))
    have HOK5 := Lib.hid (HMA.out.fresh hok ⟨HMA.out.bk.lt, Nat.le_of_lt HMA.out.bk.lt, HMA.out.lt⟩)
    have HF := Lib.hid (And.intro hsz2 hfan)
    refine hK _ _ ⟨HM5.out.bk, HC5.out⟩ ?_
    clear hK KM hs hok hsz2 hfan HMA HKS HCb HRb
    refine X_one 7 (listed' := #[true, true, true, true, true, true, true, true, false, false, false]) (by kernel_rfl) rfl rfl (fun K hK => ?_)
    go_simp
    have yk : Below w5.heap.size w5 (w5.alloc (.cells #[.string M2.op, .int .i64 M2.a, .int .i64 M2.b, .slice M2.s.A M2.s.n M2.s.c] 35)) := (Below.refl _ _).alloc (Nat.le_refl _) _
    have HK6 := Lib.hid (HK5.out.below yk)
    have HC6 := Lib.hid (HC5.out.below yk HC5.out.lt)
    have HR6 := Lib.hid (HR5.out.below yk HR5.out.lt)
    have HM6 := Lib.hid (HM5.out.below yk)
    have HOK6 := Lib.hid (HOK5.out.bel yk)
    refine hK _ _ ⟨HM6.out.bk, HC6.out⟩ ?_
    clear hK yk HK5 HC5 HR5 HM5 HOK5
    refine X_one 8 (listed' := #[true, true, true, true, true, true, true, true, true, false, false]) (by kernel_rfl) rfl rfl (fun K hK => ?_)
    have hl1 := Lib.hid HM6.out.len
    have hbl := HM6.out.bk.lt
    refine step_append_lies _ rfl (.tmp 38) (.tmp 44) 33 rfl bx 35 i0 (.agg #[.string ⟨#[]⟩, .int .i64 0, .int .i64 0, .slice none 0 0]) 4 56 Tryz.underlying33 hi hz0 hz1 hz2 rfl (by decide) _ s.n (mcells ks) rfl (by have := HM6.out.own; rw [← hl1.out] at this; exact this) ⟨w5.heap.size, 0, none⟩ 1 1 [.string M2.op, .int .i64 M2.a, .int .i64 M2.b, .slice M2.s.A M2.s.n M2.s.c] rfl rfl (new4 _ _ _ _ _ _) (one4m M2) (by omega) (by unfold maxLen; omega) (by omega) (by omega) (w5.heap.size + 1) (by simp) ?_
    intro g' cap w8 hown8 hgr8 hat8 _
    have HK8 := Lib.hid (HK6.out.grow hgr8 (fun b hb => Nat.le_trans (by have := HBX.out; omega) (HM6.out.base b hb)))
    have HC8 := Lib.hid (HC6.out.grown hgr8 (HM6.out.far W.heap.size (by have := HBX.out; omega)))
    have HR8 := Lib.hid (HR6.out.grown hgr8 (HM6.out.far (W.heap.size + 1) (by have := HBX.out; omega)))
    have HQ8 := Lib.hid (HM6.out.app hgr8 hown8 (by rw [hl1.out]) HOK6.out (hat8.elim (fun e => .inl e.symm) (fun e => .inr (by rw [e]; simp [Value.ownBlock]))))
    refine hK _ _ ⟨HQ8.out.1, HC8.out⟩ ?_
    clear hK hown8 hgr8 hat8 HK6 HC6 HR6 HM6 HOK6
    have z3 : w8.cell? ⟨bx, 3, none⟩ = some (.slice s.A s.n s.c) := HQ8.out.1.cell 3
    have f3 := HQ8.out.1.frozen 3
    have zl := HQ8.out.1.lt
    refine X_one 9 (listed' := #[true, true, true, true, true, true, true, true, true, true, false]) (by kernel_rfl) rfl rfl (fun K hK => ?_)
    go_simp
    refine hK _ _ ⟨HQ8.out.1, HC8.out⟩ ?_
    clear hK
    refine X_tail (by kernel_rfl) ?_
    refine A_one 10 (listed' := #[true, true, true, true, true, true, true, true, true, true, true]) (by kernel_rfl) rfl rfl (fun K hK => ?_)
    go_simp
    refine hK _ _ ?_
    clear hK
    refine A_done (by kernel_rfl) ?_
    clear hS
    go_wp2
    go_roundw
    case rel => exact ⟨k + 1, ks ++ [M2], ⟨some ⟨g', 0, none⟩, s.n + 1, cap⟩, by omega, by go_num, HQ8.out.2, by simp [HKL.out], ⟨by rw [List.map_append, List.map_cons, List.map_nil, sizeL_app]; have h1 := HFS.out.1; have h2 := HF.out.1; rw [Nat.add_mul, Nat.one_mul]; omega, fun t ht => by rcases List.mem_append.1 ht with ht | ht; exact HFS.out.2 t ht; rw [List.mem_singleton.1 ht]; exact HF.out.2⟩, HK8.out.set bx 3 _ (by have := HBX.out; omega), HC8.out.setOther (by have := HBX.out; omega), HR8.out.setOther (by have := HBX.out; omega)⟩
    case measure => simp [intOf]; omega
   ·have hkn : k = n := by omega
    skip
    have HOK := Lib.hid (hma.ok (by rw [hkl0]; omega) (by decide) ⟨by decide, by decide⟩ ⟨by decide, by decide⟩)
    have z0 : wr.cell? ⟨bx, 0, none⟩ = some (.string ⟨#[97, 110, 100]⟩) := hma.bk.cell 0
    have z1 : wr.cell? ⟨bx, 1, none⟩ = some (.int .i64 0) := hma.bk.cell 1
    have z2 : wr.cell? ⟨bx, 2, none⟩ = some (.int .i64 0) := hma.bk.cell 2
    have z3 : wr.cell? ⟨bx, 3, none⟩ = some (.slice s.A s.n s.c) := hma.bk.cell 3
    have zl := hma.bk.lt
    have y0 : wr.cell? ⟨W.heap.size + 1, 0, none⟩ = some (.string ⟨#[]⟩) := hrb.cell 0
    have y1 : wr.cell? ⟨W.heap.size + 1, 1, none⟩ = some (.int .i64 0) := hrb.cell 1
    have y2 : wr.cell? ⟨W.heap.size + 1, 2, none⟩ = some (.int .i64 0) := hrb.cell 2
    have y3 : wr.cell? ⟨W.heap.size + 1, 3, none⟩ = some (.slice none 0 0) := hrb.cell 3
    have f0 := hrb.frozen 0
    have f1 := hrb.frozen 1
    have f2 := hrb.frozen 2
    have f3 := hrb.frozen 3
    have yl := hrb.lt
    have HSZ : Hid (Mk.sizeL (ks.map MkM.core) ≤ 3 * szG d) := Lib.hid (Nat.le_trans hfs.1 (Nat.mul_le_mul_right _ (by omega)))
    have HLE : Hid (ks.length ≤ 3) := Lib.hid (by rw [hkl0]; omega)
    have HCAP : Hid (SlC s) := Lib.hid hma.cap
    clear hkn hma hkl0 hfs hks hcb hrb
    go_wp2
    have hX := lay_kst (M := ⟨⟨#[97, 110, 100]⟩, 0, 0, ks, s⟩) (rb := W.heap.size + 1) (by omega) HRb.out (HOK.out.mono fun q _ hq => ⟨by have := HBX.out; omega, by have := HBX.out; omega⟩) HKS.out
    dsimp only at hX
    generalize (((wr.setCell ⟨W.heap.size + 1, 0, none⟩ (.string ⟨#[97, 110, 100]⟩)).setCell ⟨W.heap.size + 1, 1, none⟩ (.int .i64 0)).setCell ⟨W.heap.size + 1, 2, none⟩ (.int .i64 0)).setCell ⟨W.heap.size + 1, 3, none⟩ (.slice s.A s.n s.c) = X at *
    have xx0 : X.cell? ⟨W.heap.size + 1, 0, none⟩ = some (.string ⟨#[97, 110, 100]⟩) := hX.2.2.cell 0
    have xx1 : X.cell? ⟨W.heap.size + 1, 1, none⟩ = some (.int .i64 0) := hX.2.2.cell 1
    have xx2 : X.cell? ⟨W.heap.size + 1, 2, none⟩ = some (.int .i64 0) := hX.2.2.cell 2
    have xx3 : X.cell? ⟨W.heap.size + 1, 3, none⟩ = some (.slice s.A s.n s.c) := hX.2.2.cell 3
    refine bodyPost_ret (v := .agg #[.string ⟨#[97, 110, 100]⟩, .int .i64 0, .int .i64 0, .slice s.A s.n s.c]) (by simp [results, Tryz.results40, go_sem, xx0, xx1, xx2, xx3]) rfl ?_
    refine ⟨⟨⟨#[97, 110, 100]⟩, 0, 0, ks, s⟩, rfl, hX.1, ?_, ?_, hX.2.1⟩
    ·have := HSZ.out
     rw [core_size]; show 1 + Mk.sizeL (ks.map MkM.core) ≤ 1 + 3 * szG d; omega
    ·exact .mk _ _ _ _ _ HLE.out HCAP.out fun t ht => HFS.out.2 t ht
 ·clear x0 x1
  have hbx : Bk ((w1.alloc (.cells #[.string ⟨#[97, 110, 100]⟩, .string ⟨#[111, 114]⟩, .string ⟨#[110, 111, 116]⟩, .string ⟨#[97, 110, 100]⟩] 9)).alloc (.cells #[.string ⟨#[111, 114]⟩, .int .i64 0, .int .i64 0, .slice none 0 0] 35)) (w1.heap.size + 1) 35 [.string ⟨#[111, 114]⟩, .int .i64 0, .int .i64 0, .slice none 0 0] := by
   have := Bk.new (w1.alloc (.cells #[.string ⟨#[97, 110, 100]⟩, .string ⟨#[111, 114]⟩, .string ⟨#[110, 111, 116]⟩, .string ⟨#[97, 110, 100]⟩] 9)) 35 [.string ⟨#[111, 114]⟩, .int .i64 0, .int .i64 0, .slice none 0 0]
   rw [World.size_alloc] at this
   exact this
  have HW2 : Hid (W.heap.size + 2 ≤ w1.heap.size) := Lib.hid (by have h1 := HR1.out.lt; omega)
  have HX2 := Lib.hid hbx
  have HK2 := Lib.hid ((HK1.out.alloc (.cells #[.string ⟨#[97, 110, 100]⟩, .string ⟨#[111, 114]⟩, .string ⟨#[110, 111, 116]⟩, .string ⟨#[97, 110, 100]⟩] 9)).alloc (.cells #[.string ⟨#[111, 114]⟩, .int .i64 0, .int .i64 0, .slice none 0 0] 35))
  have HC2 := Lib.hid ((HC1.out.alloc (.cells #[.string ⟨#[97, 110, 100]⟩, .string ⟨#[111, 114]⟩, .string ⟨#[110, 111, 116]⟩, .string ⟨#[97, 110, 100]⟩] 9)).alloc (.cells #[.string ⟨#[111, 114]⟩, .int .i64 0, .int .i64 0, .slice none 0 0] 35))
  have HR2 := Lib.hid ((HR1.out.alloc (.cells #[.string ⟨#[97, 110, 100]⟩, .string ⟨#[111, 114]⟩, .string ⟨#[110, 111, 116]⟩, .string ⟨#[97, 110, 100]⟩] 9)).alloc (.cells #[.string ⟨#[111, 114]⟩, .int .i64 0, .int .i64 0, .slice none 0 0] 35))
  clear hbx
  have KY := Lib.hid (next_k 2 HK2.out.ok (by decide) (by decide))
  have x0 : ((w1.alloc (.cells #[.string ⟨#[97, 110, 100]⟩, .string ⟨#[111, 114]⟩, .string ⟨#[110, 111, 116]⟩, .string ⟨#[97, 110, 100]⟩] 9)).alloc (.cells #[.string ⟨#[111, 114]⟩, .int .i64 0, .int .i64 0, .slice none 0 0] 35)).cell? ⟨w1.heap.size + 1, 0, none⟩ = some (.string ⟨#[111, 114]⟩) := HX2.out.cell 0
  go_wp2_with fail
  (with_reducible refine KY.out.mono ?_)
  rintro e w3 ⟨y, rfl, y0, y1, hs⟩
  have HK3 := Lib.hid (HK2.out.trans hs)
  have HC3 := Lib.hid (hs.bk HC2.out (by have := HKg.out; omega))
  have HR3 := Lib.hid (hs.bk HR2.out (by have := HKg.out; omega))
  have HX3 := Lib.hid (hs.bk HX2.out (by have := HKg.out; have := HW2.out; omega))
  obtain ⟨n, hn⟩ : ∃ n : Nat, (n : Int) = 2 + y := ⟨(2 + y).toNat, by omega⟩
  have hn3 : n ≤ 3 := by omega
  have hwr : IntKind.i64.wrap (2 + y) = (n : Int) := by rw [hn]; simp [IntKind.wrap_i64]; omega
  have HN := Lib.hid hn
  clear hn
  obtain ⟨bx, hbx⟩ : ∃ q, w1.heap.size + 1 = q := ⟨_, rfl⟩
  have HBX : Hid (W.heap.size + 3 ≤ bx) := Lib.hid (by have := HW2.out; omega)
  rw [hbx] at HX3 x0
  clear KY hs x0 HK2 HC2 HR2 HX2 y0 y1
  have b0 : w3.cell? ⟨bx, 0, none⟩ = some (.string ⟨#[111, 114]⟩) := HX3.out.cell 0
  go_wp2_with fail
  go_loopw [10] (fun i wr => ∃ (k : Nat) (ks : List MkM) (s : Sl), k ≤ n ∧ i = .int .i64 k ∧ MkAt bx wr 35 bx ⟨#[111, 114]⟩ 0 0 ks s ∧ ks.length = k ∧ (Mk.sizeL (ks.map MkM.core) ≤ k * szG d ∧ ∀ t ∈ ks, t.Fan 3) ∧ KSt W wr g ∧ Bk wr W.heap.size 28 [.slice si.A si.n si.c, .slice sr.A sr.n sr.c, .slice st.A st.n st.c, .slice sx.A sx.n sx.c] ∧ Bk wr (W.heap.size + 1) 35 [.string ⟨#[]⟩, .int .i64 0, .int .i64 0, .slice none 0 0]) (fun i _ => n - (intOf i).toNat)
  case atStart => exact ⟨0, [], ⟨none, 0, 0⟩, Nat.zero_le _, rfl, MkAt.start HX3.out (Nat.le_refl _), rfl, ⟨by simp [Mk.sizeL], fun _ h => absurd h List.not_mem_nil⟩, HK3.out, HC3.out, HR3.out⟩
  case round =>
   obtain ⟨k, ks, s, hk, rfl, hma, hkl0, hfs, hks, hcb, hrb⟩ := hrel
   have HMA := Lib.hid hma
   have HKS := Lib.hid hks
   have HCb := Lib.hid hcb
   have HRb := Lib.hid hrb
   have HKL := Lib.hid hkl0
   have HFS := Lib.hid hfs
   have hsn : s.n ≤ 3 := by rw [hma.len, hkl0]; omega
   have HSN : Hid (s.n = k) := Lib.hid (by rw [hma.len, hkl0])
   by_cases hlt : k < n
   ·skip
    clear hma hkl0 hfs hks hcb hrb
    go_wp2
    refine wp_region_X (fun w' => Bk w' bx 35 [.string ⟨#[111, 114]⟩, .int .i64 0, .int .i64 0, .slice s.A s.n s.c] ∧ Bk w' W.heap.size 28 [.slice si.A si.n si.c, .slice sr.A sr.n sr.c, .slice st.A st.n st.c, .slice sx.A sx.n sx.c]) 10 (n := 11) rfl (by kernel_rfl) (⟨HMA.out.bk.drew, HCb.out.drew⟩) (fun hS => ?_)
    refine X_take 0 (some 37) (v := ?_) (listed' := #[true, false, false, false, false, false, false, false, false, false, false]) rfl rfl rfl (by kernel_rfl) (fun _ _ _ h => h) ⟨rfl, ?_⟩ hS ?_
    rotate_left
    ·intro w' hS'
     (go_simp; try with_reducible rfl)
    simp only [Act.put, List.setIfInBounds_toArray, List.set_cons_zero, List.set_cons_succ]
    refine X_take 1 (some 38) (v := ?_) (listed' := #[true, true, false, false, false, false, false, false, false, false, false]) rfl rfl rfl (by kernel_rfl) (fun _ _ _ h => h) ⟨rfl, ?_⟩ hS ?_
    rotate_left
    ·intro w' hS'
     have e0 : w'.cell? ⟨bx, 0, none⟩ = some (.string ⟨#[111, 114]⟩) := hS'.1.cell 0
     have e1 : w'.cell? ⟨bx, 1, none⟩ = some (.int .i64 0) := hS'.1.cell 1
     have e2 : w'.cell? ⟨bx, 2, none⟩ = some (.int .i64 0) := hS'.1.cell 2
     have e3 : w'.cell? ⟨bx, 3, none⟩ = some (.slice s.A s.n s.c) := hS'.1.cell 3
     have el := hS'.1.lt
     (go_simp; try with_reducible rfl)
    simp only [Act.put, List.setIfInBounds_toArray, List.set_cons_zero, List.set_cons_succ]
    refine X_take 2 (some 39) (v := ?_) (listed' := #[true, true, true, false, false, false, false, false, false, false, false]) rfl rfl rfl (by kernel_rfl) (fun _ _ _ h => h) ⟨rfl, ?_⟩ hS ?_
    rotate_left
    ·intro w' hS'
     (go_simp; try with_reducible rfl)
    simp only [Act.put, List.setIfInBounds_toArray, List.set_cons_zero, List.set_cons_succ]
    refine X_take 3 (some 40) (v := ?_) (listed' := #[true, true, true, true, false, false, false, false, false, false, false]) rfl rfl rfl (by kernel_rfl) (fun _ _ _ h => h) ⟨rfl, ?_⟩ hS ?_
    rotate_left
    ·intro w' hS'
     have e0 : w'.cell? ⟨W.heap.size, 0, none⟩ = some (.slice si.A si.n si.c) := hS'.2.cell 0
     have e1 : w'.cell? ⟨W.heap.size, 1, none⟩ = some (.slice sr.A sr.n sr.c) := hS'.2.cell 1
     have e2 : w'.cell? ⟨W.heap.size, 2, none⟩ = some (.slice st.A st.n st.c) := hS'.2.cell 2
     have e3 : w'.cell? ⟨W.heap.size, 3, none⟩ = some (.slice sx.A sx.n sx.c) := hS'.2.cell 3
     have el := hS'.2.lt
     (go_simp; try with_reducible rfl)
    simp only [Act.put, List.setIfInBounds_toArray, List.set_cons_zero, List.set_cons_succ]
    refine X_take 4 (some 41) (v := ?_) (listed' := #[true, true, true, true, true, false, false, false, false, false, false]) rfl rfl rfl (by kernel_rfl) (fun _ _ _ h => h) ⟨rfl, ?_⟩ hS ?_
    rotate_left
    ·intro w' hS'
     (go_simp; try with_reducible rfl)
    simp only [Act.put, List.setIfInBounds_toArray, List.set_cons_zero, List.set_cons_succ]
    refine X_take 5 (some 42) (v := ?_) (listed' := #[true, true, true, true, true, true, false, false, false, false, false]) rfl rfl rfl (by kernel_rfl) (fun _ _ _ h => h) ⟨rfl, ?_⟩ hS ?_
    rotate_left
    ·intro w' hS'
     (go_simp; try with_reducible rfl)
    simp only [Act.put, List.setIfInBounds_toArray, List.set_cons_zero, List.set_cons_succ]
    refine X_one 6 (listed' := #[true, true, true, true, true, true, true, false, false, false, false]) (by kernel_rfl) rfl rfl (fun K hK => ?_)
    go_simp
    have KM := Lib.hid (HI.out wr.drew HKS.out.drew.ok)
    (with_reducible refine KM.out.mono ?_)
    rintro e w5 ⟨M2, rfl, hok, hsz2, hfan, hs⟩
    have HK5 := Lib.hid (HKS.out.drew.trans hs)
    have HC5 := Lib.hid (hs.bk HCb.out.drew (by have := HKg.out; omega))
    have HR5 := Lib.hid (hs.bk HRb.out.drew (by have := HKg.out; omega))
    have HM5 := Lib.hid ((HMA.out.below ((Below.refl _ _).drew)).kst hs (by have := HKg.out; have := HBX.out; omega))
    have HOK5 := Lib.hid (HMA.out.fresh hok ⟨HMA.out.bk.lt, Nat.le_of_lt HMA.out.bk.lt, HMA.out.lt⟩)
    have HF := Lib.hid (And.intro hsz2 hfan)
    refine hK _ _ ⟨HM5.out.bk, HC5.out⟩ ?_
    clear hK KM hs hok hsz2 hfan HMA HKS HCb HRb
    refine X_one 7 (listed' := #[true, true, true, true, true, true, true, true, false, false, false]) (by kernel_rfl) rfl rfl (fun K hK => ?_)
    go_simp
    have yk : Below w5.heap.size w5 (w5.alloc (.cells #[.string M2.op, .int .i64 M2.a, .int .i64 M2.b, .slice M2.s.A M2.s.n M2.s.c] 35)) := (Below.refl _ _).alloc (Nat.le_refl _) _
    have HK6 := Lib.hid (HK5.out.below yk)
    have HC6 := Lib.hid (HC5.out.below yk HC5.out.lt)
    have HR6 := Lib.hid (HR5.out.below yk HR5.out.lt)
    have HM6 := Lib.hid (HM5.out.below yk)
    have HOK6 := Lib.hid (HOK5.out.bel yk)
    refine hK _ _ ⟨HM6.out.bk, HC6.out⟩ ?_
    clear hK yk HK5 HC5 HR5 HM5 HOK5
    refine X_one 8 (listed' := #[true, true, true, true, true, true, true, true, true, false, false]) (by kernel_rfl) rfl rfl (fun K hK => ?_)
    have hl1 := Lib.hid HM6.out.len
    have hbl := HM6.out.bk.lt
    refine step_append_lies _ rfl (.tmp 38) (.tmp 44) 33 rfl bx 35 i0 (.agg #[.string ⟨#[]⟩, .int .i64 0, .int .i64 0, .slice none 0 0]) 4 56 Tryz.underlying33 hi hz0 hz1 hz2 rfl (by decide) _ s.n (mcells ks) rfl (by have := HM6.out.own; rw [← hl1.out] at this; exact this) ⟨w5.heap.size, 0, none⟩ 1 1 [.string M2.op, .int .i64 M2.a, .int .i64 M2.b, .slice M2.s.A M2.s.n M2.s.c] rfl rfl (new4 _ _ _ _ _ _) (one4m M2) (by omega) (by unfold maxLen; omega) (by omega) (by omega) (w5.heap.size + 1) (by simp) ?_
    intro g' cap w8 hown8 hgr8 hat8 _
    have HK8 := Lib.hid (HK6.out.grow hgr8 (fun b hb => Nat.le_trans (by have := HBX.out; omega) (HM6.out.base b hb)))
    have HC8 := Lib.hid (HC6.out.grown hgr8 (HM6.out.far W.heap.size (by have := HBX.out; omega)))
    have HR8 := Lib.hid (HR6.out.grown hgr8 (HM6.out.far (W.heap.size + 1) (by have := HBX.out; omega)))
    have HQ8 := Lib.hid (HM6.out.app hgr8 hown8 (by rw [hl1.out]) HOK6.out (hat8.elim (fun e => .inl e.symm) (fun e => .inr (by rw [e]; simp [Value.ownBlock]))))
    refine hK _ _ ⟨HQ8.out.1, HC8.out⟩ ?_
    clear hK hown8 hgr8 hat8 HK6 HC6 HR6 HM6 HOK6
    have z3 : w8.cell? ⟨bx, 3, none⟩ = some (.slice s.A s.n s.c) := HQ8.out.1.cell 3
    have f3 := HQ8.out.1.frozen 3
    have zl := HQ8.out.1.lt
    refine X_one 9 (listed' := #[true, true, true, true, true, true, true, true, true, true, false]) (by kernel_rfl) rfl rfl (fun K hK => ?_)
    go_simp
    refine hK _ _ ⟨HQ8.out.1, HC8.out⟩ ?_
    clear hK
    refine X_tail (by kernel_rfl) ?_
    refine A_one 10 (listed' := #[true, true, true, true, true, true, true, true, true, true, true]) (by kernel_rfl) rfl rfl (fun K hK => ?_)
    go_simp
    refine hK _ _ ?_
    clear hK
    refine A_done (by kernel_rfl) ?_
    clear hS
    go_wp2
    go_roundw
    case rel => exact ⟨k + 1, ks ++ [M2], ⟨some ⟨g', 0, none⟩, s.n + 1, cap⟩, by omega, by go_num, HQ8.out.2, by simp [HKL.out], ⟨by rw [List.map_append, List.map_cons, List.map_nil, sizeL_app]; have h1 := HFS.out.1; have h2 := HF.out.1; rw [Nat.add_mul, Nat.one_mul]; omega, fun t ht => by rcases List.mem_append.1 ht with ht | ht; exact HFS.out.2 t ht; rw [List.mem_singleton.1 ht]; exact HF.out.2⟩, HK8.out.set bx 3 _ (by have := HBX.out; omega), HC8.out.setOther (by have := HBX.out; omega), HR8.out.setOther (by have := HBX.out; omega)⟩
    case measure => simp [intOf]; omega
   ·have hkn : k = n := by omega
    skip
    have HOK := Lib.hid (hma.ok (by rw [hkl0]; omega) (by decide) ⟨by decide, by decide⟩ ⟨by decide, by decide⟩)
    have z0 : wr.cell? ⟨bx, 0, none⟩ = some (.string ⟨#[111, 114]⟩) := hma.bk.cell 0
    have z1 : wr.cell? ⟨bx, 1, none⟩ = some (.int .i64 0) := hma.bk.cell 1
    have z2 : wr.cell? ⟨bx, 2, none⟩ = some (.int .i64 0) := hma.bk.cell 2
    have z3 : wr.cell? ⟨bx, 3, none⟩ = some (.slice s.A s.n s.c) := hma.bk.cell 3
    have zl := hma.bk.lt
    have y0 : wr.cell? ⟨W.heap.size + 1, 0, none⟩ = some (.string ⟨#[]⟩) := hrb.cell 0
    have y1 : wr.cell? ⟨W.heap.size + 1, 1, none⟩ = some (.int .i64 0) := hrb.cell 1
    have y2 : wr.cell? ⟨W.heap.size + 1, 2, none⟩ = some (.int .i64 0) := hrb.cell 2
    have y3 : wr.cell? ⟨W.heap.size + 1, 3, none⟩ = some (.slice none 0 0) := hrb.cell 3
    have f0 := hrb.frozen 0
    have f1 := hrb.frozen 1
    have f2 := hrb.frozen 2
    have f3 := hrb.frozen 3
    have yl := hrb.lt
    have HSZ : Hid (Mk.sizeL (ks.map MkM.core) ≤ 3 * szG d) := Lib.hid (Nat.le_trans hfs.1 (Nat.mul_le_mul_right _ (by omega)))
    have HLE : Hid (ks.length ≤ 3) := Lib.hid (by rw [hkl0]; omega)
    have HCAP : Hid (SlC s) := Lib.hid hma.cap
    clear hkn hma hkl0 hfs hks hcb hrb
    go_wp2
    have hX := lay_kst (M := ⟨⟨#[111, 114]⟩, 0, 0, ks, s⟩) (rb := W.heap.size + 1) (by omega) HRb.out (HOK.out.mono fun q _ hq => ⟨by have := HBX.out; omega, by have := HBX.out; omega⟩) HKS.out
    dsimp only at hX
    generalize (((wr.setCell ⟨W.heap.size + 1, 0, none⟩ (.string ⟨#[111, 114]⟩)).setCell ⟨W.heap.size + 1, 1, none⟩ (.int .i64 0)).setCell ⟨W.heap.size + 1, 2, none⟩ (.int .i64 0)).setCell ⟨W.heap.size + 1, 3, none⟩ (.slice s.A s.n s.c) = X at *
    have xx0 : X.cell? ⟨W.heap.size + 1, 0, none⟩ = some (.string ⟨#[111, 114]⟩) := hX.2.2.cell 0
    have xx1 : X.cell? ⟨W.heap.size + 1, 1, none⟩ = some (.int .i64 0) := hX.2.2.cell 1
    have xx2 : X.cell? ⟨W.heap.size + 1, 2, none⟩ = some (.int .i64 0) := hX.2.2.cell 2
    have xx3 : X.cell? ⟨W.heap.size + 1, 3, none⟩ = some (.slice s.A s.n s.c) := hX.2.2.cell 3
    refine bodyPost_ret (v := .agg #[.string ⟨#[111, 114]⟩, .int .i64 0, .int .i64 0, .slice s.A s.n s.c]) (by simp [results, Tryz.results40, go_sem, xx0, xx1, xx2, xx3]) rfl ?_
    refine ⟨⟨⟨#[111, 114]⟩, 0, 0, ks, s⟩, rfl, hX.1, ?_, ?_, hX.2.1⟩
    ·have := HSZ.out
     rw [core_size]; show 1 + Mk.sizeL (ks.map MkM.core) ≤ 1 + 3 * szG d; omega
    ·exact .mk _ _ _ _ _ HLE.out HCAP.out fun t ht => HFS.out.2 t ht
 ·clear x0 x1
  have hbx : Bk ((w1.alloc (.cells #[.string ⟨#[97, 110, 100]⟩, .string ⟨#[111, 114]⟩, .string ⟨#[110, 111, 116]⟩, .string ⟨#[97, 110, 100]⟩] 9)).alloc (.cells #[.string ⟨#[110, 111, 116]⟩, .int .i64 0, .int .i64 0, .slice none 0 0] 35)) (w1.heap.size + 1) 35 [.string ⟨#[110, 111, 116]⟩, .int .i64 0, .int .i64 0, .slice none 0 0] := by
   have := Bk.new (w1.alloc (.cells #[.string ⟨#[97, 110, 100]⟩, .string ⟨#[111, 114]⟩, .string ⟨#[110, 111, 116]⟩, .string ⟨#[97, 110, 100]⟩] 9)) 35 [.string ⟨#[110, 111, 116]⟩, .int .i64 0, .int .i64 0, .slice none 0 0]
   rw [World.size_alloc] at this
   exact this
  have HW2 : Hid (W.heap.size + 2 ≤ w1.heap.size) := Lib.hid (by have h1 := HR1.out.lt; omega)
  have HX2 := Lib.hid hbx
  have HK2 := Lib.hid ((HK1.out.alloc (.cells #[.string ⟨#[97, 110, 100]⟩, .string ⟨#[111, 114]⟩, .string ⟨#[110, 111, 116]⟩, .string ⟨#[97, 110, 100]⟩] 9)).alloc (.cells #[.string ⟨#[110, 111, 116]⟩, .int .i64 0, .int .i64 0, .slice none 0 0] 35))
  have HC2 := Lib.hid ((HC1.out.alloc (.cells #[.string ⟨#[97, 110, 100]⟩, .string ⟨#[111, 114]⟩, .string ⟨#[110, 111, 116]⟩, .string ⟨#[97, 110, 100]⟩] 9)).alloc (.cells #[.string ⟨#[110, 111, 116]⟩, .int .i64 0, .int .i64 0, .slice none 0 0] 35))
  have HR2 := Lib.hid ((HR1.out.alloc (.cells #[.string ⟨#[97, 110, 100]⟩, .string ⟨#[111, 114]⟩, .string ⟨#[110, 111, 116]⟩, .string ⟨#[97, 110, 100]⟩] 9)).alloc (.cells #[.string ⟨#[110, 111, 116]⟩, .int .i64 0, .int .i64 0, .slice none 0 0] 35))
  clear hbx
  have HK3 := HK2
  have HC3 := HC2
  have HR3 := HR2
  have HX3 := HX2
  obtain ⟨bx, hbx⟩ : ∃ q, w1.heap.size + 1 = q := ⟨_, rfl⟩
  have HBX : Hid (W.heap.size + 3 ≤ bx) := Lib.hid (by have := HW2.out; omega)
  rw [hbx] at HX3
  have b0 : ((w1.alloc (.cells #[.string ⟨#[97, 110, 100]⟩, .string ⟨#[111, 114]⟩, .string ⟨#[110, 111, 116]⟩, .string ⟨#[97, 110, 100]⟩] 9)).alloc (.cells #[.string ⟨#[110, 111, 116]⟩, .int .i64 0, .int .i64 0, .slice none 0 0] 35)).cell? ⟨bx, 0, none⟩ = some (.string ⟨#[110, 111, 116]⟩) := HX3.out.cell 0
  go_wp2_with fail
  go_loopw [10] (fun i wr => ∃ (k : Nat) (ks : List MkM) (s : Sl), k ≤ 1 ∧ i = .int .i64 k ∧ MkAt bx wr 35 bx ⟨#[110, 111, 116]⟩ 0 0 ks s ∧ ks.length = k ∧ (Mk.sizeL (ks.map MkM.core) ≤ k * szG d ∧ ∀ t ∈ ks, t.Fan 3) ∧ KSt W wr g ∧ Bk wr W.heap.size 28 [.slice si.A si.n si.c, .slice sr.A sr.n sr.c, .slice st.A st.n st.c, .slice sx.A sx.n sx.c] ∧ Bk wr (W.heap.size + 1) 35 [.string ⟨#[]⟩, .int .i64 0, .int .i64 0, .slice none 0 0]) (fun i _ => 1 - (intOf i).toNat)
  case atStart => exact ⟨0, [], ⟨none, 0, 0⟩, Nat.zero_le _, rfl, MkAt.start HX3.out (Nat.le_refl _), rfl, ⟨by simp [Mk.sizeL], fun _ h => absurd h List.not_mem_nil⟩, HK3.out, HC3.out, HR3.out⟩
  case round =>
   obtain ⟨k, ks, s, hk, rfl, hma, hkl0, hfs, hks, hcb, hrb⟩ := hrel
   have HMA := Lib.hid hma
   have HKS := Lib.hid hks
   have HCb := Lib.hid hcb
   have HRb := Lib.hid hrb
   have HKL := Lib.hid hkl0
   have HFS := Lib.hid hfs
   have hsn : s.n ≤ 3 := by rw [hma.len, hkl0]; omega
   have HSN : Hid (s.n = k) := Lib.hid (by rw [hma.len, hkl0])
   by_cases hlt : k < 1
   ·have hlt2 : (k : Int) < 1 := by omega
    clear hma hkl0 hfs hks hcb hrb
    go_wp2
    refine wp_region_X (fun w' => Bk w' bx 35 [.string ⟨#[110, 111, 116]⟩, .int .i64 0, .int .i64 0, .slice s.A s.n s.c] ∧ Bk w' W.heap.size 28 [.slice si.A si.n si.c, .slice sr.A sr.n sr.c, .slice st.A st.n st.c, .slice sx.A sx.n sx.c]) 10 (n := 11) rfl (by kernel_rfl) (⟨HMA.out.bk.drew, HCb.out.drew⟩) (fun hS => ?_)
    refine X_take 0 (some 37) (v := ?_) (listed' := #[true, false, false, false, false, false, false, false, false, false, false]) rfl rfl rfl (by kernel_rfl) (fun _ _ _ h => h) ⟨rfl, ?_⟩ hS ?_
    rotate_left
    ·intro w' hS'
     (go_simp; try with_reducible rfl)
    simp only [Act.put, List.setIfInBounds_toArray, List.set_cons_zero, List.set_cons_succ]
    refine X_take 1 (some 38) (v := ?_) (listed' := #[true, true, false, false, false, false, false, false, false, false, false]) rfl rfl rfl (by kernel_rfl) (fun _ _ _ h => h) ⟨rfl, ?_⟩ hS ?_
    rotate_left
    ·intro w' hS'
     have e0 : w'.cell? ⟨bx, 0, none⟩ = some (.string ⟨#[110, 111, 116]⟩) := hS'.1.cell 0
     have e1 : w'.cell? ⟨bx, 1, none⟩ = some (.int .i64 0) := hS'.1.cell 1
     have e2 : w'.cell? ⟨bx, 2, none⟩ = some (.int .i64 0) := hS'.1.cell 2
     have e3 : w'.cell? ⟨bx, 3, none⟩ = some (.slice s.A s.n s.c) := hS'.1.cell 3
     have el := hS'.1.lt
     (go_simp; try with_reducible rfl)
    simp only [Act.put, List.setIfInBounds_toArray, List.set_cons_zero, List.set_cons_succ]
    refine X_take 2 (some 39) (v := ?_) (listed' := #[true, true, true, false, false, false, false, false, false, false, false]) rfl rfl rfl (by kernel_rfl) (fun _ _ _ h => h) ⟨rfl, ?_⟩ hS ?_
    rotate_left
    ·intro w' hS'
     (go_simp; try with_reducible rfl)
    simp only [Act.put, List.setIfInBounds_toArray, List.set_cons_zero, List.set_cons_succ]
    refine X_take 3 (some 40) (v := ?_) (listed' := #[true, true, true, true, false, false, false, false, false, false, false]) rfl rfl rfl (by kernel_rfl) (fun _ _ _ h => h) ⟨rfl, ?_⟩ hS ?_
    rotate_left
    ·intro w' hS'
     have e0 : w'.cell? ⟨W.heap.size, 0, none⟩ = some (.slice si.A si.n si.c) := hS'.2.cell 0
     have e1 : w'.cell? ⟨W.heap.size, 1, none⟩ = some (.slice sr.A sr.n sr.c) := hS'.2.cell 1
     have e2 : w'.cell? ⟨W.heap.size, 2, none⟩ = some (.slice st.A st.n st.c) := hS'.2.cell 2
     have e3 : w'.cell? ⟨W.heap.size, 3, none⟩ = some (.slice sx.A sx.n sx.c) := hS'.2.cell 3
     have el := hS'.2.lt
     (go_simp; try with_reducible rfl)
    simp only [Act.put, List.setIfInBounds_toArray, List.set_cons_zero, List.set_cons_succ]
    refine X_take 4 (some 41) (v := ?_) (listed' := #[true, true, true, true, true, false, false, false, false, false, false]) rfl rfl rfl (by kernel_rfl) (fun _ _ _ h => h) ⟨rfl, ?_⟩ hS ?_
    rotate_left
    ·intro w' hS'
     (go_simp; try with_reducible rfl)
    simp only [Act.put, List.setIfInBounds_toArray, List.set_cons_zero, List.set_cons_succ]
    refine X_take 5 (some 42) (v := ?_) (listed' := #[true, true, true, true, true, true, false, false, false, false, false]) rfl rfl rfl (by kernel_rfl) (fun _ _ _ h => h) ⟨rfl, ?_⟩ hS ?_
    rotate_left
    ·intro w' hS'
     (go_simp; try with_reducible rfl)
    simp only [Act.put, List.setIfInBounds_toArray, List.set_cons_zero, List.set_cons_succ]
    refine X_one 6 (listed' := #[true, true, true, true, true, true, true, false, false, false, false]) (by kernel_rfl) rfl rfl (fun K hK => ?_)
    go_simp
    have KM := Lib.hid (HI.out wr.drew HKS.out.drew.ok)
    (with_reducible refine KM.out.mono ?_)
    rintro e w5 ⟨M2, rfl, hok, hsz2, hfan, hs⟩
    have HK5 := Lib.hid (HKS.out.drew.trans hs)
    have HC5 := Lib.hid (hs.bk HCb.out.drew (by have := HKg.out; omega))
    have HR5 := Lib.hid (hs.bk HRb.out.drew (by have := HKg.out; omega))
    have HM5 := Lib.hid ((HMA.out.below ((Below.refl _ _).drew)).kst hs (by have := HKg.out; have := HBX.out; omega))
    have HOK5 := Lib.hid (HMA.out.fresh hok ⟨HMA.out.bk.lt, Nat.le_of_lt HMA.out.bk.lt, HMA.out.lt⟩)
    have HF := Lib.hid (And.intro hsz2 hfan)
    refine hK _ _ ⟨HM5.out.bk, HC5.out⟩ ?_
    clear hK KM hs hok hsz2 hfan HMA HKS HCb HRb
    refine X_one 7 (listed' := #[true, true, true, true, true, true, true, true, false, false, false]) (by kernel_rfl) rfl rfl (fun K hK => ?_)
    go_simp
    have yk : Below w5.heap.size w5 (w5.alloc (.cells #[.string M2.op, .int .i64 M2.a, .int .i64 M2.b, .slice M2.s.A M2.s.n M2.s.c] 35)) := (Below.refl _ _).alloc (Nat.le_refl _) _
    have HK6 := Lib.hid (HK5.out.below yk)
    have HC6 := Lib.hid (HC5.out.below yk HC5.out.lt)
    have HR6 := Lib.hid (HR5.out.below yk HR5.out.lt)
    have HM6 := Lib.hid (HM5.out.below yk)
    have HOK6 := Lib.hid (HOK5.out.bel yk)
    refine hK _ _ ⟨HM6.out.bk, HC6.out⟩ ?_
    clear hK yk HK5 HC5 HR5 HM5 HOK5
    refine X_one 8 (listed' := #[true, true, true, true, true, true, true, true, true, false, false]) (by kernel_rfl) rfl rfl (fun K hK => ?_)
    have hl1 := Lib.hid HM6.out.len
    have hbl := HM6.out.bk.lt
    refine step_append_lies _ rfl (.tmp 38) (.tmp 44) 33 rfl bx 35 i0 (.agg #[.string ⟨#[]⟩, .int .i64 0, .int .i64 0, .slice none 0 0]) 4 56 Tryz.underlying33 hi hz0 hz1 hz2 rfl (by decide) _ s.n (mcells ks) rfl (by have := HM6.out.own; rw [← hl1.out] at this; exact this) ⟨w5.heap.size, 0, none⟩ 1 1 [.string M2.op, .int .i64 M2.a, .int .i64 M2.b, .slice M2.s.A M2.s.n M2.s.c] rfl rfl (new4 _ _ _ _ _ _) (one4m M2) (by omega) (by unfold maxLen; omega) (by omega) (by omega) (w5.heap.size + 1) (by simp) ?_
    intro g' cap w8 hown8 hgr8 hat8 _
    have HK8 := Lib.hid (HK6.out.grow hgr8 (fun b hb => Nat.le_trans (by have := HBX.out; omega) (HM6.out.base b hb)))
    have HC8 := Lib.hid (HC6.out.grown hgr8 (HM6.out.far W.heap.size (by have := HBX.out; omega)))
    have HR8 := Lib.hid (HR6.out.grown hgr8 (HM6.out.far (W.heap.size + 1) (by have := HBX.out; omega)))
    have HQ8 := Lib.hid (HM6.out.app hgr8 hown8 (by rw [hl1.out]) HOK6.out (hat8.elim (fun e => .inl e.symm) (fun e => .inr (by rw [e]; simp [Value.ownBlock]))))
    refine hK _ _ ⟨HQ8.out.1, HC8.out⟩ ?_
    clear hK hown8 hgr8 hat8 HK6 HC6 HR6 HM6 HOK6
    have z3 : w8.cell? ⟨bx, 3, none⟩ = some (.slice s.A s.n s.c) := HQ8.out.1.cell 3
    have f3 := HQ8.out.1.frozen 3
    have zl := HQ8.out.1.lt
    refine X_one 9 (listed' := #[true, true, true, true, true, true, true, true, true, true, false]) (by kernel_rfl) rfl rfl (fun K hK => ?_)
    go_simp
    refine hK _ _ ⟨HQ8.out.1, HC8.out⟩ ?_
    clear hK
    refine X_tail (by kernel_rfl) ?_
    refine A_one 10 (listed' := #[true, true, true, true, true, true, true, true, true, true, true]) (by kernel_rfl) rfl rfl (fun K hK => ?_)
    go_simp
    refine hK _ _ ?_
    clear hK
    refine A_done (by kernel_rfl) ?_
    clear hS
    go_wp2
    go_roundw
    case rel => exact ⟨k + 1, ks ++ [M2], ⟨some ⟨g', 0, none⟩, s.n + 1, cap⟩, by omega, by go_num, HQ8.out.2, by simp [HKL.out], ⟨by rw [List.map_append, List.map_cons, List.map_nil, sizeL_app]; have h1 := HFS.out.1; have h2 := HF.out.1; rw [Nat.add_mul, Nat.one_mul]; omega, fun t ht => by rcases List.mem_append.1 ht with ht | ht; exact HFS.out.2 t ht; rw [List.mem_singleton.1 ht]; exact HF.out.2⟩, HK8.out.set bx 3 _ (by have := HBX.out; omega), HC8.out.setOther (by have := HBX.out; omega), HR8.out.setOther (by have := HBX.out; omega)⟩
    case measure => simp [intOf]; omega
   ·have hkn : k = 1 := by omega
    have hlt2 : ¬ (k : Int) < 1 := by omega
    have HOK := Lib.hid (hma.ok (by rw [hkl0]; omega) (by decide) ⟨by decide, by decide⟩ ⟨by decide, by decide⟩)
    have z0 : wr.cell? ⟨bx, 0, none⟩ = some (.string ⟨#[110, 111, 116]⟩) := hma.bk.cell 0
    have z1 : wr.cell? ⟨bx, 1, none⟩ = some (.int .i64 0) := hma.bk.cell 1
    have z2 : wr.cell? ⟨bx, 2, none⟩ = some (.int .i64 0) := hma.bk.cell 2
    have z3 : wr.cell? ⟨bx, 3, none⟩ = some (.slice s.A s.n s.c) := hma.bk.cell 3
    have zl := hma.bk.lt
    have y0 : wr.cell? ⟨W.heap.size + 1, 0, none⟩ = some (.string ⟨#[]⟩) := hrb.cell 0
    have y1 : wr.cell? ⟨W.heap.size + 1, 1, none⟩ = some (.int .i64 0) := hrb.cell 1
    have y2 : wr.cell? ⟨W.heap.size + 1, 2, none⟩ = some (.int .i64 0) := hrb.cell 2
    have y3 : wr.cell? ⟨W.heap.size + 1, 3, none⟩ = some (.slice none 0 0) := hrb.cell 3
    have f0 := hrb.frozen 0
    have f1 := hrb.frozen 1
    have f2 := hrb.frozen 2
    have f3 := hrb.frozen 3
    have yl := hrb.lt
    have HSZ : Hid (Mk.sizeL (ks.map MkM.core) ≤ 3 * szG d) := Lib.hid (Nat.le_trans hfs.1 (Nat.mul_le_mul_right _ (by omega)))
    have HLE : Hid (ks.length ≤ 3) := Lib.hid (by rw [hkl0]; omega)
    have HCAP : Hid (SlC s) := Lib.hid hma.cap
    clear hkn hma hkl0 hfs hks hcb hrb
    go_wp2
    have hX := lay_kst (M := ⟨⟨#[110, 111, 116]⟩, 0, 0, ks, s⟩) (rb := W.heap.size + 1) (by omega) HRb.out (HOK.out.mono fun q _ hq => ⟨by have := HBX.out; omega, by have := HBX.out; omega⟩) HKS.out
    dsimp only at hX
    generalize (((wr.setCell ⟨W.heap.size + 1, 0, none⟩ (.string ⟨#[110, 111, 116]⟩)).setCell ⟨W.heap.size + 1, 1, none⟩ (.int .i64 0)).setCell ⟨W.heap.size + 1, 2, none⟩ (.int .i64 0)).setCell ⟨W.heap.size + 1, 3, none⟩ (.slice s.A s.n s.c) = X at *
    have xx0 : X.cell? ⟨W.heap.size + 1, 0, none⟩ = some (.string ⟨#[110, 111, 116]⟩) := hX.2.2.cell 0
    have xx1 : X.cell? ⟨W.heap.size + 1, 1, none⟩ = some (.int .i64 0) := hX.2.2.cell 1
    have xx2 : X.cell? ⟨W.heap.size + 1, 2, none⟩ = some (.int .i64 0) := hX.2.2.cell 2
    have xx3 : X.cell? ⟨W.heap.size + 1, 3, none⟩ = some (.slice s.A s.n s.c) := hX.2.2.cell 3
    refine bodyPost_ret (v := .agg #[.string ⟨#[110, 111, 116]⟩, .int .i64 0, .int .i64 0, .slice s.A s.n s.c]) (by simp [results, Tryz.results40, go_sem, xx0, xx1, xx2, xx3]) rfl ?_
    refine ⟨⟨⟨#[110, 111, 116]⟩, 0, 0, ks, s⟩, rfl, hX.1, ?_, ?_, hX.2.1⟩
    ·have := HSZ.out
     rw [core_size]; show 1 + Mk.sizeL (ks.map MkM.core) ≤ 1 + 3 * szG d; omega
    ·exact .mk _ _ _ _ _ HLE.out HCAP.out fun t ht => HFS.out.2 t ht
 ·clear x0 x1
  have hbx : Bk ((w1.alloc (.cells #[.string ⟨#[97, 110, 100]⟩, .string ⟨#[111, 114]⟩, .string ⟨#[110, 111, 116]⟩, .string ⟨#[97, 110, 100]⟩] 9)).alloc (.cells #[.string ⟨#[97, 110, 100]⟩, .int .i64 0, .int .i64 0, .slice none 0 0] 35)) (w1.heap.size + 1) 35 [.string ⟨#[97, 110, 100]⟩, .int .i64 0, .int .i64 0, .slice none 0 0] := by
   have := Bk.new (w1.alloc (.cells #[.string ⟨#[97, 110, 100]⟩, .string ⟨#[111, 114]⟩, .string ⟨#[110, 111, 116]⟩, .string ⟨#[97, 110, 100]⟩] 9)) 35 [.string ⟨#[97, 110, 100]⟩, .int .i64 0, .int .i64 0, .slice none 0 0]
   rw [World.size_alloc] at this
   exact this
  have HW2 : Hid (W.heap.size + 2 ≤ w1.heap.size) := Lib.hid (by have h1 := HR1.out.lt; omega)
  have HX2 := Lib.hid hbx
  have HK2 := Lib.hid ((HK1.out.alloc (.cells #[.string ⟨#[97, 110, 100]⟩, .string ⟨#[111, 114]⟩, .string ⟨#[110, 111, 116]⟩, .string ⟨#[97, 110, 100]⟩] 9)).alloc (.cells #[.string ⟨#[97, 110, 100]⟩, .int .i64 0, .int .i64 0, .slice none 0 0] 35))
  have HC2 := Lib.hid ((HC1.out.alloc (.cells #[.string ⟨#[97, 110, 100]⟩, .string ⟨#[111, 114]⟩, .string ⟨#[110, 111, 116]⟩, .string ⟨#[97, 110, 100]⟩] 9)).alloc (.cells #[.string ⟨#[97, 110, 100]⟩, .int .i64 0, .int .i64 0, .slice none 0 0] 35))
  have HR2 := Lib.hid ((HR1.out.alloc (.cells #[.string ⟨#[97, 110, 100]⟩, .string ⟨#[111, 114]⟩, .string ⟨#[110, 111, 116]⟩, .string ⟨#[97, 110, 100]⟩] 9)).alloc (.cells #[.string ⟨#[97, 110, 100]⟩, .int .i64 0, .int .i64 0, .slice none 0 0] 35))
  clear hbx
  have KY := Lib.hid (next_k 2 HK2.out.ok (by decide) (by decide))
  have x0 : ((w1.alloc (.cells #[.string ⟨#[97, 110, 100]⟩, .string ⟨#[111, 114]⟩, .string ⟨#[110, 111, 116]⟩, .string ⟨#[97, 110, 100]⟩] 9)).alloc (.cells #[.string ⟨#[97, 110, 100]⟩, .int .i64 0, .int .i64 0, .slice none 0 0] 35)).cell? ⟨w1.heap.size + 1, 0, none⟩ = some (.string ⟨#[97, 110, 100]⟩) := HX2.out.cell 0
  go_wp2_with fail
  (with_reducible refine KY.out.mono ?_)
  rintro e w3 ⟨y, rfl, y0, y1, hs⟩
  have HK3 := Lib.hid (HK2.out.trans hs)
  have HC3 := Lib.hid (hs.bk HC2.out (by have := HKg.out; omega))
  have HR3 := Lib.hid (hs.bk HR2.out (by have := HKg.out; omega))
  have HX3 := Lib.hid (hs.bk HX2.out (by have := HKg.out; have := HW2.out; omega))
  obtain ⟨n, hn⟩ : ∃ n : Nat, (n : Int) = 2 + y := ⟨(2 + y).toNat, by omega⟩
  have hn3 : n ≤ 3 := by omega
  have hwr : IntKind.i64.wrap (2 + y) = (n : Int) := by rw [hn]; simp [IntKind.wrap_i64]; omega
  have HN := Lib.hid hn
  clear hn
  obtain ⟨bx, hbx⟩ : ∃ q, w1.heap.size + 1 = q := ⟨_, rfl⟩
  have HBX : Hid (W.heap.size + 3 ≤ bx) := Lib.hid (by have := HW2.out; omega)
  rw [hbx] at HX3 x0
  clear KY hs x0 HK2 HC2 HR2 HX2 y0 y1
  have b0 : w3.cell? ⟨bx, 0, none⟩ = some (.string ⟨#[97, 110, 100]⟩) := HX3.out.cell 0
  go_wp2_with fail
  go_loopw [10] (fun i wr => ∃ (k : Nat) (ks : List MkM) (s : Sl), k ≤ n ∧ i = .int .i64 k ∧ MkAt bx wr 35 bx ⟨#[97, 110, 100]⟩ 0 0 ks s ∧ ks.length = k ∧ (Mk.sizeL (ks.map MkM.core) ≤ k * szG d ∧ ∀ t ∈ ks, t.Fan 3) ∧ KSt W wr g ∧ Bk wr W.heap.size 28 [.slice si.A si.n si.c, .slice sr.A sr.n sr.c, .slice st.A st.n st.c, .slice sx.A sx.n sx.c] ∧ Bk wr (W.heap.size + 1) 35 [.string ⟨#[]⟩, .int .i64 0, .int .i64 0, .slice none 0 0]) (fun i _ => n - (intOf i).toNat)
  case atStart => exact ⟨0, [], ⟨none, 0, 0⟩, Nat.zero_le _, rfl, MkAt.start HX3.out (Nat.le_refl _), rfl, ⟨by simp [Mk.sizeL], fun _ h => absurd h List.not_mem_nil⟩, HK3.out, HC3.out, HR3.out⟩
  case round =>
   obtain ⟨k, ks, s, hk, rfl, hma, hkl0, hfs, hks, hcb, hrb⟩ := hrel
   have HMA := Lib.hid hma
   have HKS := Lib.hid hks
   have HCb := Lib.hid hcb
   have HRb := Lib.hid hrb
   have HKL := Lib.hid hkl0
   have HFS := Lib.hid hfs
   have hsn : s.n ≤ 3 := by rw [hma.len, hkl0]; omega
   have HSN : Hid (s.n = k) := Lib.hid (by rw [hma.len, hkl0])
   by_cases hlt : k < n
   ·skip
    clear hma hkl0 hfs hks hcb hrb
    go_wp2
    refine wp_region_X (fun w' => Bk w' bx 35 [.string ⟨#[97, 110, 100]⟩, .int .i64 0, .int .i64 0, .slice s.A s.n s.c] ∧ Bk w' W.heap.size 28 [.slice si.A si.n si.c, .slice sr.A sr.n sr.c, .slice st.A st.n st.c, .slice sx.A sx.n sx.c]) 10 (n := 11) rfl (by kernel_rfl) (⟨HMA.out.bk.drew, HCb.out.drew⟩) (fun hS => ?_)
    refine X_take 0 (some 37) (v := ?_) (listed' := #[true, false, false, false, false, false, false, false, false, false, false]) rfl rfl rfl (by kernel_rfl) (fun _ _ _ h => h) ⟨rfl, ?_⟩ hS ?_
    rotate_left
    ·intro w' hS'
     (go_simp; try with_reducible rfl)
    simp only [Act.put, List.setIfInBounds_toArray, List.set_cons_zero, List.set_cons_succ]
    refine X_take 1 (some 38) (v := ?_) (listed' := #[true, true, false, false, false, false, false, false, false, false, false]) rfl rfl rfl (by kernel_rfl) (fun _ _ _ h => h) ⟨rfl, ?_⟩ hS ?_
    rotate_left
    ·intro w' hS'
     have e0 : w'.cell? ⟨bx, 0, none⟩ = some (.string ⟨#[97, 110, 100]⟩) := hS'.1.cell 0
     have e1 : w'.cell? ⟨bx, 1, none⟩ = some (.int .i64 0) := hS'.1.cell 1
     have e2 : w'.cell? ⟨bx, 2, none⟩ = some (.int .i64 0) := hS'.1.cell 2
     have e3 : w'.cell? ⟨bx, 3, none⟩ = some (.slice s.A s.n s.c) := hS'.1.cell 3
     have el := hS'.1.lt
     (go_simp; try with_reducible rfl)
    simp only [Act.put, List.setIfInBounds_toArray, List.set_cons_zero, List.set_cons_succ]
    refine X_take 2 (some 39) (v := ?_) (listed' := #[true, true, true, false, false, false, false, false, false, false, false]) rfl rfl rfl (by kernel_rfl) (fun _ _ _ h => h) ⟨rfl, ?_⟩ hS ?_
    rotate_left
    ·intro w' hS'
     (go_simp; try with_reducible rfl)
    simp only [Act.put, List.setIfInBounds_toArray, List.set_cons_zero, List.set_cons_succ]
    refine X_take 3 (some 40) (v := ?_) (listed' := #[true, true, true, true, false, false, false, false, false, false, false]) rfl rfl rfl (by kernel_rfl) (fun _ _ _ h => h) ⟨rfl, ?_⟩ hS ?_
    rotate_left
    ·intro w' hS'
     have e0 : w'.cell? ⟨W.heap.size, 0, none⟩ = some (.slice si.A si.n si.c) := hS'.2.cell 0
     have e1 : w'.cell? ⟨W.heap.size, 1, none⟩ = some (.slice sr.A sr.n sr.c) := hS'.2.cell 1
     have e2 : w'.cell? ⟨W.heap.size, 2, none⟩ = some (.slice st.A st.n st.c) := hS'.2.cell 2
     have e3 : w'.cell? ⟨W.heap.size, 3, none⟩ = some (.slice sx.A sx.n sx.c) := hS'.2.cell 3
     have el := hS'.2.lt
     (go_simp; try with_reducible rfl)
    simp only [Act.put, List.setIfInBounds_toArray, List.set_cons_zero, List.set_cons_succ]
    refine X_take 4 (some 41) (v := ?_) (listed' := #[true, true, true, true, true, false, false, false, false, false, false]) rfl rfl rfl (by kernel_rfl) (fun _ _ _ h => h) ⟨rfl, ?_⟩ hS ?_
    rotate_left
    ·intro w' hS'
     (go_simp; try with_reducible rfl)
    simp only [Act.put, List.setIfInBounds_toArray, List.set_cons_zero, List.set_cons_succ]
    refine X_take 5 (some 42) (v := ?_) (listed' := #[true, true, true, true, true, true, false, false, false, false, false]) rfl rfl rfl (by kernel_rfl) (fun _ _ _ h => h) ⟨rfl, ?_⟩ hS ?_
    rotate_left
    ·intro w' hS'
     (go_simp; try with_reducible rfl)
    simp only [Act.put, List.setIfInBounds_toArray, List.set_cons_zero, List.set_cons_succ]
    refine X_one 6 (listed' := #[true, true, true, true, true, true, true, false, false, false, false]) (by kernel_rfl) rfl rfl (fun K hK => ?_)
    go_simp
    have KM := Lib.hid (HI.out wr.drew HKS.out.drew.ok)
    (with_reducible refine KM.out.mono ?_)
    rintro e w5 ⟨M2, rfl, hok, hsz2, hfan, hs⟩
    have HK5 := Lib.hid (HKS.out.drew.trans hs)
    have HC5 := Lib.hid (hs.bk HCb.out.drew (by have := HKg.out; omega))
    have HR5 := Lib.hid (hs.bk HRb.out.drew (by have := HKg.out; omega))
    have HM5 := Lib.hid ((HMA.out.below ((Below.refl _ _).drew)).kst hs (by have := HKg.out; have := HBX.out; omega))
    have HOK5 := Lib.hid (HMA.out.fresh hok ⟨HMA.out.bk.lt, Nat.le_of_lt HMA.out.bk.lt, HMA.out.lt⟩)
    have HF := Lib.hid (And.intro hsz2 hfan)
    refine hK _ _ ⟨HM5.out.bk, HC5.out⟩ ?_
    clear hK KM hs hok hsz2 hfan HMA HKS HCb HRb
    refine X_one 7 (listed' := #[true, true, true, true, true, true, true, true, false, false, false]) (by kernel_rfl) rfl rfl (fun K hK => ?_)
    go_simp
    have yk : Below w5.heap.size w5 (w5.alloc (.cells #[.string M2.op, .int .i64 M2.a, .int .i64 M2.b, .slice M2.s.A M2.s.n M2.s.c] 35)) := (Below.refl _ _).alloc (Nat.le_refl _) _
    have HK6 := Lib.hid (HK5.out.below yk)
    have HC6 := Lib.hid (HC5.out.below yk HC5.out.lt)
    have HR6 := Lib.hid (HR5.out.below yk HR5.out.lt)
    have HM6 := Lib.hid (HM5.out.below yk)
    have HOK6 := Lib.hid (HOK5.out.bel yk)
    refine hK _ _ ⟨HM6.out.bk, HC6.out⟩ ?_
    clear hK yk HK5 HC5 HR5 HM5 HOK5
    refine X_one 8 (listed' := #[true, true, true, true, true, true, true, true, true, false, false]) (by kernel_rfl) rfl rfl (fun K hK => ?_)
    have hl1 := Lib.hid HM6.out.len
    have hbl := HM6.out.bk.lt
    refine step_append_lies _ rfl (.tmp 38) (.tmp 44) 33 rfl bx 35 i0 (.agg #[.string ⟨#[]⟩, .int .i64 0, .int .i64 0, .slice none 0 0]) 4 56 Tryz.underlying33 hi hz0 hz1 hz2 rfl (by decide) _ s.n (mcells ks) rfl (by have := HM6.out.own; rw [← hl1.out] at this; exact this) ⟨w5.heap.size, 0, none⟩ 1 1 [.string M2.op, .int .i64 M2.a, .int .i64 M2.b, .slice M2.s.A M2.s.n M2.s.c] rfl rfl (new4 _ _ _ _ _ _) (one4m M2) (by omega) (by unfold maxLen; omega) (by omega) (by omega) (w5.heap.size + 1) (by simp) ?_
    intro g' cap w8 hown8 hgr8 hat8 _
    have HK8 := Lib.hid (HK6.out.grow hgr8 (fun b hb => Nat.le_trans (by have := HBX.out; omega) (HM6.out.base b hb)))
    have HC8 := Lib.hid (HC6.out.grown hgr8 (HM6.out.far W.heap.size (by have := HBX.out; omega)))
    have HR8 := Lib.hid (HR6.out.grown hgr8 (HM6.out.far (W.heap.size + 1) (by have := HBX.out; omega)))
    have HQ8 := Lib.hid (HM6.out.app hgr8 hown8 (by rw [hl1.out]) HOK6.out (hat8.elim (fun e => .inl e.symm) (fun e => .inr (by rw [e]; simp [Value.ownBlock]))))
    refine hK _ _ ⟨HQ8.out.1, HC8.out⟩ ?_
    clear hK hown8 hgr8 hat8 HK6 HC6 HR6 HM6 HOK6
    have z3 : w8.cell? ⟨bx, 3, none⟩ = some (.slice s.A s.n s.c) := HQ8.out.1.cell 3
    have f3 := HQ8.out.1.frozen 3
    have zl := HQ8.out.1.lt
    refine X_one 9 (listed' := #[true, true, true, true, true, true, true, true, true, true, false]) (by kernel_rfl) rfl rfl (fun K hK => ?_)
    go_simp
    refine hK _ _ ⟨HQ8.out.1, HC8.out⟩ ?_
    clear hK
    refine X_tail (by kernel_rfl) ?_
    refine A_one 10 (listed' := #[true, true, true, true, true, true, true, true, true, true, true]) (by kernel_rfl) rfl rfl (fun K hK => ?_)
    go_simp
    refine hK _ _ ?_
    clear hK
    refine A_done (by kernel_rfl) ?_
    clear hS
    go_wp2
    go_roundw
    case rel => exact ⟨k + 1, ks ++ [M2], ⟨some ⟨g', 0, none⟩, s.n + 1, cap⟩, by omega, by go_num, HQ8.out.2, by simp [HKL.out], ⟨by rw [List.map_append, List.map_cons, List.map_nil, sizeL_app]; have h1 := HFS.out.1; have h2 := HF.out.1; rw [Nat.add_mul, Nat.one_mul]; omega, fun t ht => by rcases List.mem_append.1 ht with ht | ht; exact HFS.out.2 t ht; rw [List.mem_singleton.1 ht]; exact HF.out.2⟩, HK8.out.set bx 3 _ (by have := HBX.out; omega), HC8.out.setOther (by have := HBX.out; omega), HR8.out.setOther (by have := HBX.out; omega)⟩
    case measure => simp [intOf]; omega
   ·have hkn : k = n := by omega
    skip
    have HOK := Lib.hid (hma.ok (by rw [hkl0]; omega) (by decide) ⟨by decide, by decide⟩ ⟨by decide, by decide⟩)
    have z0 : wr.cell? ⟨bx, 0, none⟩ = some (.string ⟨#[97, 110, 100]⟩) := hma.bk.cell 0
    have z1 : wr.cell? ⟨bx, 1, none⟩ = some (.int .i64 0) := hma.bk.cell 1
    have z2 : wr.cell? ⟨bx, 2, none⟩ = some (.int .i64 0) := hma.bk.cell 2
    have z3 : wr.cell? ⟨bx, 3, none⟩ = some (.slice s.A s.n s.c) := hma.bk.cell 3
    have zl := hma.bk.lt
    have y0 : wr.cell? ⟨W.heap.size + 1, 0, none⟩ = some (.string ⟨#[]⟩) := hrb.cell 0
    have y1 : wr.cell? ⟨W.heap.size + 1, 1, none⟩ = some (.int .i64 0) := hrb.cell 1
    have y2 : wr.cell? ⟨W.heap.size + 1, 2, none⟩ = some (.int .i64 0) := hrb.cell 2
    have y3 : wr.cell? ⟨W.heap.size + 1, 3, none⟩ = some (.slice none 0 0) := hrb.cell 3
    have f0 := hrb.frozen 0
    have f1 := hrb.frozen 1
    have f2 := hrb.frozen 2
    have f3 := hrb.frozen 3
    have yl := hrb.lt
    have HSZ : Hid (Mk.sizeL (ks.map MkM.core) ≤ 3 * szG d) := Lib.hid (Nat.le_trans hfs.1 (Nat.mul_le_mul_right _ (by omega)))
    have HLE : Hid (ks.length ≤ 3) := Lib.hid (by rw [hkl0]; omega)
    have HCAP : Hid (SlC s) := Lib.hid hma.cap
    clear hkn hma hkl0 hfs hks hcb hrb
    go_wp2
    have hX := lay_kst (M := ⟨⟨#[97, 110, 100]⟩, 0, 0, ks, s⟩) (rb := W.heap.size + 1) (by omega) HRb.out (HOK.out.mono fun q _ hq => ⟨by have := HBX.out; omega, by have := HBX.out; omega⟩) HKS.out
    dsimp only at hX
    generalize (((wr.setCell ⟨W.heap.size + 1, 0, none⟩ (.string ⟨#[97, 110, 100]⟩)).setCell ⟨W.heap.size + 1, 1, none⟩ (.int .i64 0)).setCell ⟨W.heap.size + 1, 2, none⟩ (.int .i64 0)).setCell ⟨W.heap.size + 1, 3, none⟩ (.slice s.A s.n s.c) = X at *
    have xx0 : X.cell? ⟨W.heap.size + 1, 0, none⟩ = some (.string ⟨#[97, 110, 100]⟩) := hX.2.2.cell 0
    have xx1 : X.cell? ⟨W.heap.size + 1, 1, none⟩ = some (.int .i64 0) := hX.2.2.cell 1
    have xx2 : X.cell? ⟨W.heap.size + 1, 2, none⟩ = some (.int .i64 0) := hX.2.2.cell 2
    have xx3 : X.cell? ⟨W.heap.size + 1, 3, none⟩ = some (.slice s.A s.n s.c) := hX.2.2.cell 3
    refine bodyPost_ret (v := .agg #[.string ⟨#[97, 110, 100]⟩, .int .i64 0, .int .i64 0, .slice s.A s.n s.c]) (by simp [results, Tryz.results40, go_sem, xx0, xx1, xx2, xx3]) rfl ?_
    refine ⟨⟨⟨#[97, 110, 100]⟩, 0, 0, ks, s⟩, rfl, hX.1, ?_, ?_, hX.2.1⟩
    ·have := HSZ.out
     rw [core_size]; show 1 + Mk.sizeL (ks.map MkM.core) ≤ 1 + 3 * szG d; omega
    ·exact .mk _ _ _ _ _ HLE.out HCAP.out fun t ht => HFS.out.2 t ht
theorem mark_g {g : Nat} {si sr st sx : Sl} (hi1 : (1 : Int) ≤ si.n) (hr1 : (1 : Int) ≤ sr.n) (hi4 : (si.n : Int) ≤ 1000000) (hr4 : (sr.n : Int) ≤ 1000000) : ∀ d : Nat, d ≤ 1000 → ∀ W, KOk W g → Calls Tryz.prog 40 #[.pointer (some ⟨g, 0, none⟩), .agg #[.slice si.A si.n si.c, .slice sr.A sr.n sr.c, .slice st.A st.n st.c, .slice sx.A sx.n sx.c], .int .i64 (d : Int)] W (MarkG W g d) := by
 intro d
 induction d with
 | zero => intro _ W h; exact mark_zero hi1 hr1 hi4 hr4 h
 | succ d ih => intro hd W h; exact mark_succ hi1 hr1 hi4 hr4 (by omega) h (ih (by omega))
end Go.Proofs.YtocodlpgaamblaaGreatDoor
