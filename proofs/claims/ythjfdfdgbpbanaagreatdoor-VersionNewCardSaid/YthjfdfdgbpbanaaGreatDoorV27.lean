/- The generator of changed catalogs: Bent. -/
import Derived.Test.YthjfdfdgbpbanaaGreatDoorV12
import Derived.Test.YthjfdfdgbpbanaaGreatDoorV26
set_option linter.unusedVariables false
set_option linter.unusedSimpArgs false
open Go.RowKit
namespace Go.Proofs.YthjfdfdgbpbanaaGreatDoor
theorem code_parts2 {m : CatM} (h : codeC m = 0) : limC m = true ∧ fitB m = true ∧ diffC m = true ∧ wfC m = true ∧ rgC m = true := by
 unfold codeC codeOf at h
 cases h1 : limC m
 ·rw [h1] at h; simp at h
 cases h2 : fitB m
 ·rw [h1, h2] at h; simp at h
 cases h3 : diffC m
 ·rw [h1, h2, h3] at h; simp at h
 cases h4 : wfC m
 ·rw [h1, h2, h3, h4] at h; simp at h
 cases h5 : rgC m
 ·rw [h1, h2, h3, h4, h5] at h; simp at h
 exact ⟨rfl, rfl, rfl, rfl, rfl⟩
set_option maxRecDepth 100000 in
set_option maxHeartbeats 8000000 in
theorem Bent_g {w : World} {m : CatM} {A : Option Addr} {n : Nat} (c : Nat) {zs : List Int} (hm : m.Ok w) (hs : CatSm m) (h : IntsV w A n zs) (hfar : ∀ b off, A = some ⟨b, off, none⟩ → b < w.heap.size) : Calls Tryz.prog 36 #[m.val, .slice A n c] w (BentG w) := by
 obtain ⟨i89, hi89, x0, x1, x2⟩ := info_parts info89g
 obtain ⟨i103, hi103, u0, u1, u2⟩ := info_parts info103
 obtain ⟨i109, hi109, v0, v1, v2⟩ := info_parts info109
 obtain ⟨i107, hi107, p0, p1, p2⟩ := info_parts info107
 obtain ⟨i115, hi115, q0, q1, q2⟩ := info_parts info115
 obtain ⟨i129, hi129, r0, r1, r2⟩ := info_parts info129
 obtain ⟨items, rules, tables, taxes, ⟨Ai0, ni, ci0⟩, ⟨Ar0, nr, cr0⟩, ⟨At0, nt, ct0⟩, ⟨Ax0, nx, cx0⟩⟩ := m
 have li : items.length = ni := hm.items.len.symm
 have lr : rules.length = nr := hm.rules.len.symm
 have lt : tables.length = nt := hm.tables.len.symm
 have lx : taxes.length = nx := hm.taxes.len.symm
 have bi : 2 ≤ ni ∧ ni ≤ 7 := by have := hs.items; dsimp only at this; omega
 have br : 1 ≤ nr ∧ nr ≤ 6 := by have := hs.rules; dsimp only at this; omega
 have bt : nt ≤ 2 := by have := hs.tables; dsimp only at this; omega
 have bx : nx ≤ 2 := by have := hs.taxes; dsimp only at this; omega
 have hb0 : Below w.heap.size w (((w.alloc (.cells #[.slice Ai0 ni ci0, .slice Ar0 nr cr0, .slice At0 nt ct0, .slice Ax0 nx cx0] 28)).alloc (.cells #[.slice none 0 0, .slice none 0 0, .slice none 0 0, .slice none 0 0] 28)).alloc (.cells #[.slice A n c, .int .i64 0] 122)) := (((Below.refl _ _).alloc (Nat.le_refl _) _).alloc (by simp) _).alloc (by simp; omega) _
 have kg := Bk.new ((w.alloc (.cells #[.slice Ai0 ni ci0, .slice Ar0 nr cr0, .slice At0 nt ct0, .slice Ax0 nx cx0] 28)).alloc (.cells #[.slice none 0 0, .slice none 0 0, .slice none 0 0, .slice none 0 0] 28)) 122 [.slice A n c, .int .i64 0]
 rw [World.size_alloc, World.size_alloc] at kg
 have kr := Bk.new (w.alloc (.cells #[.slice Ai0 ni ci0, .slice Ar0 nr cr0, .slice At0 nt ct0, .slice Ax0 nx cx0] 28)) 28 nil4
 rw [World.size_alloc] at kr
 have hG : GOk (((w.alloc (.cells #[.slice Ai0 ni ci0, .slice Ar0 nr cr0, .slice At0 nt ct0, .slice Ax0 nx cx0] 28)).alloc (.cells #[.slice none 0 0, .slice none 0 0, .slice none 0 0, .slice none 0 0] 28)).alloc (.cells #[.slice A n c, .int .i64 0] 122)) (w.heap.size + 1 + 1) := ⟨A, n, c, zs, 0, kg, h.below hb0, fun b off e => by have := hfar b off e; omega, by unfold In64; omega⟩
 have HC0 := Lib.hid (CtO.start (q := 4) hG (kr.alloc _) (by omega))
 have HG := Lib.hid hG
 have KC : Hid (Bk (((w.alloc (.cells #[.slice Ai0 ni ci0, .slice Ar0 nr cr0, .slice At0 nt ct0, .slice Ax0 nx cx0] 28)).alloc (.cells #[.slice none 0 0, .slice none 0 0, .slice none 0 0, .slice none 0 0] 28)).alloc (.cells #[.slice A n c, .int .i64 0] 122)) w.heap.size 28 (catSL ⟨Ai0, ni, ci0⟩ ⟨Ar0, nr, cr0⟩ ⟨At0, nt, ct0⟩ ⟨Ax0, nx, cx0⟩)) := ((Bk.new w 28 (catSL ⟨Ai0, ni, ci0⟩ ⟨Ar0, nr, cr0⟩ ⟨At0, nt, ct0⟩ ⟨Ax0, nx, cx0⟩)).alloc _).alloc _
 have HM0 := Lib.hid (hm.below hb0)
 have HB0 := Lib.hid hb0
 have hVs : (((w.alloc (.cells #[.slice Ai0 ni ci0, .slice Ar0 nr cr0, .slice At0 nt ct0, .slice Ax0 nx cx0] 28)).alloc (.cells #[.slice none 0 0, .slice none 0 0, .slice none 0 0, .slice none 0 0] 28)).alloc (.cells #[.slice A n c, .int .i64 0] 122)).heap.size = w.heap.size + 3 := by simp
 have HS := Lib.hid hs
 have Li := Lib.hid li
 have Lr := Lib.hid lr
 have Lt := Lib.hid lt
 have Lx := Lib.hid lx
 clear h hfar hb0 kg kr hG hm hs
 go_enter Tryz.func36, Tryz.ntmps36
 go_upto_region 3 with fail
 generalize hV : (((w.alloc (.cells #[.slice Ai0 ni ci0, .slice Ar0 nr cr0, .slice At0 nt ct0, .slice Ax0 nx cx0] 28)).alloc (.cells #[.slice none 0 0, .slice none 0 0, .slice none 0 0, .slice none 0 0] 28)).alloc (.cells #[.slice A n c, .int .i64 0] 122)) = V at HC0 HG KC HM0 HB0 hVs ⊢
 rw [hVs] at HC0
 generalize hW0 : V.alloc (.cells #[.slice none 0 0, .slice none 0 0, .slice none 0 0, .slice none 0 0] 28) = W0 at HC0 ⊢
 clear hV hW0 li lr lt lx
 have HM := Lib.hid (HM0.out.keeps fun t h1 _ => HC0.out.ct.st.keep HG.out t h1)
 have kc : Hid (Bk W0 w.heap.size 28 (catSL ⟨Ai0, ni, ci0⟩ ⟨Ar0, nr, cr0⟩ ⟨At0, nt, ct0⟩ ⟨Ax0, nx, cx0⟩)) := HC0.out.ct.st.bk KC.out (by omega)
 have zc : W0.cell? ⟨w.heap.size, 0, none⟩ = some (.slice Ai0 ni ci0) := kc.out.cell 0
 have zo : W0.cell? ⟨w.heap.size + 3, 0, none⟩ = some (.slice none 0 0) := HC0.out.ct.bx.cell 0
 have lc := kc.out.lt
 have lo := HC0.out.ct.bx.lt
 have Hl : Hid ((icells items).length = ni * 7) := by show _ = _; rw [icells, flat_len It.cells_len, Li.out]
 go_wp2_with (at_builtin; refine wpList_clone rfl (.tmp 17) (.tmp 19) 23 rfl (w.heap.size + 3) 89 i89 (.agg #[.string ⟨#[]⟩, .bool false, .bool false, .bool false, .int .i64 0, .int .i64 0, .int .i64 0]) 7 48 Tryz.underlying23 hi89 x0 x1 x2 rfl (by decide) rfl Ai0 ni ci0 (icells items) rfl Hl.out HM.out.items.row.row (icells_one' items) (by unfold maxLen; omega) (by omega) (by omega) ?_)
 intro v' w1 hown hb
 obtain ⟨Ai, ci, hv', _⟩ := row_of_owns hown
 subst hv'
 rw [← hVs] at hown
 obtain ⟨B1, C1, _⟩ := HC0.out.fillI hb hown Li.out.symm (by omega) (HM.out.items.each)
 have z1 : w1.cell? ⟨w.heap.size + 3, 0, none⟩ = some (.slice none 0 0) := B1.cell 0
 have f1 := B1.frozen 0
 have l1 := B1.lt
 have HC1 := Lib.hid C1
 clear hown hb B1 C1 HM kc zc zo lc lo Hl HC0
 go_upto_region 4 with fail
 generalize w1.setCell ⟨w.heap.size + 3, 0, none⟩ (.slice Ai ni ci) = W1 at HC1 ⊢
 clear z1 f1 l1
 have HM := Lib.hid (HM0.out.keeps fun t h1 _ => HC1.out.ct.st.keep HG.out t h1)
 have kc : Hid (Bk W1 w.heap.size 28 (catSL ⟨Ai0, ni, ci0⟩ ⟨Ar0, nr, cr0⟩ ⟨At0, nt, ct0⟩ ⟨Ax0, nx, cx0⟩)) := HC1.out.ct.st.bk KC.out (by omega)
 have zc : W1.cell? ⟨w.heap.size, 1, none⟩ = some (.slice Ar0 nr cr0) := kc.out.cell 1
 have zo : W1.cell? ⟨w.heap.size + 3, 1, none⟩ = some (.slice none 0 0) := HC1.out.ct.bx.cell 1
 have lc := kc.out.lt
 have lo := HC1.out.ct.bx.lt
 have Hl : Hid ((rucells rules).length = nr * 9) := by show _ = _; rw [rucells, flat_len RuM.len, Lr.out]
 go_wp2_with (at_builtin; refine wpList_clone rfl (.tmp 23) (.tmp 25) 24 rfl (w.heap.size + 3) 103 i103 (.agg #[.string ⟨#[]⟩, .bool false, .int .i64 0, .int .i64 0, .int .i64 0, .int .i64 0, .slice none 0 0, .slice none 0 0, .slice none 0 0]) 9 128 Tryz.underlying24 hi103 u0 u1 u2 rfl (by decide) rfl Ar0 nr cr0 (rucells rules) rfl Hl.out HM.out.rules.row.row (rucells_one rules) (by unfold maxLen; omega) (by omega) (by omega) ?_)
 intro v' w1 hown hb
 obtain ⟨Ar, cr, hv', _⟩ := row_of_owns hown
 subst hv'
 rw [← hVs] at hown
 obtain ⟨B1, C1, _⟩ := HC1.out.fillR hb hown Lr.out.symm (by omega) ((HM.out.below hb).rules.each) (fun t h1 => ⟨Nat.le_succ_of_le (HS.out.short t h1).1, Nat.le_succ_of_le (HS.out.short t h1).2.1, Nat.le_succ_of_le (HS.out.short t h1).2.2⟩)
 have z1 : w1.cell? ⟨w.heap.size + 3, 1, none⟩ = some (.slice none 0 0) := B1.cell 1
 have f1 := B1.frozen 1
 have l1 := B1.lt
 have HC2 := Lib.hid C1
 clear hown hb B1 C1 HM kc zc zo lc lo Hl HC1
 go_upto_region 5 with fail
 generalize w1.setCell ⟨w.heap.size + 3, 1, none⟩ (.slice Ar nr cr) = W2 at HC2 ⊢
 clear z1 f1 l1
 have HM := Lib.hid (HM0.out.keeps fun t h1 _ => HC2.out.ct.st.keep HG.out t h1)
 have kc : Hid (Bk W2 w.heap.size 28 (catSL ⟨Ai0, ni, ci0⟩ ⟨Ar0, nr, cr0⟩ ⟨At0, nt, ct0⟩ ⟨Ax0, nx, cx0⟩)) := HC2.out.ct.st.bk KC.out (by omega)
 have zc : W2.cell? ⟨w.heap.size, 2, none⟩ = some (.slice At0 nt ct0) := kc.out.cell 2
 have zo : W2.cell? ⟨w.heap.size + 3, 2, none⟩ = some (.slice none 0 0) := HC2.out.ct.bx.cell 2
 have lc := kc.out.lt
 have lo := HC2.out.ct.bx.lt
 have Hl : Hid ((tbcells tables).length = nt * 2) := by show _ = _; rw [tbcells, flat_len TbM.len, Lt.out]
 go_wp2_with (at_builtin; refine wpList_clone rfl (.tmp 29) (.tmp 31) 25 rfl (w.heap.size + 3) 107 i107 (.agg #[.string ⟨#[]⟩, .slice none 0 0]) 2 40 Tryz.underlying25 hi107 p0 p1 p2 rfl (by decide) rfl At0 nt ct0 (tbcells tables) rfl Hl.out HM.out.tables.row.row (tbcells_one tables) (by unfold maxLen; omega) (by omega) (by omega) ?_)
 intro v' w1 hown hb
 obtain ⟨At, ct, hv', _⟩ := row_of_owns hown
 subst hv'
 rw [← hVs] at hown
 obtain ⟨B1, C1, _⟩ := HC2.out.fillT hb hown Lt.out.symm (by omega) ((HM.out.below hb).tables.each) (fun t h1 r h2 => Nat.le_succ_of_le (HS.out.rows t h1 r h2))
 have z1 : w1.cell? ⟨w.heap.size + 3, 2, none⟩ = some (.slice none 0 0) := B1.cell 2
 have f1 := B1.frozen 2
 have l1 := B1.lt
 have HC3 := Lib.hid C1
 clear hown hb B1 C1 HM kc zc zo lc lo Hl HC2
 go_upto_region 6 with fail
 generalize w1.setCell ⟨w.heap.size + 3, 2, none⟩ (.slice At nt ct) = W3 at HC3 ⊢
 clear z1 f1 l1
 have HM := Lib.hid (HM0.out.keeps fun t h1 _ => HC3.out.ct.st.keep HG.out t h1)
 have kc : Hid (Bk W3 w.heap.size 28 (catSL ⟨Ai0, ni, ci0⟩ ⟨Ar0, nr, cr0⟩ ⟨At0, nt, ct0⟩ ⟨Ax0, nx, cx0⟩)) := HC3.out.ct.st.bk KC.out (by omega)
 have zc : W3.cell? ⟨w.heap.size, 3, none⟩ = some (.slice Ax0 nx cx0) := kc.out.cell 3
 have zo : W3.cell? ⟨w.heap.size + 3, 3, none⟩ = some (.slice none 0 0) := HC3.out.ct.bx.cell 3
 have lc := kc.out.lt
 have lo := HC3.out.ct.bx.lt
 have Hl : Hid ((txcells taxes).length = nx * 2) := by show _ = _; rw [txcells, flat_len TxM.len, Lx.out]
 go_wp2_with (at_builtin; refine wpList_clone rfl (.tmp 35) (.tmp 37) 26 rfl (w.heap.size + 3) 115 i115 (.agg #[.string ⟨#[]⟩, .slice none 0 0]) 2 40 Tryz.underlying26 hi115 q0 q1 q2 rfl (by decide) rfl Ax0 nx cx0 (txcells taxes) rfl Hl.out HM.out.taxes.row.row (txcells_one taxes) (by unfold maxLen; omega) (by omega) (by omega) ?_)
 intro v' w1 hown hb
 obtain ⟨Ax, cx, hv', _⟩ := row_of_owns hown
 subst hv'
 rw [← hVs] at hown
 obtain ⟨B1, C1, _⟩ := HC3.out.fillX hb hown Lx.out.symm (by omega) ((HM.out.below hb).taxes.each)
 have z1 : w1.cell? ⟨w.heap.size + 3, 3, none⟩ = some (.slice none 0 0) := B1.cell 3
 have f1 := B1.frozen 3
 have l1 := B1.lt
 have HC4 := Lib.hid C1
 clear hown hb B1 C1 HM kc zc zo lc lo Hl HC3
 go_upto_region 7 with fail
 generalize w1.setCell ⟨w.heap.size + 3, 3, none⟩ (.slice Ax nx cx) = W4 at HC4 ⊢
 clear z1 f1 l1
 have HC : Hid (CtO V W4 (w.heap.size + 1 + 1) (w.heap.size + 1) (w.heap.size + 3) 4 ⟨items, rules, tables, taxes, ⟨Ai, ni, ci⟩, ⟨Ar, nr, cr⟩, ⟨At, nt, ct⟩, ⟨Ax, nx, cx⟩⟩) := HC4.out
 clear HC4 KC HM0 HG
 go_wp2_with fail
 (with_reducible refine (next_g 6 HC.out.ct.st.ok (by omega) (by omega)).mono ?_)
 rintro e w5 ⟨k, rfl, k0, k1, hs⟩
 have HC5 := Lib.hid (HC.out.next hs)
 clear hs HC
 obtain ⟨W5, hW⟩ : ∃ W5, w5 = W5 := ⟨_, rfl⟩
 rw [hW] at HC5 ⊢
 clear hW
 have lb := HC5.out.ct.bx.lt
 have lres := HC5.out.ct.res.lt
 have b0 : W5.cell? ⟨w.heap.size + 3, 0, none⟩ = some (.slice Ai ni ci) := HC5.out.ct.bx.cell 0
 have b1 : W5.cell? ⟨w.heap.size + 3, 1, none⟩ = some (.slice Ar nr cr) := HC5.out.ct.bx.cell 1
 have b2 : W5.cell? ⟨w.heap.size + 3, 2, none⟩ = some (.slice At nt ct) := HC5.out.ct.bx.cell 2
 have b3 : W5.cell? ⟨w.heap.size + 3, 3, none⟩ = some (.slice Ax nx cx) := HC5.out.ct.bx.cell 3
 have nn0 : (0 : Int) < (ni : Int) := by omega
 have nn1 : (0 : Int) < (nr : Int) := by omega
 rcases (show k = 0 ∨ k = 1 ∨ k = 2 ∨ k = 3 ∨ k = 4 ∨ k = 5 by omega) with rfl | rfl | rfl | rfl | rfl | rfl
 ·have ho := HC5.out.oi
  dsimp only at ho
  rw [Li.out] at ho
  obtain ⟨ge, ce, hge, _, hgl⟩ := ho.form (by omega)
  cases hge
  clear ho
  go_wp2_with fail
  (with_reducible refine (next_g (ni : Int) HC5.out.ct.st.ok (by omega) (by omega)).mono ?_)
  rintro e w6 ⟨j0, rfl, j00, j01, hs⟩
  obtain ⟨j, rfl⟩ := Int.eq_ofNat_of_zero_le j00
  have HC6 := Lib.hid ((HC5.out.next hs).below (Below.refl _ _).drew)
  have hl6 := (HC5.out.next hs).ct.bx.lt
  clear b0 b1 b2 b3 lb lres
  clear hs HC5
  have hjl : j < items.length := by rw [Li.out]; omega
  obtain ⟨t, hte⟩ : ∃ t, items[j] = t := ⟨_, rfl⟩
  have Hte := Lib.hid hte
  have hnm : t.name.size ≤ 8192 := by rw [← hte]; exact HC6.out.ct.ok.items.each _ (List.getElem_mem hjl)
  have KI : Hid (Calls Tryz.prog 82 #[.agg #[.string t.name, .bool t.object, .bool t.mixed, .bool t.coin, .int .i64 t.wear, .int .i64 t.bnd, .int .i64 t.level], .pointer (some ⟨w.heap.size + 1 + 1, 0, none⟩)] w6.drew (ItB w6.drew (w.heap.size + 1 + 1))) := itemBent_g t HC6.out.ct.st.ok hnm
  have HO6 : Hid (w6.drew.ownsRow V.heap.size 89 7 (.slice (some ⟨ge, 0, none⟩) ni ci) ni (icells items)) := by have ho := HC6.out.oi; dsimp only at ho; rw [Li.out] at ho; exact ho
  have jj0 : (0 : Int) ≤ (j : Int) := by omega
  clear hte
  go_wp2_with fail
  refine wp_region_X (fun w' => Bk w' (w.heap.size + 3) 28 (catSL ⟨some ⟨ge, 0, none⟩, ni, ci⟩ ⟨Ar, nr, cr⟩ ⟨At, nt, ct⟩ ⟨Ax, nx, cx⟩) ∧ w'.ownsRow V.heap.size 89 7 (.slice (some ⟨ge, 0, none⟩) ni ci) ni (icells items)) 11 (n := 12) rfl (by kernel_rfl) (⟨HC6.out.ct.bx, HO6.out⟩) (fun hS => ?_)
  refine X_take 0 (some 55) (v := ?_) (listed' := #[true, false, false, false, false, false, false, false, false, false, false, false]) rfl rfl rfl (by kernel_rfl) (fun _ _ _ h => h) ⟨rfl, ?_⟩ hS ?_
  rotate_left
  ·intro w' hS'
   (go_simp; try with_reducible rfl)
  simp only [Act.put, List.setIfInBounds_toArray, List.set_cons_zero, List.set_cons_succ]
  refine X_take 1 (some 56) (v := ?_) (listed' := #[true, true, false, false, false, false, false, false, false, false, false, false]) rfl rfl rfl (by kernel_rfl) (fun _ _ _ h => h) ⟨rfl, ?_⟩ hS ?_
  rotate_left
  ·intro w' hS'
   have e : w'.cell? ⟨w.heap.size + 3, 0, none⟩ = some (.slice (some ⟨ge, 0, none⟩) ni ci) := hS'.1.cell 0
   (go_simp; try with_reducible rfl)
  simp only [Act.put, List.setIfInBounds_toArray, List.set_cons_zero, List.set_cons_succ]
  refine X_take 2 (some 57) (v := ?_) (listed' := #[true, true, true, false, false, false, false, false, false, false, false, false]) rfl rfl rfl (by kernel_rfl) (fun _ _ _ h => h) ⟨rfl, ?_⟩ hS ?_
  rotate_left
  ·intro w' hS'
   (go_simp; try with_reducible rfl)
  simp only [Act.put, List.setIfInBounds_toArray, List.set_cons_zero, List.set_cons_succ]
  refine X_take 3 (some 58) (v := ?_) (listed' := #[true, true, true, true, false, false, false, false, false, false, false, false]) rfl rfl rfl (by kernel_rfl) (fun _ _ _ h => h) ⟨rfl, ?_⟩ hS ?_
  rotate_left
  ·intro w' hS'
   (go_simp; try with_reducible rfl)
  simp only [Act.put, List.setIfInBounds_toArray, List.set_cons_zero, List.set_cons_succ]
  refine X_take 4 (some 59) (v := ?_) (listed' := #[true, true, true, true, true, false, false, false, false, false, false, false]) rfl rfl rfl (by kernel_rfl) (fun _ _ _ h => h) ⟨rfl, ?_⟩ hS ?_
  rotate_left
  ·intro w' hS'
   have e : w'.cell? ⟨w.heap.size + 3, 0, none⟩ = some (.slice (some ⟨ge, 0, none⟩) ni ci) := hS'.1.cell 0
   (go_simp; try with_reducible rfl)
  simp only [Act.put, List.setIfInBounds_toArray, List.set_cons_zero, List.set_cons_succ]
  refine X_take 5 (some 60) (v := ?_) (listed' := #[true, true, true, true, true, true, false, false, false, false, false, false]) rfl rfl rfl (by kernel_rfl) (fun _ _ _ h => h) ⟨rfl, ?_⟩ hS ?_
  rotate_left
  ·intro w' hS'
   (go_simp; try with_reducible rfl)
  simp only [Act.put, List.setIfInBounds_toArray, List.set_cons_zero, List.set_cons_succ]
  refine X_take 6 (some 61) (v := ?_) (listed' := #[true, true, true, true, true, true, true, false, false, false, false, false]) rfl rfl rfl (by kernel_rfl) (fun _ _ _ h => h) ⟨rfl, ?_⟩ hS ?_
  rotate_left
  ·intro w' hS'
   (go_simp; try with_reducible rfl)
  simp only [Act.put, List.setIfInBounds_toArray, List.set_cons_zero, List.set_cons_succ]
  refine X_take 7 (some 62) (v := ?_) (listed' := #[true, true, true, true, true, true, true, true, false, false, false, false]) rfl rfl rfl (by kernel_rfl) (fun _ _ _ h => h) ⟨rfl, ?_⟩ hS ?_
  rotate_left
  ·intro w' hS'
   have e0 : w'.cell? ⟨ge, j * 7, none⟩ = some (.string t.name) := own_at0 It.cells_len hS'.2 hjl Hte.out (by omega) rfl
   have e1 : w'.cell? ⟨ge, j * 7 + 1, none⟩ = some (.bool t.object) := own_at It.cells_len hS'.2 hjl Hte.out 1 (by omega) rfl
   have e2 : w'.cell? ⟨ge, j * 7 + 2, none⟩ = some (.bool t.mixed) := own_at It.cells_len hS'.2 hjl Hte.out 2 (by omega) rfl
   have e3 : w'.cell? ⟨ge, j * 7 + 3, none⟩ = some (.bool t.coin) := own_at It.cells_len hS'.2 hjl Hte.out 3 (by omega) rfl
   have e4 : w'.cell? ⟨ge, j * 7 + 4, none⟩ = some (.int .i64 t.wear) := own_at It.cells_len hS'.2 hjl Hte.out 4 (by omega) rfl
   have e5 : w'.cell? ⟨ge, j * 7 + 5, none⟩ = some (.int .i64 t.bnd) := own_at It.cells_len hS'.2 hjl Hte.out 5 (by omega) rfl
   have e6 : w'.cell? ⟨ge, j * 7 + 6, none⟩ = some (.int .i64 t.level) := own_at It.cells_len hS'.2 hjl Hte.out 6 (by omega) rfl
   have el := (hS'.2.lt ge rfl).2
   (go_simp; try with_reducible rfl)
  simp only [Act.put, List.setIfInBounds_toArray, List.set_cons_zero, List.set_cons_succ]
  refine X_take 8 (some 63) (v := ?_) (listed' := #[true, true, true, true, true, true, true, true, true, false, false, false]) rfl rfl rfl (by kernel_rfl) (fun _ _ _ h => h) ⟨rfl, ?_⟩ hS ?_
  rotate_left
  ·intro w' hS'
   (go_simp; try with_reducible rfl)
  simp only [Act.put, List.setIfInBounds_toArray, List.set_cons_zero, List.set_cons_succ]
  refine X_one 9 (listed' := #[true, true, true, true, true, true, true, true, true, true, false, false]) (by kernel_rfl) rfl rfl (fun K hK => ?_)
  go_simp
  (with_reducible refine KI.out.mono ?_)
  rintro e w7 ⟨t2, rfl, hn2, hs⟩
  have Hn2 := Lib.hid hn2
  have HC7 := Lib.hid (HC6.out.next hs)
  have HO7 : Hid (w7.ownsRow V.heap.size 89 7 (.slice (some ⟨ge, 0, none⟩) ni ci) ni (icells items)) := by have ho := HC7.out.oi; dsimp only at ho; rw [Li.out] at ho; exact ho
  refine hK _ _ ⟨HC7.out.ct.bx, HO7.out⟩ ?_
  clear hs hK hn2
  refine X_one 10 (listed' := #[true, true, true, true, true, true, true, true, true, true, true, false]) (by kernel_rfl) rfl rfl (fun K hK => ?_)
  go_simp
  refine hK _ _ ⟨HC7.out.ct.bx, HO7.out⟩ ?_
  clear hK
  refine X_tail (by kernel_rfl) ?_
  refine A_one 11 (listed' := #[true, true, true, true, true, true, true, true, true, true, true, true]) (by kernel_rfl) rfl rfl (fun K hK => ?_)
  have hgr : w7.grownBy (((((((w7.setCell ⟨ge, j * 7, none⟩ (.string t2.name)).setCell ⟨ge, j * 7 + 1, none⟩ (.bool t2.object)).setCell ⟨ge, j * 7 + 2, none⟩ (.bool t2.mixed)).setCell ⟨ge, j * 7 + 3, none⟩ (.bool t2.coin)).setCell ⟨ge, j * 7 + 4, none⟩ (.int .i64 t2.wear)).setCell ⟨ge, j * 7 + 5, none⟩ (.int .i64 t2.bnd)).setCell ⟨ge, j * 7 + 6, none⟩ (.int .i64 t2.level)) (some ge) := grown2 (grown2 (grown2 (grown2 (grown2 (grown2 (grown_setCell w7 ge (j * 7) (.string t2.name)) (grown_setCell _ ge (j * 7 + 1) (.bool t2.object))) (grown_setCell _ ge (j * 7 + 2) (.bool t2.mixed))) (grown_setCell _ ge (j * 7 + 3) (.bool t2.coin))) (grown_setCell _ ge (j * 7 + 4) (.int .i64 t2.wear))) (grown_setCell _ ge (j * 7 + 5) (.int .i64 t2.bnd))) (grown_setCell _ ge (j * 7 + 6) (.int .i64 t2.level))
  have hst : (((((((w7.setCell ⟨ge, j * 7, none⟩ (.string t2.name)).setCell ⟨ge, j * 7 + 1, none⟩ (.bool t2.object)).setCell ⟨ge, j * 7 + 2, none⟩ (.bool t2.mixed)).setCell ⟨ge, j * 7 + 3, none⟩ (.bool t2.coin)).setCell ⟨ge, j * 7 + 4, none⟩ (.int .i64 t2.wear)).setCell ⟨ge, j * 7 + 5, none⟩ (.int .i64 t2.bnd)).setCell ⟨ge, j * 7 + 6, none⟩ (.int .i64 t2.level)).ownsRow V.heap.size 89 7 (.slice (some ⟨ge, 0, none⟩) ni ci) ni (icells (items.set j t2)) := by rw [icells_set items j t2 hjl]; exact (((((((HO7.out.stored (j * 7) (.string t2.name)).1.stored (j * 7 + 1) (.bool t2.object)).1.stored (j * 7 + 2) (.bool t2.mixed)).1.stored (j * 7 + 3) (.bool t2.coin)).1.stored (j * 7 + 4) (.int .i64 t2.wear)).1.stored (j * 7 + 5) (.int .i64 t2.bnd)).1.stored (j * 7 + 6) (.int .i64 t2.level)).1
  have HP : Hid (CtO V (((((((w7.setCell ⟨ge, j * 7, none⟩ (.string t2.name)).setCell ⟨ge, j * 7 + 1, none⟩ (.bool t2.object)).setCell ⟨ge, j * 7 + 2, none⟩ (.bool t2.mixed)).setCell ⟨ge, j * 7 + 3, none⟩ (.bool t2.coin)).setCell ⟨ge, j * 7 + 4, none⟩ (.int .i64 t2.wear)).setCell ⟨ge, j * 7 + 5, none⟩ (.int .i64 t2.bnd)).setCell ⟨ge, j * 7 + 6, none⟩ (.int .i64 t2.level)) (w.heap.size + 1 + 1) (w.heap.size + 1) (w.heap.size + 3) 4 ⟨items.set j t2, rules, tables, taxes, ⟨some ⟨ge, 0, none⟩, ni, ci⟩, ⟨Ar, nr, cr⟩, ⟨At, nt, ct⟩, ⟨Ax, nx, cx⟩⟩) := HC7.out.inI (l := items.set j t2) hgr (by dsimp only; rw [Li.out]; exact hst) (by simp) (fun y hy => by
   rcases List.mem_or_eq_of_mem_set hy with h1 | h1
   ·exact HC7.out.ct.ok.items.each y h1
   ·rw [h1]; exact Hn2.out)
  clear hgr hst
  have e0 : w7.cell? ⟨ge, j * 7, none⟩ = some (.string t.name) := own_at0 It.cells_len HO7.out hjl Hte.out (by omega) rfl
  have g0 := HO7.out.frozenAt (j * 7)
  have e1 : w7.cell? ⟨ge, j * 7 + 1, none⟩ = some (.bool t.object) := own_at It.cells_len HO7.out hjl Hte.out 1 (by omega) rfl
  have g1 := HO7.out.frozenAt (j * 7 + 1)
  have e2 : w7.cell? ⟨ge, j * 7 + 2, none⟩ = some (.bool t.mixed) := own_at It.cells_len HO7.out hjl Hte.out 2 (by omega) rfl
  have g2 := HO7.out.frozenAt (j * 7 + 2)
  have e3 : w7.cell? ⟨ge, j * 7 + 3, none⟩ = some (.bool t.coin) := own_at It.cells_len HO7.out hjl Hte.out 3 (by omega) rfl
  have g3 := HO7.out.frozenAt (j * 7 + 3)
  have e4 : w7.cell? ⟨ge, j * 7 + 4, none⟩ = some (.int .i64 t.wear) := own_at It.cells_len HO7.out hjl Hte.out 4 (by omega) rfl
  have g4 := HO7.out.frozenAt (j * 7 + 4)
  have e5 : w7.cell? ⟨ge, j * 7 + 5, none⟩ = some (.int .i64 t.bnd) := own_at It.cells_len HO7.out hjl Hte.out 5 (by omega) rfl
  have g5 := HO7.out.frozenAt (j * 7 + 5)
  have e6 : w7.cell? ⟨ge, j * 7 + 6, none⟩ = some (.int .i64 t.level) := own_at It.cells_len HO7.out hjl Hte.out 6 (by omega) rfl
  have g6 := HO7.out.frozenAt (j * 7 + 6)
  have gl := (HO7.out.lt ge rfl).2
  go_simp
  refine hK _ _ ?_
  clear hK
  refine A_done (by kernel_rfl) ?_
  generalize (((((((w7.setCell ⟨ge, j * 7, none⟩ (.string t2.name)).setCell ⟨ge, j * 7 + 1, none⟩ (.bool t2.object)).setCell ⟨ge, j * 7 + 2, none⟩ (.bool t2.mixed)).setCell ⟨ge, j * 7 + 3, none⟩ (.bool t2.coin)).setCell ⟨ge, j * 7 + 4, none⟩ (.int .i64 t2.wear)).setCell ⟨ge, j * 7 + 5, none⟩ (.int .i64 t2.bnd)).setCell ⟨ge, j * 7 + 6, none⟩ (.int .i64 t2.level)) = W8 at HP ⊢
  clear e0 g0 e1 g1 e2 g2 e3 g3 e4 g4 e5 g5 e6 g6 gl HO7 HO6 HC7 HC6 KI
  have HD := Lib.hid (HP.out.done HB0.out (by omega) (by omega))
  dsimp only at HD
  have z0 : W8.cell? ⟨w.heap.size + 3, 0, none⟩ = some (.slice (some ⟨ge, 0, none⟩) ni ci) := HP.out.ct.bx.cell 0
  have y0 : W8.cell? ⟨w.heap.size + 1, 0, none⟩ = some (.slice none 0 0) := HP.out.ct.res.cell 0
  have f0 := HP.out.ct.res.frozen 0
  have z1 : W8.cell? ⟨w.heap.size + 3, 1, none⟩ = some (.slice Ar nr cr) := HP.out.ct.bx.cell 1
  have y1 : W8.cell? ⟨w.heap.size + 1, 1, none⟩ = some (.slice none 0 0) := HP.out.ct.res.cell 1
  have f1 := HP.out.ct.res.frozen 1
  have z2 : W8.cell? ⟨w.heap.size + 3, 2, none⟩ = some (.slice At nt ct) := HP.out.ct.bx.cell 2
  have y2 : W8.cell? ⟨w.heap.size + 1, 2, none⟩ = some (.slice none 0 0) := HP.out.ct.res.cell 2
  have f2 := HP.out.ct.res.frozen 2
  have z3 : W8.cell? ⟨w.heap.size + 3, 3, none⟩ = some (.slice Ax nx cx) := HP.out.ct.bx.cell 3
  have y3 : W8.cell? ⟨w.heap.size + 1, 3, none⟩ = some (.slice none 0 0) := HP.out.ct.res.cell 3
  have f3 := HP.out.ct.res.frozen 3
  have hl0 := HP.out.ct.res.lt
  have hl1 := HP.out.ct.bx.lt
  clear HP
  go_wp2
  have t1 := HD.out.2
  refine bodyPost_ret (v := .agg #[.slice (some ⟨ge, 0, none⟩) ni ci, .slice Ar nr cr, .slice At nt ct, .slice Ax nx cx]) (by simp [results, Tryz.results36, go_sem, World.cell?, t1]) rfl HD.out.1
 ·have ho := HC5.out.or_
  dsimp only at ho
  rw [Lr.out] at ho
  obtain ⟨ge, ce, hge, _, hgl⟩ := ho.form (by omega)
  cases hge
  clear ho
  go_wp2_with fail
  (with_reducible refine (next_g (nr : Int) HC5.out.ct.st.ok (by omega) (by omega)).mono ?_)
  rintro e w6 ⟨j0, rfl, j00, j01, hs⟩
  obtain ⟨j, rfl⟩ := Int.eq_ofNat_of_zero_le j00
  have HC6 := Lib.hid ((HC5.out.next hs).below (Below.refl _ _).drew)
  have hl6 := (HC5.out.next hs).ct.bx.lt
  clear b0 b1 b2 b3 lb lres
  clear hs HC5
  have hjl : j < rules.length := by rw [Lr.out]; omega
  obtain ⟨t, hte⟩ : ∃ t, rules[j] = t := ⟨_, rfl⟩
  have Hte := Lib.hid hte
  have hok : t.Ok w6.drew := by rw [← hte]; exact HC6.out.ct.ok.rules.each _ (List.getElem_mem hjl)
  have hsm : ruSmall 3 t := by rw [← hte]; exact HS.out.short _ (List.getElem_mem hjl)
  have KI : Hid (Calls Tryz.prog 83 #[.agg #[.string t.name, .bool t.spawn, .int .i64 t.level, .int .i64 t.time, .int .i64 t.chance, .int .i64 t.of_, .slice t.st.A t.st.n t.st.c, .slice t.sg.A t.sg.n t.sg.c, .slice t.sb.A t.sb.n t.sb.c], .pointer (some ⟨w.heap.size + 1 + 1, 0, none⟩)] w6.drew (RuB w6.drew (w.heap.size + 1 + 1) 3)) := ruleBent_g (q := 3) t HC6.out.ct.st.ok hok hsm (by omega)
  clear hok hsm
  have HO6 : Hid (w6.drew.ownsRow V.heap.size 103 9 (.slice (some ⟨ge, 0, none⟩) nr cr) nr (rucells rules)) := by have ho := HC6.out.or_; dsimp only at ho; rw [Lr.out] at ho; exact ho
  have jj0 : (0 : Int) ≤ (j : Int) := by omega
  clear hte
  go_wp2_with fail
  refine wp_region_X (fun w' => Bk w' (w.heap.size + 3) 28 (catSL ⟨Ai, ni, ci⟩ ⟨some ⟨ge, 0, none⟩, nr, cr⟩ ⟨At, nt, ct⟩ ⟨Ax, nx, cx⟩) ∧ w'.ownsRow V.heap.size 103 9 (.slice (some ⟨ge, 0, none⟩) nr cr) nr (rucells rules)) 11 (n := 12) rfl (by kernel_rfl) (⟨HC6.out.ct.bx, HO6.out⟩) (fun hS => ?_)
  refine X_take 0 (some 83) (v := ?_) (listed' := #[true, false, false, false, false, false, false, false, false, false, false, false]) rfl rfl rfl (by kernel_rfl) (fun _ _ _ h => h) ⟨rfl, ?_⟩ hS ?_
  rotate_left
  ·intro w' hS'
   (go_simp; try with_reducible rfl)
  simp only [Act.put, List.setIfInBounds_toArray, List.set_cons_zero, List.set_cons_succ]
  refine X_take 1 (some 84) (v := ?_) (listed' := #[true, true, false, false, false, false, false, false, false, false, false, false]) rfl rfl rfl (by kernel_rfl) (fun _ _ _ h => h) ⟨rfl, ?_⟩ hS ?_
  rotate_left
  ·intro w' hS'
   have e : w'.cell? ⟨w.heap.size + 3, 1, none⟩ = some (.slice (some ⟨ge, 0, none⟩) nr cr) := hS'.1.cell 1
   (go_simp; try with_reducible rfl)
  simp only [Act.put, List.setIfInBounds_toArray, List.set_cons_zero, List.set_cons_succ]
  refine X_take 2 (some 85) (v := ?_) (listed' := #[true, true, true, false, false, false, false, false, false, false, false, false]) rfl rfl rfl (by kernel_rfl) (fun _ _ _ h => h) ⟨rfl, ?_⟩ hS ?_
  rotate_left
  ·intro w' hS'
   (go_simp; try with_reducible rfl)
  simp only [Act.put, List.setIfInBounds_toArray, List.set_cons_zero, List.set_cons_succ]
  refine X_take 3 (some 86) (v := ?_) (listed' := #[true, true, true, true, false, false, false, false, false, false, false, false]) rfl rfl rfl (by kernel_rfl) (fun _ _ _ h => h) ⟨rfl, ?_⟩ hS ?_
  rotate_left
  ·intro w' hS'
   (go_simp; try with_reducible rfl)
  simp only [Act.put, List.setIfInBounds_toArray, List.set_cons_zero, List.set_cons_succ]
  refine X_take 4 (some 87) (v := ?_) (listed' := #[true, true, true, true, true, false, false, false, false, false, false, false]) rfl rfl rfl (by kernel_rfl) (fun _ _ _ h => h) ⟨rfl, ?_⟩ hS ?_
  rotate_left
  ·intro w' hS'
   have e : w'.cell? ⟨w.heap.size + 3, 1, none⟩ = some (.slice (some ⟨ge, 0, none⟩) nr cr) := hS'.1.cell 1
   (go_simp; try with_reducible rfl)
  simp only [Act.put, List.setIfInBounds_toArray, List.set_cons_zero, List.set_cons_succ]
  refine X_take 5 (some 88) (v := ?_) (listed' := #[true, true, true, true, true, true, false, false, false, false, false, false]) rfl rfl rfl (by kernel_rfl) (fun _ _ _ h => h) ⟨rfl, ?_⟩ hS ?_
  rotate_left
  ·intro w' hS'
   (go_simp; try with_reducible rfl)
  simp only [Act.put, List.setIfInBounds_toArray, List.set_cons_zero, List.set_cons_succ]
  refine X_take 6 (some 89) (v := ?_) (listed' := #[true, true, true, true, true, true, true, false, false, false, false, false]) rfl rfl rfl (by kernel_rfl) (fun _ _ _ h => h) ⟨rfl, ?_⟩ hS ?_
  rotate_left
  ·intro w' hS'
   (go_simp; try with_reducible rfl)
  simp only [Act.put, List.setIfInBounds_toArray, List.set_cons_zero, List.set_cons_succ]
  refine X_take 7 (some 90) (v := ?_) (listed' := #[true, true, true, true, true, true, true, true, false, false, false, false]) rfl rfl rfl (by kernel_rfl) (fun _ _ _ h => h) ⟨rfl, ?_⟩ hS ?_
  rotate_left
  ·intro w' hS'
   have e0 : w'.cell? ⟨ge, j * 9, none⟩ = some (.string t.name) := own_at0 RuM.len hS'.2 hjl Hte.out (by omega) rfl
   have e1 : w'.cell? ⟨ge, j * 9 + 1, none⟩ = some (.bool t.spawn) := own_at RuM.len hS'.2 hjl Hte.out 1 (by omega) rfl
   have e2 : w'.cell? ⟨ge, j * 9 + 2, none⟩ = some (.int .i64 t.level) := own_at RuM.len hS'.2 hjl Hte.out 2 (by omega) rfl
   have e3 : w'.cell? ⟨ge, j * 9 + 3, none⟩ = some (.int .i64 t.time) := own_at RuM.len hS'.2 hjl Hte.out 3 (by omega) rfl
   have e4 : w'.cell? ⟨ge, j * 9 + 4, none⟩ = some (.int .i64 t.chance) := own_at RuM.len hS'.2 hjl Hte.out 4 (by omega) rfl
   have e5 : w'.cell? ⟨ge, j * 9 + 5, none⟩ = some (.int .i64 t.of_) := own_at RuM.len hS'.2 hjl Hte.out 5 (by omega) rfl
   have e6 : w'.cell? ⟨ge, j * 9 + 6, none⟩ = some (.slice t.st.A t.st.n t.st.c) := own_at RuM.len hS'.2 hjl Hte.out 6 (by omega) rfl
   have e7 : w'.cell? ⟨ge, j * 9 + 7, none⟩ = some (.slice t.sg.A t.sg.n t.sg.c) := own_at RuM.len hS'.2 hjl Hte.out 7 (by omega) rfl
   have e8 : w'.cell? ⟨ge, j * 9 + 8, none⟩ = some (.slice t.sb.A t.sb.n t.sb.c) := own_at RuM.len hS'.2 hjl Hte.out 8 (by omega) rfl
   have el := (hS'.2.lt ge rfl).2
   (go_simp; try with_reducible rfl)
  simp only [Act.put, List.setIfInBounds_toArray, List.set_cons_zero, List.set_cons_succ]
  refine X_take 8 (some 91) (v := ?_) (listed' := #[true, true, true, true, true, true, true, true, true, false, false, false]) rfl rfl rfl (by kernel_rfl) (fun _ _ _ h => h) ⟨rfl, ?_⟩ hS ?_
  rotate_left
  ·intro w' hS'
   (go_simp; try with_reducible rfl)
  simp only [Act.put, List.setIfInBounds_toArray, List.set_cons_zero, List.set_cons_succ]
  refine X_one 9 (listed' := #[true, true, true, true, true, true, true, true, true, true, false, false]) (by kernel_rfl) rfl rfl (fun K hK => ?_)
  go_simp
  (with_reducible refine KI.out.mono ?_)
  rintro e w7 ⟨t2, rfl, hok2, hsm2, hs⟩
  have Hok2 := Lib.hid hok2
  have Hsm2 := Lib.hid hsm2
  have HC7 := Lib.hid (HC6.out.next hs)
  have HO7 : Hid (w7.ownsRow V.heap.size 103 9 (.slice (some ⟨ge, 0, none⟩) nr cr) nr (rucells rules)) := by have ho := HC7.out.or_; dsimp only at ho; rw [Lr.out] at ho; exact ho
  refine hK _ _ ⟨HC7.out.ct.bx, HO7.out⟩ ?_
  clear hs hK hok2 hsm2
  refine X_one 10 (listed' := #[true, true, true, true, true, true, true, true, true, true, true, false]) (by kernel_rfl) rfl rfl (fun K hK => ?_)
  go_simp
  refine hK _ _ ⟨HC7.out.ct.bx, HO7.out⟩ ?_
  clear hK
  refine X_tail (by kernel_rfl) ?_
  refine A_one 11 (listed' := #[true, true, true, true, true, true, true, true, true, true, true, true]) (by kernel_rfl) rfl rfl (fun K hK => ?_)
  have hgr : w7.grownBy (((((((((w7.setCell ⟨ge, j * 9, none⟩ (.string t2.name)).setCell ⟨ge, j * 9 + 1, none⟩ (.bool t2.spawn)).setCell ⟨ge, j * 9 + 2, none⟩ (.int .i64 t2.level)).setCell ⟨ge, j * 9 + 3, none⟩ (.int .i64 t2.time)).setCell ⟨ge, j * 9 + 4, none⟩ (.int .i64 t2.chance)).setCell ⟨ge, j * 9 + 5, none⟩ (.int .i64 t2.of_)).setCell ⟨ge, j * 9 + 6, none⟩ (.slice t2.st.A t2.st.n t2.st.c)).setCell ⟨ge, j * 9 + 7, none⟩ (.slice t2.sg.A t2.sg.n t2.sg.c)).setCell ⟨ge, j * 9 + 8, none⟩ (.slice t2.sb.A t2.sb.n t2.sb.c)) (some ge) := grown2 (grown2 (grown2 (grown2 (grown2 (grown2 (grown2 (grown2 (grown_setCell w7 ge (j * 9) (.string t2.name)) (grown_setCell _ ge (j * 9 + 1) (.bool t2.spawn))) (grown_setCell _ ge (j * 9 + 2) (.int .i64 t2.level))) (grown_setCell _ ge (j * 9 + 3) (.int .i64 t2.time))) (grown_setCell _ ge (j * 9 + 4) (.int .i64 t2.chance))) (grown_setCell _ ge (j * 9 + 5) (.int .i64 t2.of_))) (grown_setCell _ ge (j * 9 + 6) (.slice t2.st.A t2.st.n t2.st.c))) (grown_setCell _ ge (j * 9 + 7) (.slice t2.sg.A t2.sg.n t2.sg.c))) (grown_setCell _ ge (j * 9 + 8) (.slice t2.sb.A t2.sb.n t2.sb.c))
  have hst : (((((((((w7.setCell ⟨ge, j * 9, none⟩ (.string t2.name)).setCell ⟨ge, j * 9 + 1, none⟩ (.bool t2.spawn)).setCell ⟨ge, j * 9 + 2, none⟩ (.int .i64 t2.level)).setCell ⟨ge, j * 9 + 3, none⟩ (.int .i64 t2.time)).setCell ⟨ge, j * 9 + 4, none⟩ (.int .i64 t2.chance)).setCell ⟨ge, j * 9 + 5, none⟩ (.int .i64 t2.of_)).setCell ⟨ge, j * 9 + 6, none⟩ (.slice t2.st.A t2.st.n t2.st.c)).setCell ⟨ge, j * 9 + 7, none⟩ (.slice t2.sg.A t2.sg.n t2.sg.c)).setCell ⟨ge, j * 9 + 8, none⟩ (.slice t2.sb.A t2.sb.n t2.sb.c)).ownsRow V.heap.size 103 9 (.slice (some ⟨ge, 0, none⟩) nr cr) nr (rucells (rules.set j t2)) := by rw [rucells_set rules j t2 hjl]; exact (((((((((HO7.out.stored (j * 9) (.string t2.name)).1.stored (j * 9 + 1) (.bool t2.spawn)).1.stored (j * 9 + 2) (.int .i64 t2.level)).1.stored (j * 9 + 3) (.int .i64 t2.time)).1.stored (j * 9 + 4) (.int .i64 t2.chance)).1.stored (j * 9 + 5) (.int .i64 t2.of_)).1.stored (j * 9 + 6) (.slice t2.st.A t2.st.n t2.st.c)).1.stored (j * 9 + 7) (.slice t2.sg.A t2.sg.n t2.sg.c)).1.stored (j * 9 + 8) (.slice t2.sb.A t2.sb.n t2.sb.c)).1
  have hkk : Keep 136 w7 (((((((((w7.setCell ⟨ge, j * 9, none⟩ (.string t2.name)).setCell ⟨ge, j * 9 + 1, none⟩ (.bool t2.spawn)).setCell ⟨ge, j * 9 + 2, none⟩ (.int .i64 t2.level)).setCell ⟨ge, j * 9 + 3, none⟩ (.int .i64 t2.time)).setCell ⟨ge, j * 9 + 4, none⟩ (.int .i64 t2.chance)).setCell ⟨ge, j * 9 + 5, none⟩ (.int .i64 t2.of_)).setCell ⟨ge, j * 9 + 6, none⟩ (.slice t2.st.A t2.st.n t2.st.c)).setCell ⟨ge, j * 9 + 7, none⟩ (.slice t2.sg.A t2.sg.n t2.sg.c)).setCell ⟨ge, j * 9 + 8, none⟩ (.slice t2.sb.A t2.sb.n t2.sb.c)) := Keep.own HO7.out hgr (by decide)
  have HP : Hid (CtO V (((((((((w7.setCell ⟨ge, j * 9, none⟩ (.string t2.name)).setCell ⟨ge, j * 9 + 1, none⟩ (.bool t2.spawn)).setCell ⟨ge, j * 9 + 2, none⟩ (.int .i64 t2.level)).setCell ⟨ge, j * 9 + 3, none⟩ (.int .i64 t2.time)).setCell ⟨ge, j * 9 + 4, none⟩ (.int .i64 t2.chance)).setCell ⟨ge, j * 9 + 5, none⟩ (.int .i64 t2.of_)).setCell ⟨ge, j * 9 + 6, none⟩ (.slice t2.st.A t2.st.n t2.st.c)).setCell ⟨ge, j * 9 + 7, none⟩ (.slice t2.sg.A t2.sg.n t2.sg.c)).setCell ⟨ge, j * 9 + 8, none⟩ (.slice t2.sb.A t2.sb.n t2.sb.c)) (w.heap.size + 1 + 1) (w.heap.size + 1) (w.heap.size + 3) 4 ⟨items, rules.set j t2, tables, taxes, ⟨Ai, ni, ci⟩, ⟨some ⟨ge, 0, none⟩, nr, cr⟩, ⟨At, nt, ct⟩, ⟨Ax, nx, cx⟩⟩) := HC7.out.inR (l := rules.set j t2) hgr (by dsimp only; rw [Lr.out]; exact hst) (by simp) (fun y hy => by
   rcases List.mem_or_eq_of_mem_set hy with h1 | h1
   ·exact (HC7.out.ct.ok.rules.each y h1).keep hkk
   ·rw [h1]; exact Hok2.out.keep hkk) (fun y hy => by
   rcases List.mem_or_eq_of_mem_set hy with h1 | h1
   ·exact HC7.out.short y h1
   ·rw [h1]; exact Hsm2.out)
  clear hgr hst hkk
  have e0 : w7.cell? ⟨ge, j * 9, none⟩ = some (.string t.name) := own_at0 RuM.len HO7.out hjl Hte.out (by omega) rfl
  have g0 := HO7.out.frozenAt (j * 9)
  have e1 : w7.cell? ⟨ge, j * 9 + 1, none⟩ = some (.bool t.spawn) := own_at RuM.len HO7.out hjl Hte.out 1 (by omega) rfl
  have g1 := HO7.out.frozenAt (j * 9 + 1)
  have e2 : w7.cell? ⟨ge, j * 9 + 2, none⟩ = some (.int .i64 t.level) := own_at RuM.len HO7.out hjl Hte.out 2 (by omega) rfl
  have g2 := HO7.out.frozenAt (j * 9 + 2)
  have e3 : w7.cell? ⟨ge, j * 9 + 3, none⟩ = some (.int .i64 t.time) := own_at RuM.len HO7.out hjl Hte.out 3 (by omega) rfl
  have g3 := HO7.out.frozenAt (j * 9 + 3)
  have e4 : w7.cell? ⟨ge, j * 9 + 4, none⟩ = some (.int .i64 t.chance) := own_at RuM.len HO7.out hjl Hte.out 4 (by omega) rfl
  have g4 := HO7.out.frozenAt (j * 9 + 4)
  have e5 : w7.cell? ⟨ge, j * 9 + 5, none⟩ = some (.int .i64 t.of_) := own_at RuM.len HO7.out hjl Hte.out 5 (by omega) rfl
  have g5 := HO7.out.frozenAt (j * 9 + 5)
  have e6 : w7.cell? ⟨ge, j * 9 + 6, none⟩ = some (.slice t.st.A t.st.n t.st.c) := own_at RuM.len HO7.out hjl Hte.out 6 (by omega) rfl
  have g6 := HO7.out.frozenAt (j * 9 + 6)
  have e7 : w7.cell? ⟨ge, j * 9 + 7, none⟩ = some (.slice t.sg.A t.sg.n t.sg.c) := own_at RuM.len HO7.out hjl Hte.out 7 (by omega) rfl
  have g7 := HO7.out.frozenAt (j * 9 + 7)
  have e8 : w7.cell? ⟨ge, j * 9 + 8, none⟩ = some (.slice t.sb.A t.sb.n t.sb.c) := own_at RuM.len HO7.out hjl Hte.out 8 (by omega) rfl
  have g8 := HO7.out.frozenAt (j * 9 + 8)
  have gl := (HO7.out.lt ge rfl).2
  go_simp
  refine hK _ _ ?_
  clear hK
  refine A_done (by kernel_rfl) ?_
  generalize (((((((((w7.setCell ⟨ge, j * 9, none⟩ (.string t2.name)).setCell ⟨ge, j * 9 + 1, none⟩ (.bool t2.spawn)).setCell ⟨ge, j * 9 + 2, none⟩ (.int .i64 t2.level)).setCell ⟨ge, j * 9 + 3, none⟩ (.int .i64 t2.time)).setCell ⟨ge, j * 9 + 4, none⟩ (.int .i64 t2.chance)).setCell ⟨ge, j * 9 + 5, none⟩ (.int .i64 t2.of_)).setCell ⟨ge, j * 9 + 6, none⟩ (.slice t2.st.A t2.st.n t2.st.c)).setCell ⟨ge, j * 9 + 7, none⟩ (.slice t2.sg.A t2.sg.n t2.sg.c)).setCell ⟨ge, j * 9 + 8, none⟩ (.slice t2.sb.A t2.sb.n t2.sb.c)) = W8 at HP ⊢
  clear e0 g0 e1 g1 e2 g2 e3 g3 e4 g4 e5 g5 e6 g6 e7 g7 e8 g8 gl HO7 HO6 HC7 HC6 KI
  have HD := Lib.hid (HP.out.done HB0.out (by omega) (by omega))
  dsimp only at HD
  have z0 : W8.cell? ⟨w.heap.size + 3, 0, none⟩ = some (.slice Ai ni ci) := HP.out.ct.bx.cell 0
  have y0 : W8.cell? ⟨w.heap.size + 1, 0, none⟩ = some (.slice none 0 0) := HP.out.ct.res.cell 0
  have f0 := HP.out.ct.res.frozen 0
  have z1 : W8.cell? ⟨w.heap.size + 3, 1, none⟩ = some (.slice (some ⟨ge, 0, none⟩) nr cr) := HP.out.ct.bx.cell 1
  have y1 : W8.cell? ⟨w.heap.size + 1, 1, none⟩ = some (.slice none 0 0) := HP.out.ct.res.cell 1
  have f1 := HP.out.ct.res.frozen 1
  have z2 : W8.cell? ⟨w.heap.size + 3, 2, none⟩ = some (.slice At nt ct) := HP.out.ct.bx.cell 2
  have y2 : W8.cell? ⟨w.heap.size + 1, 2, none⟩ = some (.slice none 0 0) := HP.out.ct.res.cell 2
  have f2 := HP.out.ct.res.frozen 2
  have z3 : W8.cell? ⟨w.heap.size + 3, 3, none⟩ = some (.slice Ax nx cx) := HP.out.ct.bx.cell 3
  have y3 : W8.cell? ⟨w.heap.size + 1, 3, none⟩ = some (.slice none 0 0) := HP.out.ct.res.cell 3
  have f3 := HP.out.ct.res.frozen 3
  have hl0 := HP.out.ct.res.lt
  have hl1 := HP.out.ct.bx.lt
  clear HP
  go_wp2
  have t1 := HD.out.2
  refine bodyPost_ret (v := .agg #[.slice Ai ni ci, .slice (some ⟨ge, 0, none⟩) nr cr, .slice At nt ct, .slice Ax nx cx]) (by simp [results, Tryz.results36, go_sem, World.cell?, t1]) rfl HD.out.1
 ·have ho := HC5.out.or_
  dsimp only at ho
  rw [Lr.out] at ho
  obtain ⟨ge, ce, hge, _, hgl⟩ := ho.form (by omega)
  cases hge
  clear ho
  go_wp2_with fail
  (with_reducible refine (next_g (nr : Int) HC5.out.ct.st.ok (by omega) (by omega)).mono ?_)
  rintro e w6 ⟨j0, rfl, j00, j01, hs⟩
  obtain ⟨j, rfl⟩ := Int.eq_ofNat_of_zero_le j00
  have HC6 := Lib.hid ((HC5.out.next hs).below (Below.refl _ _).drew)
  have hl6 := (HC5.out.next hs).ct.bx.lt
  clear b0 b1 b2 b3 lb lres
  clear hs HC5
  have hjl : j < rules.length := by rw [Lr.out]; omega
  obtain ⟨t, hte⟩ : ∃ t, rules[j] = t := ⟨_, rfl⟩
  have Hte := Lib.hid hte
  have hok : t.Ok w6.drew := by rw [← hte]; exact HC6.out.ct.ok.rules.each _ (List.getElem_mem hjl)
  have hsm : ruSmall 3 t := by rw [← hte]; exact HS.out.short _ (List.getElem_mem hjl)
  have KI : Hid (Calls Tryz.prog 83 #[.agg #[.string t.name, .bool t.spawn, .int .i64 t.level, .int .i64 t.time, .int .i64 t.chance, .int .i64 t.of_, .slice t.st.A t.st.n t.st.c, .slice t.sg.A t.sg.n t.sg.c, .slice t.sb.A t.sb.n t.sb.c], .pointer (some ⟨w.heap.size + 1 + 1, 0, none⟩)] w6.drew (RuB w6.drew (w.heap.size + 1 + 1) 3)) := ruleBent_g (q := 3) t HC6.out.ct.st.ok hok hsm (by omega)
  clear hok hsm
  have HO6 : Hid (w6.drew.ownsRow V.heap.size 103 9 (.slice (some ⟨ge, 0, none⟩) nr cr) nr (rucells rules)) := by have ho := HC6.out.or_; dsimp only at ho; rw [Lr.out] at ho; exact ho
  have jj0 : (0 : Int) ≤ (j : Int) := by omega
  clear hte
  go_wp2_with fail
  refine wp_region_X (fun w' => Bk w' (w.heap.size + 3) 28 (catSL ⟨Ai, ni, ci⟩ ⟨some ⟨ge, 0, none⟩, nr, cr⟩ ⟨At, nt, ct⟩ ⟨Ax, nx, cx⟩) ∧ w'.ownsRow V.heap.size 103 9 (.slice (some ⟨ge, 0, none⟩) nr cr) nr (rucells rules)) 11 (n := 12) rfl (by kernel_rfl) (⟨HC6.out.ct.bx, HO6.out⟩) (fun hS => ?_)
  refine X_take 0 (some 83) (v := ?_) (listed' := #[true, false, false, false, false, false, false, false, false, false, false, false]) rfl rfl rfl (by kernel_rfl) (fun _ _ _ h => h) ⟨rfl, ?_⟩ hS ?_
  rotate_left
  ·intro w' hS'
   (go_simp; try with_reducible rfl)
  simp only [Act.put, List.setIfInBounds_toArray, List.set_cons_zero, List.set_cons_succ]
  refine X_take 1 (some 84) (v := ?_) (listed' := #[true, true, false, false, false, false, false, false, false, false, false, false]) rfl rfl rfl (by kernel_rfl) (fun _ _ _ h => h) ⟨rfl, ?_⟩ hS ?_
  rotate_left
  ·intro w' hS'
   have e : w'.cell? ⟨w.heap.size + 3, 1, none⟩ = some (.slice (some ⟨ge, 0, none⟩) nr cr) := hS'.1.cell 1
   (go_simp; try with_reducible rfl)
  simp only [Act.put, List.setIfInBounds_toArray, List.set_cons_zero, List.set_cons_succ]
  refine X_take 2 (some 85) (v := ?_) (listed' := #[true, true, true, false, false, false, false, false, false, false, false, false]) rfl rfl rfl (by kernel_rfl) (fun _ _ _ h => h) ⟨rfl, ?_⟩ hS ?_
  rotate_left
  ·intro w' hS'
   (go_simp; try with_reducible rfl)
  simp only [Act.put, List.setIfInBounds_toArray, List.set_cons_zero, List.set_cons_succ]
  refine X_take 3 (some 86) (v := ?_) (listed' := #[true, true, true, true, false, false, false, false, false, false, false, false]) rfl rfl rfl (by kernel_rfl) (fun _ _ _ h => h) ⟨rfl, ?_⟩ hS ?_
  rotate_left
  ·intro w' hS'
   (go_simp; try with_reducible rfl)
  simp only [Act.put, List.setIfInBounds_toArray, List.set_cons_zero, List.set_cons_succ]
  refine X_take 4 (some 87) (v := ?_) (listed' := #[true, true, true, true, true, false, false, false, false, false, false, false]) rfl rfl rfl (by kernel_rfl) (fun _ _ _ h => h) ⟨rfl, ?_⟩ hS ?_
  rotate_left
  ·intro w' hS'
   have e : w'.cell? ⟨w.heap.size + 3, 1, none⟩ = some (.slice (some ⟨ge, 0, none⟩) nr cr) := hS'.1.cell 1
   (go_simp; try with_reducible rfl)
  simp only [Act.put, List.setIfInBounds_toArray, List.set_cons_zero, List.set_cons_succ]
  refine X_take 5 (some 88) (v := ?_) (listed' := #[true, true, true, true, true, true, false, false, false, false, false, false]) rfl rfl rfl (by kernel_rfl) (fun _ _ _ h => h) ⟨rfl, ?_⟩ hS ?_
  rotate_left
  ·intro w' hS'
   (go_simp; try with_reducible rfl)
  simp only [Act.put, List.setIfInBounds_toArray, List.set_cons_zero, List.set_cons_succ]
  refine X_take 6 (some 89) (v := ?_) (listed' := #[true, true, true, true, true, true, true, false, false, false, false, false]) rfl rfl rfl (by kernel_rfl) (fun _ _ _ h => h) ⟨rfl, ?_⟩ hS ?_
  rotate_left
  ·intro w' hS'
   (go_simp; try with_reducible rfl)
  simp only [Act.put, List.setIfInBounds_toArray, List.set_cons_zero, List.set_cons_succ]
  refine X_take 7 (some 90) (v := ?_) (listed' := #[true, true, true, true, true, true, true, true, false, false, false, false]) rfl rfl rfl (by kernel_rfl) (fun _ _ _ h => h) ⟨rfl, ?_⟩ hS ?_
  rotate_left
  ·intro w' hS'
   have e0 : w'.cell? ⟨ge, j * 9, none⟩ = some (.string t.name) := own_at0 RuM.len hS'.2 hjl Hte.out (by omega) rfl
   have e1 : w'.cell? ⟨ge, j * 9 + 1, none⟩ = some (.bool t.spawn) := own_at RuM.len hS'.2 hjl Hte.out 1 (by omega) rfl
   have e2 : w'.cell? ⟨ge, j * 9 + 2, none⟩ = some (.int .i64 t.level) := own_at RuM.len hS'.2 hjl Hte.out 2 (by omega) rfl
   have e3 : w'.cell? ⟨ge, j * 9 + 3, none⟩ = some (.int .i64 t.time) := own_at RuM.len hS'.2 hjl Hte.out 3 (by omega) rfl
   have e4 : w'.cell? ⟨ge, j * 9 + 4, none⟩ = some (.int .i64 t.chance) := own_at RuM.len hS'.2 hjl Hte.out 4 (by omega) rfl
   have e5 : w'.cell? ⟨ge, j * 9 + 5, none⟩ = some (.int .i64 t.of_) := own_at RuM.len hS'.2 hjl Hte.out 5 (by omega) rfl
   have e6 : w'.cell? ⟨ge, j * 9 + 6, none⟩ = some (.slice t.st.A t.st.n t.st.c) := own_at RuM.len hS'.2 hjl Hte.out 6 (by omega) rfl
   have e7 : w'.cell? ⟨ge, j * 9 + 7, none⟩ = some (.slice t.sg.A t.sg.n t.sg.c) := own_at RuM.len hS'.2 hjl Hte.out 7 (by omega) rfl
   have e8 : w'.cell? ⟨ge, j * 9 + 8, none⟩ = some (.slice t.sb.A t.sb.n t.sb.c) := own_at RuM.len hS'.2 hjl Hte.out 8 (by omega) rfl
   have el := (hS'.2.lt ge rfl).2
   (go_simp; try with_reducible rfl)
  simp only [Act.put, List.setIfInBounds_toArray, List.set_cons_zero, List.set_cons_succ]
  refine X_take 8 (some 91) (v := ?_) (listed' := #[true, true, true, true, true, true, true, true, true, false, false, false]) rfl rfl rfl (by kernel_rfl) (fun _ _ _ h => h) ⟨rfl, ?_⟩ hS ?_
  rotate_left
  ·intro w' hS'
   (go_simp; try with_reducible rfl)
  simp only [Act.put, List.setIfInBounds_toArray, List.set_cons_zero, List.set_cons_succ]
  refine X_one 9 (listed' := #[true, true, true, true, true, true, true, true, true, true, false, false]) (by kernel_rfl) rfl rfl (fun K hK => ?_)
  go_simp
  (with_reducible refine KI.out.mono ?_)
  rintro e w7 ⟨t2, rfl, hok2, hsm2, hs⟩
  have Hok2 := Lib.hid hok2
  have Hsm2 := Lib.hid hsm2
  have HC7 := Lib.hid (HC6.out.next hs)
  have HO7 : Hid (w7.ownsRow V.heap.size 103 9 (.slice (some ⟨ge, 0, none⟩) nr cr) nr (rucells rules)) := by have ho := HC7.out.or_; dsimp only at ho; rw [Lr.out] at ho; exact ho
  refine hK _ _ ⟨HC7.out.ct.bx, HO7.out⟩ ?_
  clear hs hK hok2 hsm2
  refine X_one 10 (listed' := #[true, true, true, true, true, true, true, true, true, true, true, false]) (by kernel_rfl) rfl rfl (fun K hK => ?_)
  go_simp
  refine hK _ _ ⟨HC7.out.ct.bx, HO7.out⟩ ?_
  clear hK
  refine X_tail (by kernel_rfl) ?_
  refine A_one 11 (listed' := #[true, true, true, true, true, true, true, true, true, true, true, true]) (by kernel_rfl) rfl rfl (fun K hK => ?_)
  have hgr : w7.grownBy (((((((((w7.setCell ⟨ge, j * 9, none⟩ (.string t2.name)).setCell ⟨ge, j * 9 + 1, none⟩ (.bool t2.spawn)).setCell ⟨ge, j * 9 + 2, none⟩ (.int .i64 t2.level)).setCell ⟨ge, j * 9 + 3, none⟩ (.int .i64 t2.time)).setCell ⟨ge, j * 9 + 4, none⟩ (.int .i64 t2.chance)).setCell ⟨ge, j * 9 + 5, none⟩ (.int .i64 t2.of_)).setCell ⟨ge, j * 9 + 6, none⟩ (.slice t2.st.A t2.st.n t2.st.c)).setCell ⟨ge, j * 9 + 7, none⟩ (.slice t2.sg.A t2.sg.n t2.sg.c)).setCell ⟨ge, j * 9 + 8, none⟩ (.slice t2.sb.A t2.sb.n t2.sb.c)) (some ge) := grown2 (grown2 (grown2 (grown2 (grown2 (grown2 (grown2 (grown2 (grown_setCell w7 ge (j * 9) (.string t2.name)) (grown_setCell _ ge (j * 9 + 1) (.bool t2.spawn))) (grown_setCell _ ge (j * 9 + 2) (.int .i64 t2.level))) (grown_setCell _ ge (j * 9 + 3) (.int .i64 t2.time))) (grown_setCell _ ge (j * 9 + 4) (.int .i64 t2.chance))) (grown_setCell _ ge (j * 9 + 5) (.int .i64 t2.of_))) (grown_setCell _ ge (j * 9 + 6) (.slice t2.st.A t2.st.n t2.st.c))) (grown_setCell _ ge (j * 9 + 7) (.slice t2.sg.A t2.sg.n t2.sg.c))) (grown_setCell _ ge (j * 9 + 8) (.slice t2.sb.A t2.sb.n t2.sb.c))
  have hst : (((((((((w7.setCell ⟨ge, j * 9, none⟩ (.string t2.name)).setCell ⟨ge, j * 9 + 1, none⟩ (.bool t2.spawn)).setCell ⟨ge, j * 9 + 2, none⟩ (.int .i64 t2.level)).setCell ⟨ge, j * 9 + 3, none⟩ (.int .i64 t2.time)).setCell ⟨ge, j * 9 + 4, none⟩ (.int .i64 t2.chance)).setCell ⟨ge, j * 9 + 5, none⟩ (.int .i64 t2.of_)).setCell ⟨ge, j * 9 + 6, none⟩ (.slice t2.st.A t2.st.n t2.st.c)).setCell ⟨ge, j * 9 + 7, none⟩ (.slice t2.sg.A t2.sg.n t2.sg.c)).setCell ⟨ge, j * 9 + 8, none⟩ (.slice t2.sb.A t2.sb.n t2.sb.c)).ownsRow V.heap.size 103 9 (.slice (some ⟨ge, 0, none⟩) nr cr) nr (rucells (rules.set j t2)) := by rw [rucells_set rules j t2 hjl]; exact (((((((((HO7.out.stored (j * 9) (.string t2.name)).1.stored (j * 9 + 1) (.bool t2.spawn)).1.stored (j * 9 + 2) (.int .i64 t2.level)).1.stored (j * 9 + 3) (.int .i64 t2.time)).1.stored (j * 9 + 4) (.int .i64 t2.chance)).1.stored (j * 9 + 5) (.int .i64 t2.of_)).1.stored (j * 9 + 6) (.slice t2.st.A t2.st.n t2.st.c)).1.stored (j * 9 + 7) (.slice t2.sg.A t2.sg.n t2.sg.c)).1.stored (j * 9 + 8) (.slice t2.sb.A t2.sb.n t2.sb.c)).1
  have hkk : Keep 136 w7 (((((((((w7.setCell ⟨ge, j * 9, none⟩ (.string t2.name)).setCell ⟨ge, j * 9 + 1, none⟩ (.bool t2.spawn)).setCell ⟨ge, j * 9 + 2, none⟩ (.int .i64 t2.level)).setCell ⟨ge, j * 9 + 3, none⟩ (.int .i64 t2.time)).setCell ⟨ge, j * 9 + 4, none⟩ (.int .i64 t2.chance)).setCell ⟨ge, j * 9 + 5, none⟩ (.int .i64 t2.of_)).setCell ⟨ge, j * 9 + 6, none⟩ (.slice t2.st.A t2.st.n t2.st.c)).setCell ⟨ge, j * 9 + 7, none⟩ (.slice t2.sg.A t2.sg.n t2.sg.c)).setCell ⟨ge, j * 9 + 8, none⟩ (.slice t2.sb.A t2.sb.n t2.sb.c)) := Keep.own HO7.out hgr (by decide)
  have HP : Hid (CtO V (((((((((w7.setCell ⟨ge, j * 9, none⟩ (.string t2.name)).setCell ⟨ge, j * 9 + 1, none⟩ (.bool t2.spawn)).setCell ⟨ge, j * 9 + 2, none⟩ (.int .i64 t2.level)).setCell ⟨ge, j * 9 + 3, none⟩ (.int .i64 t2.time)).setCell ⟨ge, j * 9 + 4, none⟩ (.int .i64 t2.chance)).setCell ⟨ge, j * 9 + 5, none⟩ (.int .i64 t2.of_)).setCell ⟨ge, j * 9 + 6, none⟩ (.slice t2.st.A t2.st.n t2.st.c)).setCell ⟨ge, j * 9 + 7, none⟩ (.slice t2.sg.A t2.sg.n t2.sg.c)).setCell ⟨ge, j * 9 + 8, none⟩ (.slice t2.sb.A t2.sb.n t2.sb.c)) (w.heap.size + 1 + 1) (w.heap.size + 1) (w.heap.size + 3) 4 ⟨items, rules.set j t2, tables, taxes, ⟨Ai, ni, ci⟩, ⟨some ⟨ge, 0, none⟩, nr, cr⟩, ⟨At, nt, ct⟩, ⟨Ax, nx, cx⟩⟩) := HC7.out.inR (l := rules.set j t2) hgr (by dsimp only; rw [Lr.out]; exact hst) (by simp) (fun y hy => by
   rcases List.mem_or_eq_of_mem_set hy with h1 | h1
   ·exact (HC7.out.ct.ok.rules.each y h1).keep hkk
   ·rw [h1]; exact Hok2.out.keep hkk) (fun y hy => by
   rcases List.mem_or_eq_of_mem_set hy with h1 | h1
   ·exact HC7.out.short y h1
   ·rw [h1]; exact Hsm2.out)
  clear hgr hst hkk
  have e0 : w7.cell? ⟨ge, j * 9, none⟩ = some (.string t.name) := own_at0 RuM.len HO7.out hjl Hte.out (by omega) rfl
  have g0 := HO7.out.frozenAt (j * 9)
  have e1 : w7.cell? ⟨ge, j * 9 + 1, none⟩ = some (.bool t.spawn) := own_at RuM.len HO7.out hjl Hte.out 1 (by omega) rfl
  have g1 := HO7.out.frozenAt (j * 9 + 1)
  have e2 : w7.cell? ⟨ge, j * 9 + 2, none⟩ = some (.int .i64 t.level) := own_at RuM.len HO7.out hjl Hte.out 2 (by omega) rfl
  have g2 := HO7.out.frozenAt (j * 9 + 2)
  have e3 : w7.cell? ⟨ge, j * 9 + 3, none⟩ = some (.int .i64 t.time) := own_at RuM.len HO7.out hjl Hte.out 3 (by omega) rfl
  have g3 := HO7.out.frozenAt (j * 9 + 3)
  have e4 : w7.cell? ⟨ge, j * 9 + 4, none⟩ = some (.int .i64 t.chance) := own_at RuM.len HO7.out hjl Hte.out 4 (by omega) rfl
  have g4 := HO7.out.frozenAt (j * 9 + 4)
  have e5 : w7.cell? ⟨ge, j * 9 + 5, none⟩ = some (.int .i64 t.of_) := own_at RuM.len HO7.out hjl Hte.out 5 (by omega) rfl
  have g5 := HO7.out.frozenAt (j * 9 + 5)
  have e6 : w7.cell? ⟨ge, j * 9 + 6, none⟩ = some (.slice t.st.A t.st.n t.st.c) := own_at RuM.len HO7.out hjl Hte.out 6 (by omega) rfl
  have g6 := HO7.out.frozenAt (j * 9 + 6)
  have e7 : w7.cell? ⟨ge, j * 9 + 7, none⟩ = some (.slice t.sg.A t.sg.n t.sg.c) := own_at RuM.len HO7.out hjl Hte.out 7 (by omega) rfl
  have g7 := HO7.out.frozenAt (j * 9 + 7)
  have e8 : w7.cell? ⟨ge, j * 9 + 8, none⟩ = some (.slice t.sb.A t.sb.n t.sb.c) := own_at RuM.len HO7.out hjl Hte.out 8 (by omega) rfl
  have g8 := HO7.out.frozenAt (j * 9 + 8)
  have gl := (HO7.out.lt ge rfl).2
  go_simp
  refine hK _ _ ?_
  clear hK
  refine A_done (by kernel_rfl) ?_
  generalize (((((((((w7.setCell ⟨ge, j * 9, none⟩ (.string t2.name)).setCell ⟨ge, j * 9 + 1, none⟩ (.bool t2.spawn)).setCell ⟨ge, j * 9 + 2, none⟩ (.int .i64 t2.level)).setCell ⟨ge, j * 9 + 3, none⟩ (.int .i64 t2.time)).setCell ⟨ge, j * 9 + 4, none⟩ (.int .i64 t2.chance)).setCell ⟨ge, j * 9 + 5, none⟩ (.int .i64 t2.of_)).setCell ⟨ge, j * 9 + 6, none⟩ (.slice t2.st.A t2.st.n t2.st.c)).setCell ⟨ge, j * 9 + 7, none⟩ (.slice t2.sg.A t2.sg.n t2.sg.c)).setCell ⟨ge, j * 9 + 8, none⟩ (.slice t2.sb.A t2.sb.n t2.sb.c)) = W8 at HP ⊢
  clear e0 g0 e1 g1 e2 g2 e3 g3 e4 g4 e5 g5 e6 g6 e7 g7 e8 g8 gl HO7 HO6 HC7 HC6 KI
  have HD := Lib.hid (HP.out.done HB0.out (by omega) (by omega))
  dsimp only at HD
  have z0 : W8.cell? ⟨w.heap.size + 3, 0, none⟩ = some (.slice Ai ni ci) := HP.out.ct.bx.cell 0
  have y0 : W8.cell? ⟨w.heap.size + 1, 0, none⟩ = some (.slice none 0 0) := HP.out.ct.res.cell 0
  have f0 := HP.out.ct.res.frozen 0
  have z1 : W8.cell? ⟨w.heap.size + 3, 1, none⟩ = some (.slice (some ⟨ge, 0, none⟩) nr cr) := HP.out.ct.bx.cell 1
  have y1 : W8.cell? ⟨w.heap.size + 1, 1, none⟩ = some (.slice none 0 0) := HP.out.ct.res.cell 1
  have f1 := HP.out.ct.res.frozen 1
  have z2 : W8.cell? ⟨w.heap.size + 3, 2, none⟩ = some (.slice At nt ct) := HP.out.ct.bx.cell 2
  have y2 : W8.cell? ⟨w.heap.size + 1, 2, none⟩ = some (.slice none 0 0) := HP.out.ct.res.cell 2
  have f2 := HP.out.ct.res.frozen 2
  have z3 : W8.cell? ⟨w.heap.size + 3, 3, none⟩ = some (.slice Ax nx cx) := HP.out.ct.bx.cell 3
  have y3 : W8.cell? ⟨w.heap.size + 1, 3, none⟩ = some (.slice none 0 0) := HP.out.ct.res.cell 3
  have f3 := HP.out.ct.res.frozen 3
  have hl0 := HP.out.ct.res.lt
  have hl1 := HP.out.ct.bx.lt
  clear HP
  go_wp2
  have t1 := HD.out.2
  refine bodyPost_ret (v := .agg #[.slice Ai ni ci, .slice (some ⟨ge, 0, none⟩) nr cr, .slice At nt ct, .slice Ax nx cx]) (by simp [results, Tryz.results36, go_sem, World.cell?, t1]) rfl HD.out.1
 ·rcases Nat.eq_zero_or_pos nt with hz | hz
  ·subst hz
   clear b0 b1 b3 lb lres
   have HD := Lib.hid (HC5.out.done HB0.out (by omega) (by omega))
   dsimp only at HD
   have z0 : W5.cell? ⟨w.heap.size + 3, 0, none⟩ = some (.slice Ai ni ci) := HC5.out.ct.bx.cell 0
   have y0 : W5.cell? ⟨w.heap.size + 1, 0, none⟩ = some (.slice none 0 0) := HC5.out.ct.res.cell 0
   have f0 := HC5.out.ct.res.frozen 0
   have z1 : W5.cell? ⟨w.heap.size + 3, 1, none⟩ = some (.slice Ar nr cr) := HC5.out.ct.bx.cell 1
   have y1 : W5.cell? ⟨w.heap.size + 1, 1, none⟩ = some (.slice none 0 0) := HC5.out.ct.res.cell 1
   have f1 := HC5.out.ct.res.frozen 1
   have z2 : W5.cell? ⟨w.heap.size + 3, 2, none⟩ = some (.slice At 0 ct) := HC5.out.ct.bx.cell 2
   have y2 : W5.cell? ⟨w.heap.size + 1, 2, none⟩ = some (.slice none 0 0) := HC5.out.ct.res.cell 2
   have f2 := HC5.out.ct.res.frozen 2
   have z3 : W5.cell? ⟨w.heap.size + 3, 3, none⟩ = some (.slice Ax nx cx) := HC5.out.ct.bx.cell 3
   have y3 : W5.cell? ⟨w.heap.size + 1, 3, none⟩ = some (.slice none 0 0) := HC5.out.ct.res.cell 3
   have f3 := HC5.out.ct.res.frozen 3
   have hl0 := HC5.out.ct.res.lt
   have hl1 := HC5.out.ct.bx.lt
   clear HC5
   go_wp2
   have t1 := HD.out.2
   refine bodyPost_ret (v := .agg #[.slice Ai ni ci, .slice Ar nr cr, .slice At 0 ct, .slice Ax nx cx]) (by simp [results, Tryz.results36, go_sem, World.cell?, t1]) rfl HD.out.1
  ·have nn2 : (0 : Int) < (nt : Int) := by omega
   have ho := HC5.out.ot
   dsimp only at ho
   rw [Lt.out] at ho
   obtain ⟨ge, ce, hge, _, hgl⟩ := ho.form (by omega)
   cases hge
   obtain ⟨t, tl, htl⟩ : ∃ t tl, tables = t :: tl := by
    cases h9 : tables with
    | nil => have := Lt.out; rw [h9] at this; simp at this; omega
    | cons t tl => exact ⟨t, tl, rfl⟩
   subst htl
   have h00 : W5.cell? ⟨ge, 0, none⟩ = some (.string t.name) := by have := own_at0 TbM.len ho (k := 0) (by simp) rfl (by omega) (u := .string t.name) rfl; rw [Nat.zero_mul] at this; exact this
   have h01 : W5.cell? ⟨ge, 1, none⟩ = some (.slice t.sr.A t.sr.n t.sr.c) := by have := own_at TbM.len ho (k := 0) (by simp) rfl 1 (by omega) (u := .slice t.sr.A t.sr.n t.sr.c) rfl; rw [Nat.zero_mul] at this; exact this
   clear ho
   have hrw : 0 < t.rows.length ∧ t.rows.length ≤ 64 := by
    obtain ⟨c1, _, _, c4, _⟩ := code_parts2 HS.out.code
    simp only [limC, wfC, Bool.and_eq_true, List.all_eq_true] at c1 c4
    have d1 := c1.1.2 t (by simp)
    have d4 := c4.1.2 t (by simp)
    simp only [tbLim, wfT, Bool.and_eq_true, decide_eq_true_eq] at d1 d4
    exact ⟨d4.1, d1⟩
   have hsn : t.sr.n = t.rows.length := (HC5.out.ct.ok.tables.each t (by simp)).rows.len
   have hsn0 : (0 : Int) < (t.sr.n : Int) := by omega
   have hsh : ∀ r ∈ t.rows, r.give.length ≤ 3 := fun r h1 => HS.out.rows t (by simp) r h1
   have Hsh := Lib.hid hsh
   have Hsn := Lib.hid hsn
   clear hsh hsn
   have HC6 := Lib.hid (HC5.out.below (Below.refl _ _).drew)
   have hok : t.Ok W5.drew := HC6.out.ct.ok.tables.each t (by simp)
   have KI : Hid (Calls Tryz.prog 84 #[.agg #[.string t.name, .slice t.sr.A t.sr.n t.sr.c], .pointer (some ⟨w.heap.size + 1 + 1, 0, none⟩)] W5.drew (TbB W5.drew (w.heap.size + 1 + 1) 3)) := rowsBent_g (q := 3) t HC6.out.ct.st.ok hok hrw.1 (by omega) Hsh.out (by omega)
   have HO6 : Hid (W5.drew.ownsRow V.heap.size 107 2 (.slice (some ⟨ge, 0, none⟩) nt ct) nt (tbcells (t :: tl))) := by have ho := HC6.out.ot; dsimp only at ho; rw [Lt.out] at ho; exact ho
   clear hok
   clear HC5
   go_wp2_with fail
   refine wp_region_X (fun w' => Bk w' (w.heap.size + 3) 28 (catSL ⟨Ai, ni, ci⟩ ⟨Ar, nr, cr⟩ ⟨some ⟨ge, 0, none⟩, nt, ct⟩ ⟨Ax, nx, cx⟩) ∧ w'.ownsRow V.heap.size 107 2 (.slice (some ⟨ge, 0, none⟩) nt ct) nt (tbcells (t :: tl))) 9 (n := 10) rfl (by kernel_rfl) (⟨HC6.out.ct.bx, HO6.out⟩) (fun hS => ?_)
   refine X_take 0 (some 111) (v := ?_) (listed' := #[true, false, false, false, false, false, false, false, false, false]) rfl rfl rfl (by kernel_rfl) (fun _ _ _ h => h) ⟨rfl, ?_⟩ hS ?_
   rotate_left
   ·intro w' hS'
    (go_simp; try with_reducible rfl)
   simp only [Act.put, List.setIfInBounds_toArray, List.set_cons_zero, List.set_cons_succ]
   refine X_take 1 (some 112) (v := ?_) (listed' := #[true, true, false, false, false, false, false, false, false, false]) rfl rfl rfl (by kernel_rfl) (fun _ _ _ h => h) ⟨rfl, ?_⟩ hS ?_
   rotate_left
   ·intro w' hS'
    have e : w'.cell? ⟨w.heap.size + 3, 2, none⟩ = some (.slice (some ⟨ge, 0, none⟩) nt ct) := hS'.1.cell 2
    (go_simp; try with_reducible rfl)
   simp only [Act.put, List.setIfInBounds_toArray, List.set_cons_zero, List.set_cons_succ]
   refine X_take 2 (some 113) (v := ?_) (listed' := #[true, true, true, false, false, false, false, false, false, false]) rfl rfl rfl (by kernel_rfl) (fun _ _ _ h => h) ⟨rfl, ?_⟩ hS ?_
   rotate_left
   ·intro w' hS'
    (go_simp; try with_reducible rfl)
   simp only [Act.put, List.setIfInBounds_toArray, List.set_cons_zero, List.set_cons_succ]
   refine X_take 3 (some 114) (v := ?_) (listed' := #[true, true, true, true, false, false, false, false, false, false]) rfl rfl rfl (by kernel_rfl) (fun _ _ _ h => h) ⟨rfl, ?_⟩ hS ?_
   rotate_left
   ·intro w' hS'
    have e : w'.cell? ⟨w.heap.size + 3, 2, none⟩ = some (.slice (some ⟨ge, 0, none⟩) nt ct) := hS'.1.cell 2
    (go_simp; try with_reducible rfl)
   simp only [Act.put, List.setIfInBounds_toArray, List.set_cons_zero, List.set_cons_succ]
   refine X_take 4 (some 115) (v := ?_) (listed' := #[true, true, true, true, true, false, false, false, false, false]) rfl rfl rfl (by kernel_rfl) (fun _ _ _ h => h) ⟨rfl, ?_⟩ hS ?_
   rotate_left
   ·intro w' hS'
    (go_simp; try with_reducible rfl)
   simp only [Act.put, List.setIfInBounds_toArray, List.set_cons_zero, List.set_cons_succ]
   refine X_take 5 (some 116) (v := ?_) (listed' := #[true, true, true, true, true, true, false, false, false, false]) rfl rfl rfl (by kernel_rfl) (fun _ _ _ h => h) ⟨rfl, ?_⟩ hS ?_
   rotate_left
   ·intro w' hS'
    have e0 : w'.cell? ⟨ge, 0, none⟩ = some (.string t.name) := by have := own_at0 TbM.len hS'.2 (k := 0) (by simp) rfl (by omega) (u := .string t.name) rfl; rw [Nat.zero_mul] at this; exact this
    have e1 : w'.cell? ⟨ge, 1, none⟩ = some (.slice t.sr.A t.sr.n t.sr.c) := by have := own_at TbM.len hS'.2 (k := 0) (by simp) rfl 1 (by omega) (u := .slice t.sr.A t.sr.n t.sr.c) rfl; rw [Nat.zero_mul] at this; exact this
    have el := (hS'.2.lt ge rfl).2
    (go_simp; try with_reducible rfl)
   simp only [Act.put, List.setIfInBounds_toArray, List.set_cons_zero, List.set_cons_succ]
   refine X_take 6 (some 117) (v := ?_) (listed' := #[true, true, true, true, true, true, true, false, false, false]) rfl rfl rfl (by kernel_rfl) (fun _ _ _ h => h) ⟨rfl, ?_⟩ hS ?_
   rotate_left
   ·intro w' hS'
    (go_simp; try with_reducible rfl)
   simp only [Act.put, List.setIfInBounds_toArray, List.set_cons_zero, List.set_cons_succ]
   refine X_one 7 (listed' := #[true, true, true, true, true, true, true, true, false, false]) (by kernel_rfl) rfl rfl (fun K hK => ?_)
   go_simp
   (with_reducible refine KI.out.mono ?_)
   rintro e w7 ⟨t2, rfl, hok2, hsm2, hs⟩
   have Hok2 := Lib.hid hok2
   have Hsm2 := Lib.hid hsm2
   have HC7 := Lib.hid (HC6.out.next hs)
   have HO7 : Hid (w7.ownsRow V.heap.size 107 2 (.slice (some ⟨ge, 0, none⟩) nt ct) nt (tbcells (t :: tl))) := by have ho := HC7.out.ot; dsimp only at ho; rw [Lt.out] at ho; exact ho
   refine hK _ _ ⟨HC7.out.ct.bx, HO7.out⟩ ?_
   clear hs hK hok2 hsm2
   refine X_one 8 (listed' := #[true, true, true, true, true, true, true, true, true, false]) (by kernel_rfl) rfl rfl (fun K hK => ?_)
   go_simp
   refine hK _ _ ⟨HC7.out.ct.bx, HO7.out⟩ ?_
   clear hK
   refine X_tail (by kernel_rfl) ?_
   refine A_one 9 (listed' := #[true, true, true, true, true, true, true, true, true, true]) (by kernel_rfl) rfl rfl (fun K hK => ?_)
   have hgr : w7.grownBy ((w7.setCell ⟨ge, 0, none⟩ (.string t2.name)).setCell ⟨ge, 1, none⟩ (.slice t2.sr.A t2.sr.n t2.sr.c)) (some ge) := grown2 (grown_setCell w7 ge 0 (.string t2.name)) (grown_setCell _ ge 1 (.slice t2.sr.A t2.sr.n t2.sr.c))
   have hst : ((w7.setCell ⟨ge, 0, none⟩ (.string t2.name)).setCell ⟨ge, 1, none⟩ (.slice t2.sr.A t2.sr.n t2.sr.c)).ownsRow V.heap.size 107 2 (.slice (some ⟨ge, 0, none⟩) nt ct) nt (tbcells (t2 :: tl)) := by rw [tbcells_set0 t tl t2]; exact ((HO7.out.stored 0 (.string t2.name)).1.stored 1 (.slice t2.sr.A t2.sr.n t2.sr.c)).1
   have hkk : ∀ q, (107 : TypeId) ≠ q → Keep q w7 ((w7.setCell ⟨ge, 0, none⟩ (.string t2.name)).setCell ⟨ge, 1, none⟩ (.slice t2.sr.A t2.sr.n t2.sr.c)) := fun q hq => Keep.own HO7.out hgr hq
   have HP : Hid (CtO V ((w7.setCell ⟨ge, 0, none⟩ (.string t2.name)).setCell ⟨ge, 1, none⟩ (.slice t2.sr.A t2.sr.n t2.sr.c)) (w.heap.size + 1 + 1) (w.heap.size + 1) (w.heap.size + 3) 4 ⟨items, rules, t2 :: tl, taxes, ⟨Ai, ni, ci⟩, ⟨Ar, nr, cr⟩, ⟨some ⟨ge, 0, none⟩, nt, ct⟩, ⟨Ax, nx, cx⟩⟩) := HC7.out.inT (l := t2 :: tl) hgr (by dsimp only; rw [Lt.out]; exact hst) (by simp) (fun y hy => by
    rcases List.mem_cons.1 hy with h1 | h1
    ·rw [h1]; exact Hok2.out.keeps (hkk 109 (by decide)) (hkk 136 (by decide))
    ·exact (HC7.out.ct.ok.tables.each y (List.mem_cons_of_mem _ h1)).keeps (hkk 109 (by decide)) (hkk 136 (by decide))) (fun y hy => by
    rcases List.mem_cons.1 hy with h1 | h1
    ·rw [h1]; exact Hsm2.out
    ·exact HC7.out.rows y (List.mem_cons_of_mem _ h1))
   clear hgr hst hkk
   have e0 : w7.cell? ⟨ge, 0, none⟩ = some (.string t.name) := by have := own_at0 TbM.len HO7.out (k := 0) (by simp) rfl (by omega) (u := .string t.name) rfl; rw [Nat.zero_mul] at this; exact this
   have e1 : w7.cell? ⟨ge, 1, none⟩ = some (.slice t.sr.A t.sr.n t.sr.c) := by have := own_at TbM.len HO7.out (k := 0) (by simp) rfl 1 (by omega) (u := .slice t.sr.A t.sr.n t.sr.c) rfl; rw [Nat.zero_mul] at this; exact this
   have el := (HO7.out.lt ge rfl).2
   have g0 := HO7.out.frozenAt 0
   have g1 := HO7.out.frozenAt 1
   go_simp
   refine hK _ _ ?_
   clear hK
   refine A_done (by kernel_rfl) ?_
   generalize ((w7.setCell ⟨ge, 0, none⟩ (.string t2.name)).setCell ⟨ge, 1, none⟩ (.slice t2.sr.A t2.sr.n t2.sr.c)) = W8 at HP ⊢
   clear e0 e1 el g0 g1 HO7 HO6 HC7 HC6 KI h00 h01 b0 b1 b2 b3 lb lres
   have HD := Lib.hid (HP.out.done HB0.out (by omega) (by omega))
   dsimp only at HD
   have z0 : W8.cell? ⟨w.heap.size + 3, 0, none⟩ = some (.slice Ai ni ci) := HP.out.ct.bx.cell 0
   have y0 : W8.cell? ⟨w.heap.size + 1, 0, none⟩ = some (.slice none 0 0) := HP.out.ct.res.cell 0
   have f0 := HP.out.ct.res.frozen 0
   have z1 : W8.cell? ⟨w.heap.size + 3, 1, none⟩ = some (.slice Ar nr cr) := HP.out.ct.bx.cell 1
   have y1 : W8.cell? ⟨w.heap.size + 1, 1, none⟩ = some (.slice none 0 0) := HP.out.ct.res.cell 1
   have f1 := HP.out.ct.res.frozen 1
   have z2 : W8.cell? ⟨w.heap.size + 3, 2, none⟩ = some (.slice (some ⟨ge, 0, none⟩) nt ct) := HP.out.ct.bx.cell 2
   have y2 : W8.cell? ⟨w.heap.size + 1, 2, none⟩ = some (.slice none 0 0) := HP.out.ct.res.cell 2
   have f2 := HP.out.ct.res.frozen 2
   have z3 : W8.cell? ⟨w.heap.size + 3, 3, none⟩ = some (.slice Ax nx cx) := HP.out.ct.bx.cell 3
   have y3 : W8.cell? ⟨w.heap.size + 1, 3, none⟩ = some (.slice none 0 0) := HP.out.ct.res.cell 3
   have f3 := HP.out.ct.res.frozen 3
   have hl0 := HP.out.ct.res.lt
   have hl1 := HP.out.ct.bx.lt
   clear HP
   go_wp2
   have t1 := HD.out.2
   refine bodyPost_ret (v := .agg #[.slice Ai ni ci, .slice Ar nr cr, .slice (some ⟨ge, 0, none⟩) nt ct, .slice Ax nx cx]) (by simp [results, Tryz.results36, go_sem, World.cell?, t1]) rfl HD.out.1
 ·rcases Nat.eq_zero_or_pos nx with hz | hz
  ·subst hz
   clear b0 b1 b2 lb lres
   have HD := Lib.hid (HC5.out.done HB0.out (by omega) (by omega))
   dsimp only at HD
   have z0 : W5.cell? ⟨w.heap.size + 3, 0, none⟩ = some (.slice Ai ni ci) := HC5.out.ct.bx.cell 0
   have y0 : W5.cell? ⟨w.heap.size + 1, 0, none⟩ = some (.slice none 0 0) := HC5.out.ct.res.cell 0
   have f0 := HC5.out.ct.res.frozen 0
   have z1 : W5.cell? ⟨w.heap.size + 3, 1, none⟩ = some (.slice Ar nr cr) := HC5.out.ct.bx.cell 1
   have y1 : W5.cell? ⟨w.heap.size + 1, 1, none⟩ = some (.slice none 0 0) := HC5.out.ct.res.cell 1
   have f1 := HC5.out.ct.res.frozen 1
   have z2 : W5.cell? ⟨w.heap.size + 3, 2, none⟩ = some (.slice At nt ct) := HC5.out.ct.bx.cell 2
   have y2 : W5.cell? ⟨w.heap.size + 1, 2, none⟩ = some (.slice none 0 0) := HC5.out.ct.res.cell 2
   have f2 := HC5.out.ct.res.frozen 2
   have z3 : W5.cell? ⟨w.heap.size + 3, 3, none⟩ = some (.slice Ax 0 cx) := HC5.out.ct.bx.cell 3
   have y3 : W5.cell? ⟨w.heap.size + 1, 3, none⟩ = some (.slice none 0 0) := HC5.out.ct.res.cell 3
   have f3 := HC5.out.ct.res.frozen 3
   have hl0 := HC5.out.ct.res.lt
   have hl1 := HC5.out.ct.bx.lt
   clear HC5
   go_wp2
   have t1 := HD.out.2
   refine bodyPost_ret (v := .agg #[.slice Ai ni ci, .slice Ar nr cr, .slice At nt ct, .slice Ax 0 cx]) (by simp [results, Tryz.results36, go_sem, World.cell?, t1]) rfl HD.out.1
  ·have nn2 : (0 : Int) < (nx : Int) := by omega
   have ho := HC5.out.ox
   dsimp only at ho
   rw [Lx.out] at ho
   obtain ⟨ge, ce, hge, _, hgl⟩ := ho.form (by omega)
   cases hge
   obtain ⟨t, tl, htl⟩ : ∃ t tl, taxes = t :: tl := by
    cases h9 : taxes with
    | nil => have := Lx.out; rw [h9] at this; simp at this; omega
    | cons t tl => exact ⟨t, tl, rfl⟩
   subst htl
   have h00 : W5.cell? ⟨ge, 0, none⟩ = some (.string t.name) := by have := own_at0 TxM.len ho (k := 0) (by simp) rfl (by omega) (u := .string t.name) rfl; rw [Nat.zero_mul] at this; exact this
   have h01 : W5.cell? ⟨ge, 1, none⟩ = some (.slice t.sb.A t.sb.n t.sb.c) := by have := own_at TxM.len ho (k := 0) (by simp) rfl 1 (by omega) (u := .slice t.sb.A t.sb.n t.sb.c) rfl; rw [Nat.zero_mul] at this; exact this
   clear ho
   have hbl : t.brs.length ≤ 500 := by
    obtain ⟨c1, _, _, _, _⟩ := code_parts2 HS.out.code
    simp only [limC, Bool.and_eq_true, List.all_eq_true] at c1
    have d1 := c1.2 t (by simp)
    simp only [txLim, decide_eq_true_eq] at d1
    omega
   have HC6 := Lib.hid (HC5.out.below (Below.refl _ _).drew)
   have hok : t.Ok W5.drew := HC6.out.ct.ok.taxes.each t (by simp)
   have KI : Hid (Calls Tryz.prog 85 #[.agg #[.string t.name, .slice t.sb.A t.sb.n t.sb.c], .pointer (some ⟨w.heap.size + 1 + 1, 0, none⟩)] W5.drew (TxB W5.drew (w.heap.size + 1 + 1))) := bracketsBent_g t HC6.out.ct.st.ok hok hbl
   have HO6 : Hid (W5.drew.ownsRow V.heap.size 115 2 (.slice (some ⟨ge, 0, none⟩) nx cx) nx (txcells (t :: tl))) := by have ho := HC6.out.ox; dsimp only at ho; rw [Lx.out] at ho; exact ho
   clear hok
   clear HC5
   go_wp2_with fail
   refine wp_region_X (fun w' => Bk w' (w.heap.size + 3) 28 (catSL ⟨Ai, ni, ci⟩ ⟨Ar, nr, cr⟩ ⟨At, nt, ct⟩ ⟨some ⟨ge, 0, none⟩, nx, cx⟩) ∧ w'.ownsRow V.heap.size 115 2 (.slice (some ⟨ge, 0, none⟩) nx cx) nx (txcells (t :: tl))) 9 (n := 10) rfl (by kernel_rfl) (⟨HC6.out.ct.bx, HO6.out⟩) (fun hS => ?_)
   refine X_take 0 (some 128) (v := ?_) (listed' := #[true, false, false, false, false, false, false, false, false, false]) rfl rfl rfl (by kernel_rfl) (fun _ _ _ h => h) ⟨rfl, ?_⟩ hS ?_
   rotate_left
   ·intro w' hS'
    (go_simp; try with_reducible rfl)
   simp only [Act.put, List.setIfInBounds_toArray, List.set_cons_zero, List.set_cons_succ]
   refine X_take 1 (some 129) (v := ?_) (listed' := #[true, true, false, false, false, false, false, false, false, false]) rfl rfl rfl (by kernel_rfl) (fun _ _ _ h => h) ⟨rfl, ?_⟩ hS ?_
   rotate_left
   ·intro w' hS'
    have e : w'.cell? ⟨w.heap.size + 3, 3, none⟩ = some (.slice (some ⟨ge, 0, none⟩) nx cx) := hS'.1.cell 3
    (go_simp; try with_reducible rfl)
   simp only [Act.put, List.setIfInBounds_toArray, List.set_cons_zero, List.set_cons_succ]
   refine X_take 2 (some 130) (v := ?_) (listed' := #[true, true, true, false, false, false, false, false, false, false]) rfl rfl rfl (by kernel_rfl) (fun _ _ _ h => h) ⟨rfl, ?_⟩ hS ?_
   rotate_left
   ·intro w' hS'
    (go_simp; try with_reducible rfl)
   simp only [Act.put, List.setIfInBounds_toArray, List.set_cons_zero, List.set_cons_succ]
   refine X_take 3 (some 131) (v := ?_) (listed' := #[true, true, true, true, false, false, false, false, false, false]) rfl rfl rfl (by kernel_rfl) (fun _ _ _ h => h) ⟨rfl, ?_⟩ hS ?_
   rotate_left
   ·intro w' hS'
    have e : w'.cell? ⟨w.heap.size + 3, 3, none⟩ = some (.slice (some ⟨ge, 0, none⟩) nx cx) := hS'.1.cell 3
    (go_simp; try with_reducible rfl)
   simp only [Act.put, List.setIfInBounds_toArray, List.set_cons_zero, List.set_cons_succ]
   refine X_take 4 (some 132) (v := ?_) (listed' := #[true, true, true, true, true, false, false, false, false, false]) rfl rfl rfl (by kernel_rfl) (fun _ _ _ h => h) ⟨rfl, ?_⟩ hS ?_
   rotate_left
   ·intro w' hS'
    (go_simp; try with_reducible rfl)
   simp only [Act.put, List.setIfInBounds_toArray, List.set_cons_zero, List.set_cons_succ]
   refine X_take 5 (some 133) (v := ?_) (listed' := #[true, true, true, true, true, true, false, false, false, false]) rfl rfl rfl (by kernel_rfl) (fun _ _ _ h => h) ⟨rfl, ?_⟩ hS ?_
   rotate_left
   ·intro w' hS'
    have e0 : w'.cell? ⟨ge, 0, none⟩ = some (.string t.name) := by have := own_at0 TxM.len hS'.2 (k := 0) (by simp) rfl (by omega) (u := .string t.name) rfl; rw [Nat.zero_mul] at this; exact this
    have e1 : w'.cell? ⟨ge, 1, none⟩ = some (.slice t.sb.A t.sb.n t.sb.c) := by have := own_at TxM.len hS'.2 (k := 0) (by simp) rfl 1 (by omega) (u := .slice t.sb.A t.sb.n t.sb.c) rfl; rw [Nat.zero_mul] at this; exact this
    have el := (hS'.2.lt ge rfl).2
    (go_simp; try with_reducible rfl)
   simp only [Act.put, List.setIfInBounds_toArray, List.set_cons_zero, List.set_cons_succ]
   refine X_take 6 (some 134) (v := ?_) (listed' := #[true, true, true, true, true, true, true, false, false, false]) rfl rfl rfl (by kernel_rfl) (fun _ _ _ h => h) ⟨rfl, ?_⟩ hS ?_
   rotate_left
   ·intro w' hS'
    (go_simp; try with_reducible rfl)
   simp only [Act.put, List.setIfInBounds_toArray, List.set_cons_zero, List.set_cons_succ]
   refine X_one 7 (listed' := #[true, true, true, true, true, true, true, true, false, false]) (by kernel_rfl) rfl rfl (fun K hK => ?_)
   go_simp
   (with_reducible refine KI.out.mono ?_)
   rintro e w7 ⟨t2, rfl, hok2, hs⟩
   have Hok2 := Lib.hid hok2
   have HC7 := Lib.hid (HC6.out.next hs)
   have HO7 : Hid (w7.ownsRow V.heap.size 115 2 (.slice (some ⟨ge, 0, none⟩) nx cx) nx (txcells (t :: tl))) := by have ho := HC7.out.ox; dsimp only at ho; rw [Lx.out] at ho; exact ho
   refine hK _ _ ⟨HC7.out.ct.bx, HO7.out⟩ ?_
   clear hs hK hok2
   refine X_one 8 (listed' := #[true, true, true, true, true, true, true, true, true, false]) (by kernel_rfl) rfl rfl (fun K hK => ?_)
   go_simp
   refine hK _ _ ⟨HC7.out.ct.bx, HO7.out⟩ ?_
   clear hK
   refine X_tail (by kernel_rfl) ?_
   refine A_one 9 (listed' := #[true, true, true, true, true, true, true, true, true, true]) (by kernel_rfl) rfl rfl (fun K hK => ?_)
   have hgr : w7.grownBy ((w7.setCell ⟨ge, 0, none⟩ (.string t2.name)).setCell ⟨ge, 1, none⟩ (.slice t2.sb.A t2.sb.n t2.sb.c)) (some ge) := grown2 (grown_setCell w7 ge 0 (.string t2.name)) (grown_setCell _ ge 1 (.slice t2.sb.A t2.sb.n t2.sb.c))
   have hst : ((w7.setCell ⟨ge, 0, none⟩ (.string t2.name)).setCell ⟨ge, 1, none⟩ (.slice t2.sb.A t2.sb.n t2.sb.c)).ownsRow V.heap.size 115 2 (.slice (some ⟨ge, 0, none⟩) nx cx) nx (txcells (t2 :: tl)) := by rw [txcells_set0 t tl t2]; exact ((HO7.out.stored 0 (.string t2.name)).1.stored 1 (.slice t2.sb.A t2.sb.n t2.sb.c)).1
   have hkk : ∀ q, (115 : TypeId) ≠ q → Keep q w7 ((w7.setCell ⟨ge, 0, none⟩ (.string t2.name)).setCell ⟨ge, 1, none⟩ (.slice t2.sb.A t2.sb.n t2.sb.c)) := fun q hq => Keep.own HO7.out hgr hq
   have HP : Hid (CtO V ((w7.setCell ⟨ge, 0, none⟩ (.string t2.name)).setCell ⟨ge, 1, none⟩ (.slice t2.sb.A t2.sb.n t2.sb.c)) (w.heap.size + 1 + 1) (w.heap.size + 1) (w.heap.size + 3) 4 ⟨items, rules, tables, t2 :: tl, ⟨Ai, ni, ci⟩, ⟨Ar, nr, cr⟩, ⟨At, nt, ct⟩, ⟨some ⟨ge, 0, none⟩, nx, cx⟩⟩) := HC7.out.inX (l := t2 :: tl) hgr (by dsimp only; rw [Lx.out]; exact hst) (by simp) (fun y hy => by
    rcases List.mem_cons.1 hy with h1 | h1
    ·rw [h1]; exact Hok2.out.keeps (hkk 129 (by decide))
    ·exact (HC7.out.ct.ok.taxes.each y (List.mem_cons_of_mem _ h1)).keeps (hkk 129 (by decide)))
   clear hgr hst hkk
   have e0 : w7.cell? ⟨ge, 0, none⟩ = some (.string t.name) := by have := own_at0 TxM.len HO7.out (k := 0) (by simp) rfl (by omega) (u := .string t.name) rfl; rw [Nat.zero_mul] at this; exact this
   have e1 : w7.cell? ⟨ge, 1, none⟩ = some (.slice t.sb.A t.sb.n t.sb.c) := by have := own_at TxM.len HO7.out (k := 0) (by simp) rfl 1 (by omega) (u := .slice t.sb.A t.sb.n t.sb.c) rfl; rw [Nat.zero_mul] at this; exact this
   have el := (HO7.out.lt ge rfl).2
   have g0 := HO7.out.frozenAt 0
   have g1 := HO7.out.frozenAt 1
   go_simp
   refine hK _ _ ?_
   clear hK
   refine A_done (by kernel_rfl) ?_
   generalize ((w7.setCell ⟨ge, 0, none⟩ (.string t2.name)).setCell ⟨ge, 1, none⟩ (.slice t2.sb.A t2.sb.n t2.sb.c)) = W8 at HP ⊢
   clear e0 e1 el g0 g1 HO7 HO6 HC7 HC6 KI h00 h01 b0 b1 b2 b3 lb lres
   have HD := Lib.hid (HP.out.done HB0.out (by omega) (by omega))
   dsimp only at HD
   have z0 : W8.cell? ⟨w.heap.size + 3, 0, none⟩ = some (.slice Ai ni ci) := HP.out.ct.bx.cell 0
   have y0 : W8.cell? ⟨w.heap.size + 1, 0, none⟩ = some (.slice none 0 0) := HP.out.ct.res.cell 0
   have f0 := HP.out.ct.res.frozen 0
   have z1 : W8.cell? ⟨w.heap.size + 3, 1, none⟩ = some (.slice Ar nr cr) := HP.out.ct.bx.cell 1
   have y1 : W8.cell? ⟨w.heap.size + 1, 1, none⟩ = some (.slice none 0 0) := HP.out.ct.res.cell 1
   have f1 := HP.out.ct.res.frozen 1
   have z2 : W8.cell? ⟨w.heap.size + 3, 2, none⟩ = some (.slice At nt ct) := HP.out.ct.bx.cell 2
   have y2 : W8.cell? ⟨w.heap.size + 1, 2, none⟩ = some (.slice none 0 0) := HP.out.ct.res.cell 2
   have f2 := HP.out.ct.res.frozen 2
   have z3 : W8.cell? ⟨w.heap.size + 3, 3, none⟩ = some (.slice (some ⟨ge, 0, none⟩) nx cx) := HP.out.ct.bx.cell 3
   have y3 : W8.cell? ⟨w.heap.size + 1, 3, none⟩ = some (.slice none 0 0) := HP.out.ct.res.cell 3
   have f3 := HP.out.ct.res.frozen 3
   have hl0 := HP.out.ct.res.lt
   have hl1 := HP.out.ct.bx.lt
   clear HP
   go_wp2
   have t1 := HD.out.2
   refine bodyPost_ret (v := .agg #[.slice Ai ni ci, .slice Ar nr cr, .slice At nt ct, .slice (some ⟨ge, 0, none⟩) nx cx]) (by simp [results, Tryz.results36, go_sem, World.cell?, t1]) rfl HD.out.1
 ·clear b0 b1 b2 b3 lb lres
  clear Li Lr Lt Lx HS
  go_wp2_with fail
  (with_reducible refine (next_g 4 HC5.out.ct.st.ok (by omega) (by omega)).mono ?_)
  rintro e w6 ⟨gq, rfl, gq0, gq1, hs⟩
  have HC6 := Lib.hid (HC5.out.next hs)
  clear hs HC5
  go_wp2_with fail
  (with_reducible refine (next_g 70 HC6.out.ct.st.ok (by omega) (by omega)).mono ?_)
  rintro e w7 ⟨y, rfl, y0, y1, hs⟩
  obtain ⟨k1, rfl⟩ := Int.eq_ofNat_of_zero_le y0
  have HC7 := Lib.hid (HC6.out.next hs)
  clear hs HC6
  go_wp2_with fail
  go_loopw [11] (fun x wr => ∃ (k : Nat) (m : CatM), x = .int .i64 k ∧ k ≤ 69 ∧ m.si.n + k ≤ 100 ∧ m.sr.n + k ≤ 100 ∧ m.st.n + k ≤ 100 ∧ m.sx.n + k ≤ 100 ∧ CtO V wr (w.heap.size + 1 + 1) (w.heap.size + 1) (w.heap.size + 3) 4 m) (fun x _ => (intOf x).toNat)
  case atStart => exact ⟨k1, _, rfl, by omega, by dsimp only; omega, by dsimp only; omega, by dsimp only; omega, by dsimp only; omega, HC7.out⟩
  case round =>
   clear HC7 bi br bt bx nn0 nn1
   obtain ⟨k, ⟨items, rules, tables, taxes, ⟨Ai, ni, ci⟩, ⟨Ar, nr, cr⟩, ⟨At, nt, ct⟩, ⟨Ax, nx, cx⟩⟩, rfl, hk69, hb1, hb2, hb3, hb4, hC⟩ := hrel
   dsimp only at hb1 hb2 hb3 hb4
   have li : items.length = ni := hC.ct.ok.items.len.symm
   have lr : rules.length = nr := hC.ct.ok.rules.len.symm
   have lt : tables.length = nt := hC.ct.ok.tables.len.symm
   have lx : taxes.length = nx := hC.ct.ok.taxes.len.symm
   have Li := Lib.hid li
   have Lr := Lib.hid lr
   have Lt := Lib.hid lt
   have Lx := Lib.hid lx
   have HC := Lib.hid hC
   clear hC li lr lt lx
   by_cases hk : 0 < k
   ·go_wp2_with fail
    (with_reducible refine (decimal_small k (by omega) (by omega) _).mono ?_)
    rintro e w8 ⟨sd, rfl, hsd, rfl⟩
    obtain ⟨nm, hnm⟩ : ∃ nm, (⟨#[110]⟩ : ByteArray) ++ sd = nm := ⟨_, rfl⟩
    have hns : nm.size ≤ 8192 := by rw [← hnm, ByteArray.size_append]; show 1 + sd.size ≤ 8192; omega
    have Hnm := Lib.hid hnm
    clear hnm
    have lb := HC.out.ct.bx.lt
    have b0 : wr.cell? ⟨w.heap.size + 3, 0, none⟩ = some (.slice Ai ni ci) := HC.out.ct.bx.cell 0
    have b1 : wr.cell? ⟨w.heap.size + 3, 1, none⟩ = some (.slice Ar nr cr) := HC.out.ct.bx.cell 1
    have b2 : wr.cell? ⟨w.heap.size + 3, 2, none⟩ = some (.slice At nt ct) := HC.out.ct.bx.cell 2
    have b3 : wr.cell? ⟨w.heap.size + 3, 3, none⟩ = some (.slice Ax nx cx) := HC.out.ct.bx.cell 3
    have hnm := Hnm.out
    rcases (show gq = 0 ∨ gq = 1 ∨ gq = 2 ∨ gq = 3 by omega) with rfl | rfl | rfl | rfl
    ·have HC9 := Lib.hid (HC.out.below ((Below.refl _ _).alloc (Nat.le_refl _) (.cells #[.string nm, .bool false, .bool false, .bool false, .int .i64 0, .int .i64 0, .int .i64 0] 89)))
     have hsz9 := HC9.out.ct.st.size
     have HO9 : Hid ((wr.alloc (.cells #[.string nm, .bool false, .bool false, .bool false, .int .i64 0, .int .i64 0, .int .i64 0] 89)).ownsRow (w.heap.size + 3) 89 7 (.slice Ai ni ci) ni (icells items)) := by have ho := HC9.out.oi; dsimp only at ho; rw [Li.out, hVs] at ho; exact ho
     rw [hVs] at hsz9
     clear HC
     go_wp2_with (at_builtin; refine wpList_append_lies _ rfl (.tmp 154) (.tmp 157) 23 rfl (w.heap.size + 3) 89 i89 (.agg #[.string ⟨#[]⟩, .bool false, .bool false, .bool false, .int .i64 0, .int .i64 0, .int .i64 0]) 7 48 Tryz.underlying23 hi89 x0 x1 x2 rfl (by decide) _ ni (icells items) rfl HO9.out ⟨wr.heap.size, 0, none⟩ 1 1 [.string nm, .bool false, .bool false, .bool false, .int .i64 0, .int .i64 0, .int .i64 0] rfl rfl (new7 _ _ _ _ _ _ _ _ _) (one7 (⟨nm, false, false, false, 0, 0, 0⟩ : It)) (by omega) (by unfold maxLen; omega) (by omega) hsz9 (wr.heap.size + 1) (by simp) ?_)
     intro g' cap w8 hown8 hgr8 _ _
     rw [← hVs] at hown8
     rw [show icells items ++ [.string nm, .bool false, .bool false, .bool false, .int .i64 0, .int .i64 0, .int .i64 0] = icells (items ++ [(⟨nm, false, false, false, 0, 0, 0⟩ : It)]) from (icells_snoc items (⟨nm, false, false, false, 0, 0, 0⟩ : It)).symm] at hown8
     obtain ⟨B8, C9⟩ := HC9.out.addI hgr8 hown8 (by dsimp only; rw [Li.out]) (by omega) (hns)
     have z8 : w8.cell? ⟨w.heap.size + 3, 0, none⟩ = some (.slice Ai ni ci) := B8.cell 0
     have f8 := B8.frozen 0
     have l8 := B8.lt
     have H9 := Lib.hid C9
     clear hown8 hgr8 B8 C9 HC9 HO9
     go_wp2
     go_roundw
     case rel => exact ⟨k - 1, _, by go_num, by omega, by dsimp only; omega, by dsimp only; omega, by dsimp only; omega, by dsimp only; omega, H9.out⟩
     case measure => simp [intOf]; omega
    ·have HC9 := Lib.hid (HC.out.below ((Below.refl _ _).alloc (Nat.le_refl _) (.cells #[.string nm, .bool false, .int .i64 0, .int .i64 1, .int .i64 1, .int .i64 1, .slice none 0 0, .slice none 0 0, .slice none 0 0] 103)))
     have hsz9 := HC9.out.ct.st.size
     have HO9 : Hid ((wr.alloc (.cells #[.string nm, .bool false, .int .i64 0, .int .i64 1, .int .i64 1, .int .i64 1, .slice none 0 0, .slice none 0 0, .slice none 0 0] 103)).ownsRow (w.heap.size + 3) 103 9 (.slice Ar nr cr) nr (rucells rules)) := by have ho := HC9.out.or_; dsimp only at ho; rw [Lr.out, hVs] at ho; exact ho
     rw [hVs] at hsz9
     clear HC
     go_wp2_with (at_builtin; refine wpList_append_lies _ rfl (.tmp 163) (.tmp 166) 24 rfl (w.heap.size + 3) 103 i103 (.agg #[.string ⟨#[]⟩, .bool false, .int .i64 0, .int .i64 0, .int .i64 0, .int .i64 0, .slice none 0 0, .slice none 0 0, .slice none 0 0]) 9 128 Tryz.underlying24 hi103 u0 u1 u2 rfl (by decide) _ nr (rucells rules) rfl HO9.out ⟨wr.heap.size, 0, none⟩ 1 1 [.string nm, .bool false, .int .i64 0, .int .i64 1, .int .i64 1, .int .i64 1, .slice none 0 0, .slice none 0 0, .slice none 0 0] rfl rfl (new9 _ _ _ _ _ _ _ _ _ _ _) (one9 (⟨nm, false, 0, 1, 1, 1, [], [], [], sl0, sl0, sl0⟩ : RuM)) (by omega) (by unfold maxLen; omega) (by omega) hsz9 (wr.heap.size + 1) (by simp) ?_)
     intro g' cap w8 hown8 hgr8 _ _
     rw [← hVs] at hown8
     rw [show rucells rules ++ [.string nm, .bool false, .int .i64 0, .int .i64 1, .int .i64 1, .int .i64 1, .slice none 0 0, .slice none 0 0, .slice none 0 0] = rucells (rules ++ [(⟨nm, false, 0, 1, 1, 1, [], [], [], sl0, sl0, sl0⟩ : RuM)]) from (rucells_snoc rules (⟨nm, false, 0, 1, 1, 1, [], [], [], sl0, sl0, sl0⟩ : RuM)).symm] at hown8
     obtain ⟨B8, C9⟩ := HC9.out.addR hgr8 hown8 (by dsimp only; rw [Lr.out]) (by omega) (⟨⟨.inl rfl, rfl, by simp, by simp⟩, ⟨.inl rfl, rfl, by simp, by simp⟩, ⟨.inl rfl, rfl, by simp, by simp⟩, hns⟩) (⟨by simp, by simp, by simp⟩)
     have z8 : w8.cell? ⟨w.heap.size + 3, 1, none⟩ = some (.slice Ar nr cr) := B8.cell 1
     have f8 := B8.frozen 1
     have l8 := B8.lt
     have H9 := Lib.hid C9
     clear hown8 hgr8 B8 C9 HC9 HO9
     go_wp2
     go_roundw
     case rel => exact ⟨k - 1, _, by go_num, by omega, by dsimp only; omega, by dsimp only; omega, by dsimp only; omega, by dsimp only; omega, H9.out⟩
     case measure => simp [intOf]; omega
    ·have HC9 := Lib.hid (HC.out.below (((Below.refl _ _).alloc (Nat.le_refl _) (.cells #[.int .i64 1, .slice none 0 0] 109)).alloc (by simp) (.cells #[.string nm, .slice (some ⟨wr.heap.size, 0, none⟩) 1 1] 107)))
     have hsz9 := HC9.out.ct.st.size
     have HO9 : Hid (((wr.alloc (.cells #[.int .i64 1, .slice none 0 0] 109)).alloc (.cells #[.string nm, .slice (some ⟨wr.heap.size, 0, none⟩) 1 1] 107)).ownsRow (w.heap.size + 3) 107 2 (.slice At nt ct) nt (tbcells tables)) := by have ho := HC9.out.ot; dsimp only at ho; rw [Lt.out, hVs] at ho; exact ho
     rw [hVs] at hsz9
     clear HC
     have Hnew : Hid (∀ j u, ([.string nm, .slice (some ⟨wr.heap.size, 0, none⟩) 1 1] : List Value)[j]? = some u → ((wr.alloc (.cells #[.int .i64 1, .slice none 0 0] 109)).alloc (.cells #[.string nm, .slice (some ⟨wr.heap.size, 0, none⟩) 1 1] 107)).cell? ((⟨wr.heap.size + 1, 0, none⟩ : Addr).add j) = some u) := by have h9 := new2 (wr.alloc (.cells #[.int .i64 1, .slice none 0 0] 109)) 107 (.string nm) (.slice (some ⟨wr.heap.size, 0, none⟩) 1 1); rw [World.size_alloc] at h9; exact h9
     go_wp2_with (at_builtin; refine wpList_append_lies _ rfl (.tmp 172) (.tmp 177) 25 rfl (w.heap.size + 3) 107 i107 (.agg #[.string ⟨#[]⟩, .slice none 0 0]) 2 40 Tryz.underlying25 hi107 p0 p1 p2 rfl (by decide) _ nt (tbcells tables) rfl HO9.out ⟨wr.heap.size + 1, 0, none⟩ 1 1 [.string nm, .slice (some ⟨wr.heap.size, 0, none⟩) 1 1] rfl rfl (Hnew.out) (one2s _ _ _ _ rfl) (by omega) (by unfold maxLen; omega) (by omega) hsz9 (wr.heap.size + 1 + 1) (by simp) ?_)
     intro g' cap w8 hown8 hgr8 _ _
     rw [← hVs] at hown8
     rw [show tbcells tables ++ [.string nm, .slice (some ⟨wr.heap.size, 0, none⟩) 1 1] = tbcells (tables ++ [(⟨nm, [⟨1, [], sl0⟩], ⟨some ⟨wr.heap.size, 0, none⟩, 1, 1⟩⟩ : TbM)]) from (tbcells_snoc tables (⟨nm, [⟨1, [], sl0⟩], ⟨some ⟨wr.heap.size, 0, none⟩, 1, 1⟩⟩ : TbM)).symm] at hown8
     have hok9 : TbM.Ok w8 (⟨nm, [⟨1, [], sl0⟩], ⟨some ⟨wr.heap.size, 0, none⟩, 1, 1⟩⟩ : TbM) := by
      have k9 : Bk w8 wr.heap.size 109 [.int .i64 1, .slice none 0 0] := ((Bk.new wr 109 [.int .i64 1, .slice none 0 0]).alloc _).grown hgr8 (fun e => by have h9 := row_neT HC9.out.ot ((Bk.new wr 109 [.int .i64 1, .slice none 0 0]).alloc (.cells #[.string nm, .slice (some ⟨wr.heap.size, 0, none⟩) 1 1] 107)) (by decide); exact h9 e.symm)
      exact ⟨⟨.inr ⟨wr.heap.size, 0, _, _, rfl, k9, fun j u hu => by simpa using hu⟩, rfl, by simp, fun r hr => by rw [List.mem_singleton.1 hr]; exact ⟨.inl rfl, rfl, by simp, by simp⟩⟩, hns⟩
     obtain ⟨B8, C9⟩ := HC9.out.addT hgr8 hown8 (by dsimp only; rw [Lt.out]) (by omega) (hok9) (fun r hr => by rw [List.mem_singleton.1 hr]; simp)
     have z8 : w8.cell? ⟨w.heap.size + 3, 2, none⟩ = some (.slice At nt ct) := B8.cell 2
     have f8 := B8.frozen 2
     have l8 := B8.lt
     have H9 := Lib.hid C9
     clear hown8 hgr8 B8 C9 HC9 HO9
     go_wp2
     go_roundw
     case rel => exact ⟨k - 1, _, by go_num, by omega, by dsimp only; omega, by dsimp only; omega, by dsimp only; omega, by dsimp only; omega, H9.out⟩
     case measure => simp [intOf]; omega
    ·have HC9 := Lib.hid (HC.out.below (((Below.refl _ _).alloc (Nat.le_refl _) (.cells #[.int .i64 0, .int .i64 0] 129)).alloc (by simp) (.cells #[.string nm, .slice (some ⟨wr.heap.size, 0, none⟩) 1 1] 115)))
     have hsz9 := HC9.out.ct.st.size
     have HO9 : Hid (((wr.alloc (.cells #[.int .i64 0, .int .i64 0] 129)).alloc (.cells #[.string nm, .slice (some ⟨wr.heap.size, 0, none⟩) 1 1] 115)).ownsRow (w.heap.size + 3) 115 2 (.slice Ax nx cx) nx (txcells taxes)) := by have ho := HC9.out.ox; dsimp only at ho; rw [Lx.out, hVs] at ho; exact ho
     rw [hVs] at hsz9
     clear HC
     have Hnew : Hid (∀ j u, ([.string nm, .slice (some ⟨wr.heap.size, 0, none⟩) 1 1] : List Value)[j]? = some u → ((wr.alloc (.cells #[.int .i64 0, .int .i64 0] 129)).alloc (.cells #[.string nm, .slice (some ⟨wr.heap.size, 0, none⟩) 1 1] 115)).cell? ((⟨wr.heap.size + 1, 0, none⟩ : Addr).add j) = some u) := by have h9 := new2 (wr.alloc (.cells #[.int .i64 0, .int .i64 0] 129)) 115 (.string nm) (.slice (some ⟨wr.heap.size, 0, none⟩) 1 1); rw [World.size_alloc] at h9; exact h9
     go_wp2_with (at_builtin; refine wpList_append_lies _ rfl (.tmp 183) (.tmp 188) 26 rfl (w.heap.size + 3) 115 i115 (.agg #[.string ⟨#[]⟩, .slice none 0 0]) 2 40 Tryz.underlying26 hi115 q0 q1 q2 rfl (by decide) _ nx (txcells taxes) rfl HO9.out ⟨wr.heap.size + 1, 0, none⟩ 1 1 [.string nm, .slice (some ⟨wr.heap.size, 0, none⟩) 1 1] rfl rfl (Hnew.out) (one2s _ _ _ _ rfl) (by omega) (by unfold maxLen; omega) (by omega) hsz9 (wr.heap.size + 1 + 1) (by simp) ?_)
     intro g' cap w8 hown8 hgr8 _ _
     rw [← hVs] at hown8
     rw [show txcells taxes ++ [.string nm, .slice (some ⟨wr.heap.size, 0, none⟩) 1 1] = txcells (taxes ++ [(⟨nm, [(0, 0)], ⟨some ⟨wr.heap.size, 0, none⟩, 1, 1⟩⟩ : TxM)]) from (txcells_snoc taxes (⟨nm, [(0, 0)], ⟨some ⟨wr.heap.size, 0, none⟩, 1, 1⟩⟩ : TxM)).symm] at hown8
     have hok9 : TxM.Ok w8 (⟨nm, [(0, 0)], ⟨some ⟨wr.heap.size, 0, none⟩, 1, 1⟩⟩ : TxM) := by
      have k9 : Bk w8 wr.heap.size 129 [.int .i64 0, .int .i64 0] := ((Bk.new wr 129 [.int .i64 0, .int .i64 0]).alloc _).grown hgr8 (fun e => by have h9 := row_neT HC9.out.ox ((Bk.new wr 129 [.int .i64 0, .int .i64 0]).alloc (.cells #[.string nm, .slice (some ⟨wr.heap.size, 0, none⟩) 1 1] 115)) (by decide); exact h9 e.symm)
      exact ⟨⟨.inr ⟨wr.heap.size, 0, _, _, rfl, k9, fun j u hu => by simpa [pcells] using hu⟩, rfl, by simp, fun p hp => by rw [List.mem_singleton.1 hp]; omega⟩, hns⟩
     obtain ⟨B8, C9⟩ := HC9.out.addX hgr8 hown8 (by dsimp only; rw [Lx.out]) (by omega) (hok9)
     have z8 : w8.cell? ⟨w.heap.size + 3, 3, none⟩ = some (.slice Ax nx cx) := B8.cell 3
     have f8 := B8.frozen 3
     have l8 := B8.lt
     have H9 := Lib.hid C9
     clear hown8 hgr8 B8 C9 HC9 HO9
     go_wp2
     go_roundw
     case rel => exact ⟨k - 1, _, by go_num, by omega, by dsimp only; omega, by dsimp only; omega, by dsimp only; omega, by dsimp only; omega, H9.out⟩
     case measure => simp [intOf]; omega
   ·obtain rfl : k = 0 := by omega
    obtain ⟨W8, hW⟩ : ∃ W8, wr = W8 := ⟨_, rfl⟩
    rw [hW] at HC ⊢
    clear hW
    have HD := Lib.hid (HC.out.done HB0.out (by omega) (by omega))
    dsimp only at HD
    have z0 : W8.cell? ⟨w.heap.size + 3, 0, none⟩ = some (.slice Ai ni ci) := HC.out.ct.bx.cell 0
    have y0 : W8.cell? ⟨w.heap.size + 1, 0, none⟩ = some (.slice none 0 0) := HC.out.ct.res.cell 0
    have f0 := HC.out.ct.res.frozen 0
    have z1 : W8.cell? ⟨w.heap.size + 3, 1, none⟩ = some (.slice Ar nr cr) := HC.out.ct.bx.cell 1
    have y1 : W8.cell? ⟨w.heap.size + 1, 1, none⟩ = some (.slice none 0 0) := HC.out.ct.res.cell 1
    have f1 := HC.out.ct.res.frozen 1
    have z2 : W8.cell? ⟨w.heap.size + 3, 2, none⟩ = some (.slice At nt ct) := HC.out.ct.bx.cell 2
    have y2 : W8.cell? ⟨w.heap.size + 1, 2, none⟩ = some (.slice none 0 0) := HC.out.ct.res.cell 2
    have f2 := HC.out.ct.res.frozen 2
    have z3 : W8.cell? ⟨w.heap.size + 3, 3, none⟩ = some (.slice Ax nx cx) := HC.out.ct.bx.cell 3
    have y3 : W8.cell? ⟨w.heap.size + 1, 3, none⟩ = some (.slice none 0 0) := HC.out.ct.res.cell 3
    have f3 := HC.out.ct.res.frozen 3
    have hl0 := HC.out.ct.res.lt
    have hl1 := HC.out.ct.bx.lt
    clear HC
    go_wp2
    have t1 := HD.out.2
    refine bodyPost_ret (v := .agg #[.slice Ai ni ci, .slice Ar nr cr, .slice At nt ct, .slice Ax nx cx]) (by simp [results, Tryz.results36, go_sem, World.cell?, t1]) rfl HD.out.1
end Go.Proofs.YthjfdfdgbpbanaaGreatDoor
