/- MarkMatches: the walk. -/
import Derived.Test.YtocodlpgaamblaaGreatDoorM19
set_option linter.unusedVariables false
set_option linter.unusedSimpArgs false
open Go.RowKit
namespace Go.Proofs.YtocodlpgaamblaaGreatDoor
/-- A row of marks. -/
structure MksV (w : World) (A : Option Addr) (Ms : List MkM) : Prop where
 row : TRow w 35 A (mcells Ms)
 each : ∀ M ∈ Ms, M.Ok w 35 (fun _ => True)
theorem MksV.below {w w' : World} {A : Option Addr} {Ms : List MkM} (h : MksV w A Ms) (hb : Below w.heap.size w w') : MksV w' A Ms := ⟨h.row.keep (.below hb), fun M hM => (h.each M hM).bel hb⟩
theorem MksV.at_ {w : World} {A : Option Addr} {Ms : List MkM} (h : MksV w A Ms) (k : Nat) (hk : k < Ms.length) : ∃ b off, A = some ⟨b, off, none⟩ ∧ b < w.heap.size ∧ ∀ r u, (Ms[k]).cells[r]? = some u → w.cell? ⟨b, off + k * 4 + r, none⟩ = some u :=
 TRow.at_ (f := MkM.cells) MkM.cells_len h.row k hk (by omega)
set_option maxRecDepth 100000 in
set_option maxHeartbeats 8000000 in
theorem matches_walk {W : World} {A0 A1 A2 : Option Addr} {n0 n1 n2 : Nat} (c0 c1 c2 : Nat) {z0 z1 z2 : List Int} {at_ which v : Int} (h0 : IntsV W A0 n0 z0) (h1 : IntsV W A1 n1 z1) (h2 : IntsV W A2 n2 z2)
 (f0 : ∀ b off, A0 = some ⟨b, off, none⟩ → b < W.heap.size) (f1 : ∀ b off, A1 = some ⟨b, off, none⟩ → b < W.heap.size) (f2 : ∀ b off, A2 = some ⟨b, off, none⟩ → b < W.heap.size) (hat0 : In64 at_) (hw0 : In64 which) (hv0 : In64 v) (hT : Tab W) (hP : TabP W) :
 Calls Tryz.prog 7 #[.slice A0 n0 c0, .slice A1 n1 c1, .slice A2 n2 c2, .int .i64 at_, .int .i64 which, .int .i64 v] W fun e w' => e = .returned (.bool true) ∧ Below W.heap.size W w' := by
 have hneq := neqB
 have KC := Lib.hid (Catalog_g c0 h0 f0)
 have H1 := Lib.hid h1
 have H2' := Lib.hid h2
 have F1 := Lib.hid f1
 have F2 := Lib.hid f2
 have hat := Lib.hid hat0
 have hw := Lib.hid hw0
 have hv := Lib.hid hv0
 have HTB := Lib.hid hT
 have HPB := Lib.hid hP
 clear h0 h1 h2 f0 f1 f2 hT hP hat0 hw0 hv0
 go_enter Tryz.func7, Tryz.ntmps7
 go_wp2_with fail
 refine KC.out.mono ?_
 rintro e w1 ⟨m, rfl, hm, hsm, hb⟩
 have hsi : (1 : Int) ≤ m.si.n := by have := hm.items.len; have := hsm.items.1; omega
 have hsr : (1 : Int) ≤ m.sr.n := by have := hm.rules.len; have := hsm.rules.1; omega
 have hsi2 : (m.si.n : Int) ≤ 1000000 := by have := hm.items.small; omega
 have hsr2 : (m.sr.n : Int) ≤ 1000000 := by have := hm.rules.small; omega
 have HB1 := Lib.hid hb
 have KM := Lib.hid (make_any (c := c1) (st := m.st) (sx := m.sx) hsi hsr hsi2 hsr2 (H1.out.below HB1.out) (fun b off e => Nat.lt_of_lt_of_le (F1.out b off e) HB1.out.size))
 clear KC hm hsm hb
 go_wp2_with fail
 refine KM.out.mono ?_
 rintro e w2 ⟨X, rfl, hok, hsz, hfan, hb⟩
 have hb2 := HB1.out.trans (hb.mono HB1.out.size)
 have yX : Below w2.heap.size w2 (w2.alloc (.cells #[.string X.op, .int .i64 X.a, .int .i64 X.b, .slice X.s.A X.s.n X.s.c] 35)) := (Below.refl _ _).alloc (Nat.le_refl _) _
 have HBX := Lib.hid (hb2.trans (yX.mono hb2.size))
 have BXX := Lib.hid (Bk.new w2 35 [.string X.op, .int .i64 X.a, .int .i64 X.b, .slice X.s.A X.s.n X.s.c])
 have OX : Hid (∀ U, Below w2.heap.size w2 U → X.Ok U 35 (fun b => b < w2.heap.size)) := Lib.hid fun U hU => (hok.lt.mono fun b _ hb => hb.2).bel hU
 have FX := Lib.hid hfan
 have SX := Lib.hid hsz
 have KB := Lib.hid (bent_any X (w2.alloc (.cells #[.string X.op, .int .i64 X.a, .int .i64 X.b, .slice X.s.A X.s.n X.s.c] 35)) (fun b => b < w2.heap.size) 3 at_ which v (OX.out _ yX) (fun b hb => by simp; omega) hfan ⟨by decide, by decide⟩ (by omega) hat.out hw.out hv.out)
 have x0 : (w2.alloc (.cells #[.string X.op, .int .i64 X.a, .int .i64 X.b, .slice X.s.A X.s.n X.s.c] 35)).cell? ⟨w2.heap.size, 0, none⟩ = some (.string X.op) := BXX.out.cell 0
 have x1 : (w2.alloc (.cells #[.string X.op, .int .i64 X.a, .int .i64 X.b, .slice X.s.A X.s.n X.s.c] 35)).cell? ⟨w2.heap.size, 1, none⟩ = some (.int .i64 X.a) := BXX.out.cell 1
 have x2 : (w2.alloc (.cells #[.string X.op, .int .i64 X.a, .int .i64 X.b, .slice X.s.A X.s.n X.s.c] 35)).cell? ⟨w2.heap.size, 2, none⟩ = some (.int .i64 X.b) := BXX.out.cell 2
 have x3 : (w2.alloc (.cells #[.string X.op, .int .i64 X.a, .int .i64 X.b, .slice X.s.A X.s.n X.s.c] 35)).cell? ⟨w2.heap.size, 3, none⟩ = some (.slice X.s.A X.s.n X.s.c) := BXX.out.cell 3
 clear KM hok hsz hfan hb hb2 yX
 go_wp2_with fail
 refine KB.out.mono ?_
 rintro e w3 ⟨Y, rfl, hok, hsz, hfan, hb⟩
 have BXX3 := Lib.hid (BXX.out.below hb BXX.out.lt)
 have hb3 := HBX.out.trans (hb.mono HBX.out.size)
 have yxw : Below w2.heap.size w2 w3 := ((Below.refl w2.heap.size w2).alloc (Nat.le_refl _) (.cells #[.string X.op, .int .i64 X.a, .int .i64 X.b, .slice X.s.A X.s.n X.s.c] 35)).trans (hb.mono (by simp))
 have hlt3 : w2.heap.size < w3.heap.size := BXX3.out.lt
 have yY : Below w3.heap.size w3 (w3.alloc (.cells #[.string Y.op, .int .i64 Y.a, .int .i64 Y.b, .slice Y.s.A Y.s.n Y.s.c] 35)) := (Below.refl _ _).alloc (Nat.le_refl _) _
 have HBY := Lib.hid (hb3.trans (yY.mono hb3.size))
 have BXY := Lib.hid (Bk.new w3 35 [.string Y.op, .int .i64 Y.a, .int .i64 Y.b, .slice Y.s.A Y.s.n Y.s.c])
 have BXX4 := Lib.hid (BXX3.out.below yY BXX3.out.lt)
 have OX3 : Hid (∀ U, Below w3.heap.size w3 U → X.Ok U 35 (fun b => b < w3.heap.size)) := Lib.hid fun U hU => (OX.out _ (yxw.trans (hU.mono yxw.size))).mono fun b _ hb => by omega
 have OY : Hid (∀ U, Below w3.heap.size w3 U → Y.Ok U 35 (fun b => b < w3.heap.size)) := Lib.hid fun U hU => (hok.lt.mono fun b _ hb => hb.2).bel hU
 have FY := Lib.hid hfan
 have SY : Hid (Y.core.size ≤ 1344) := Lib.hid (by have := SX.out; omega)
 clear KB hok hsz hfan hb hb3 yxw BXX BXX3 OX HBX yY x0 x1 x2 x3
 go_wp2
 refine wp_region_X (fun w' => Bk w' w2.heap.size 35 [.string X.op, .int .i64 X.a, .int .i64 X.b, .slice X.s.A X.s.n X.s.c] ∧ Bk w' w3.heap.size 35 [.string Y.op, .int .i64 Y.a, .int .i64 Y.b, .slice Y.s.A Y.s.n Y.s.c]) 12 (n := 12) rfl (by kernel_rfl) (⟨BXX4.out.drew, BXY.out.drew⟩) (fun hS => ?_)
 refine X_takeU 0 (some 28) (v := ?_) (listed' := #[true, false, false, false, false, false, false, false, false, false, false, false]) rfl rfl rfl (by kernel_rfl) rfl (fun _ _ _ h => h) ⟨rfl, ?_⟩ hS ?_
 rotate_left
 ·intro w' hS'
  have e0 : w'.cell? ⟨w2.heap.size, 0, none⟩ = some (.string X.op) := hS'.1.cell 0
  have e1 : w'.cell? ⟨w2.heap.size, 1, none⟩ = some (.int .i64 X.a) := hS'.1.cell 1
  have e2 : w'.cell? ⟨w2.heap.size, 2, none⟩ = some (.int .i64 X.b) := hS'.1.cell 2
  have e3 : w'.cell? ⟨w2.heap.size, 3, none⟩ = some (.slice X.s.A X.s.n X.s.c) := hS'.1.cell 3
  have el := hS'.1.lt
  (go_simp; try with_reducible rfl)
 simp only [Act.put, List.setIfInBounds_toArray, List.set_cons_zero, List.set_cons_succ]
 refine X_takeU 1 (some 29) (v := ?_) (listed' := #[true, true, false, false, false, false, false, false, false, false, false, false]) rfl rfl rfl (by kernel_rfl) rfl (fun _ _ _ h => h) ⟨rfl, ?_⟩ hS ?_
 rotate_left
 ·intro w' hS'
  have e0 : w'.cell? ⟨w3.heap.size, 0, none⟩ = some (.string Y.op) := hS'.2.cell 0
  have e1 : w'.cell? ⟨w3.heap.size, 1, none⟩ = some (.int .i64 Y.a) := hS'.2.cell 1
  have e2 : w'.cell? ⟨w3.heap.size, 2, none⟩ = some (.int .i64 Y.b) := hS'.2.cell 2
  have e3 : w'.cell? ⟨w3.heap.size, 3, none⟩ = some (.slice Y.s.A Y.s.n Y.s.c) := hS'.2.cell 3
  have el := hS'.2.lt
  (go_simp; try with_reducible rfl)
 simp only [Act.put, List.setIfInBounds_toArray, List.set_cons_zero, List.set_cons_succ]
 refine X_takeU 2 (some 30) (v := ?_) (listed' := #[true, true, true, false, false, false, false, false, false, false, false, false]) rfl rfl rfl (by kernel_rfl) rfl (fun _ _ _ h => h) ⟨rfl, ?_⟩ hS ?_
 rotate_left
 ·intro w' hS'
  have e0 : w'.cell? ⟨w3.heap.size, 0, none⟩ = some (.string Y.op) := hS'.2.cell 0
  have e1 : w'.cell? ⟨w3.heap.size, 1, none⟩ = some (.int .i64 Y.a) := hS'.2.cell 1
  have e2 : w'.cell? ⟨w3.heap.size, 2, none⟩ = some (.int .i64 Y.b) := hS'.2.cell 2
  have e3 : w'.cell? ⟨w3.heap.size, 3, none⟩ = some (.slice Y.s.A Y.s.n Y.s.c) := hS'.2.cell 3
  have el := hS'.2.lt
  (go_simp; try with_reducible rfl)
 simp only [Act.put, List.setIfInBounds_toArray, List.set_cons_zero, List.set_cons_succ]
 refine X_takeU 3 (some 31) (v := ?_) (listed' := #[true, true, true, true, false, false, false, false, false, false, false, false]) rfl rfl rfl (by kernel_rfl) rfl (fun _ _ _ h => h) ⟨rfl, ?_⟩ hS ?_
 rotate_left
 ·intro w' hS'
  (go_simp; try with_reducible rfl)
 simp only [Act.put, List.setIfInBounds_toArray, List.set_cons_zero, List.set_cons_succ]
 refine X_takeU 4 (some 32) (v := ?_) (listed' := #[true, true, true, true, true, false, false, false, false, false, false, false]) rfl rfl rfl (by kernel_rfl) rfl (fun _ _ _ h => h) ⟨rfl, ?_⟩ hS ?_
 rotate_left
 ·intro w' hS'
  (go_simp; try with_reducible rfl)
 simp only [Act.put, List.setIfInBounds_toArray, List.set_cons_zero, List.set_cons_succ]
 refine X_takeU 5 (some 33) (v := ?_) (listed' := #[true, true, true, true, true, true, false, false, false, false, false, false]) rfl rfl rfl (by kernel_rfl) rfl (fun _ _ _ h => h) ⟨rfl, ?_⟩ hS ?_
 rotate_left
 ·intro w' hS'
  (go_simp; try with_reducible rfl)
 simp only [Act.put, List.setIfInBounds_toArray, List.set_cons_zero, List.set_cons_succ]
 refine X_takeU 6 (some 34) (v := ?_) (listed' := #[true, true, true, true, true, true, true, false, false, false, false, false]) rfl rfl rfl (by kernel_rfl) rfl (fun _ _ _ h => h) ⟨rfl, ?_⟩ hS ?_
 rotate_left
 ·intro w' hS'
  (go_simp; try with_reducible rfl)
 simp only [Act.put, List.setIfInBounds_toArray, List.set_cons_zero, List.set_cons_succ]
 refine X_takeU 7 (some 35) (v := ?_) (listed' := #[true, true, true, true, true, true, true, true, false, false, false, false]) rfl rfl rfl (by kernel_rfl) rfl (fun _ _ _ h => h) ⟨rfl, ?_⟩ hS ?_
 rotate_left
 ·intro w' hS'
  (go_simp; try with_reducible rfl)
 simp only [Act.put, List.setIfInBounds_toArray, List.set_cons_zero, List.set_cons_succ]
 refine X_takeU 8 (some 36) (v := ?_) (listed' := #[true, true, true, true, true, true, true, true, true, false, false, false]) rfl rfl rfl (by kernel_rfl) rfl (fun _ _ _ h => h) ⟨rfl, ?_⟩ hS ?_
 rotate_left
 ·intro w' hS'
  (go_simp; try with_reducible rfl)
 simp only [Act.put, List.setIfInBounds_toArray, List.set_cons_zero, List.set_cons_succ]
 refine X_one 9 (listed' := #[true, true, true, true, true, true, true, true, true, true, false, false]) (by kernel_rfl) rfl rfl (fun K hK => ?_)
 go_simp
 have yY : Below w3.heap.size w3 (w3.alloc (.cells #[.string Y.op, .int .i64 Y.a, .int .i64 Y.b, .slice Y.s.A Y.s.n Y.s.c] 35)) := (Below.refl _ _).alloc (Nat.le_refl _) _
 have KZ := Lib.hid (bent_any Y (w3.alloc (.cells #[.string Y.op, .int .i64 Y.a, .int .i64 Y.b, .slice Y.s.A Y.s.n Y.s.c] 35)).drew (fun b => b < w3.heap.size) 4 (IntKind.i64.wrap (at_.tdiv 5)) (IntKind.i64.wrap (which.tdiv 6)) (IntKind.i64.wrap (v.tdiv 13)) (OY.out _ yY.drew) (fun b hb => by simp; omega) FY.out ⟨by decide, by decide⟩ (by have := SY.out; omega) (in64_wrap _) (in64_wrap _) (in64_wrap _))
 (with_reducible refine KZ.out.mono ?_)
 rintro e w5 ⟨Z, rfl, hok, -, -, hb⟩
 have hd := (Below.refl (w3.alloc (.cells #[.string Y.op, .int .i64 Y.a, .int .i64 Y.b, .slice Y.s.A Y.s.n Y.s.c] 35)).heap.size (w3.alloc (.cells #[.string Y.op, .int .i64 Y.a, .int .i64 Y.b, .slice Y.s.A Y.s.n Y.s.c] 35))).drew.trans hb
 have HB5 := Lib.hid (HBY.out.trans (hd.mono HBY.out.size))
 have BX5 := Lib.hid (BXX4.out.below hd BXX4.out.lt)
 have BY5 := Lib.hid (BXY.out.below hd BXY.out.lt)
 have yd : Below w3.heap.size w3 w5 := yY.trans (hd.mono yY.size)
 have OX5 := Lib.hid (OX3.out _ yd)
 have OY5 := Lib.hid (OY.out _ yd)
 have OZ5 := Lib.hid hok
 refine hK _ _ ⟨BX5.out, BY5.out⟩ ?_
 clear hK KZ yY hok hb hd yd HBY BXX4 BXY OX3 OY
 refine X_one 10 (listed' := #[true, true, true, true, true, true, true, true, true, true, true, false]) (by kernel_rfl) rfl rfl (fun K hK => ?_)
 go_simp
 have HB6 := Lib.hid (HB5.out.alloc HB5.out.size (.cells #[.string X.op, .int .i64 X.a, .int .i64 X.b, .slice X.s.A X.s.n X.s.c, .string Y.op, .int .i64 Y.a, .int .i64 Y.b, .slice Y.s.A Y.s.n Y.s.c, .string Z.op, .int .i64 Z.a, .int .i64 Z.b, .slice Z.s.A Z.s.n Z.s.c] 35))
 have HMV : Hid (MksV (w5.alloc (.cells #[.string X.op, .int .i64 X.a, .int .i64 X.b, .slice X.s.A X.s.n X.s.c, .string Y.op, .int .i64 Y.a, .int .i64 Y.b, .slice Y.s.A Y.s.n Y.s.c, .string Z.op, .int .i64 Z.a, .int .i64 Z.b, .slice Z.s.A Z.s.n Z.s.c] 35)) (some ⟨w5.heap.size, 0, none⟩) [X, Y, Z]) := by
  have y6 : Below w5.heap.size w5 (w5.alloc (.cells #[.string X.op, .int .i64 X.a, .int .i64 X.b, .slice X.s.A X.s.n X.s.c, .string Y.op, .int .i64 Y.a, .int .i64 Y.b, .slice Y.s.A Y.s.n Y.s.c, .string Z.op, .int .i64 Z.a, .int .i64 Z.b, .slice Z.s.A Z.s.n Z.s.c] 35)) := (Below.refl _ _).alloc (Nat.le_refl _) _
  refine Lib.hid ⟨.inr ⟨w5.heap.size, 0, _, _, rfl, heap_alloc_new w5 _, fun j u hu => by rw [Nat.zero_add]; simpa [mcells, MkM.cells] using hu⟩, fun M hM => ?_⟩
  simp only [List.mem_cons, List.not_mem_nil, or_false] at hM
  rcases hM with rfl | rfl | rfl
  ·exact (OX5.out.bel y6).any
  ·exact (OY5.out.bel y6).any
  ·exact (OZ5.out.bel y6).any
 refine hK _ _ ⟨BX5.out.alloc _, BY5.out.alloc _⟩ ?_
 clear hK OX5 OY5 OZ5
 refine X_one 11 (listed' := #[true, true, true, true, true, true, true, true, true, true, true, true]) (by kernel_rfl) rfl rfl (fun K hK => ?_)
 go_simp
 refine hK _ _ ⟨BX5.out.alloc _, BY5.out.alloc _⟩ ?_
 clear hK
 refine X_done (by kernel_rfl) ?_
 clear hS BX5 BY5 HB5 FX SX FY SY
 have KL := Lib.hid (list_any (c := c2) (H2'.out.below HB6.out) (fun b off e => Nat.lt_of_lt_of_le (F2.out b off e) HB6.out.size))
 go_wp2_with fail
 refine KL.out.mono ?_
 rintro e w7 ⟨s, l, rfl, hsv, hb⟩
 have HB7 := Lib.hid (HB6.out.trans (hb.mono HB6.out.size))
 have HMV7 := Lib.hid (HMV.out.below hb)
 have HSV := Lib.hid hsv
 have HML : Hid (([X, Y, Z] : List MkM).length = 3) := Lib.hid rfl
 generalize ([X, Y, Z] : List MkM) = Ms at *
 generalize hlA : (some ⟨w5.heap.size, 0, none⟩ : Option Addr) = lA at *
 obtain ⟨As, ns, cs⟩ := s
 clear KL hsv hb HB6 HMV hlA
 go_wp2_with fail
 go_loopw [17] (fun i wr => ∃ k : Nat, k ≤ 3 ∧ i = .int .i64 k ∧ Below w7.heap.size w7 wr) (fun i _ => 3 - (intOf i).toNat)
 case atStart => exact ⟨0, Nat.zero_le _, rfl, Below.refl _ _⟩
 case round =>
  obtain ⟨k, hk, rfl, hbl⟩ := hrel
  have HR := Lib.hid hbl
  clear hbl
  by_cases hlt : k < 3
  ·have hkl : k < Ms.length := by have := HML.out; omega
   obtain ⟨bb, off, rfl, hbb, hcl⟩ := HMV7.out.at_ k hkl
   have HTO : Hid (∀ U, Below w7.heap.size w7 U → (Ms[k]).Ok U 35 (fun _ => True)) := Lib.hid fun U hU => (HMV7.out.each _ (List.getElem_mem hkl)).bel hU
   have HEL : Hid (∀ w', Below w7.heap.size w7 w' → ((∀ r u, (Ms[k]).cells[r]? = some u → w'.cell? ⟨bb, off + k * 4 + r, none⟩ = some u) ∧ bb < w'.heap.size)) := Lib.hid fun U hU => ⟨fun r u hu => (hU.cell (p := ⟨bb, off + k * 4 + r, none⟩) hbb).trans (hcl r u hu), Nat.lt_of_lt_of_le hbb hU.size⟩
   generalize Ms[k] = t at *
   clear hcl hbb hkl
   have hkI : (k : Int) < 3 := by omega
   go_wp2
   refine wp_region_X (fun w' => ((∀ r u, t.cells[r]? = some u → w'.cell? ⟨bb, off + k * 4 + r, none⟩ = some u) ∧ bb < w'.heap.size)) 15 (n := 15) rfl (by kernel_rfl) (HEL.out _ HR.out.drew) (fun hS => ?_)
   refine X_takeU 0 (some 45) (v := ?_) (listed' := #[true, false, false, false, false, false, false, false, false, false, false, false, false, false, false]) rfl rfl rfl (by kernel_rfl) rfl (fun _ _ _ h => h) ⟨rfl, ?_⟩ hS ?_
   rotate_left
   ·intro w' hS'
    (go_simp; try with_reducible rfl)
   simp only [Act.put, List.setIfInBounds_toArray, List.set_cons_zero, List.set_cons_succ]
   refine X_takeU 1 (some 46) (v := ?_) (listed' := #[true, true, false, false, false, false, false, false, false, false, false, false, false, false, false]) rfl rfl rfl (by kernel_rfl) rfl (fun _ _ _ h => h) ⟨rfl, ?_⟩ hS ?_
   rotate_left
   ·intro w' hS'
    (go_simp; try with_reducible rfl)
   simp only [Act.put, List.setIfInBounds_toArray, List.set_cons_zero, List.set_cons_succ]
   refine X_takeU 2 (some 47) (v := ?_) (listed' := #[true, true, true, false, false, false, false, false, false, false, false, false, false, false, false]) rfl rfl rfl (by kernel_rfl) rfl (fun _ _ _ h => h) ⟨rfl, ?_⟩ hS ?_
   rotate_left
   ·intro w' hS'
    (go_simp; try with_reducible rfl)
   simp only [Act.put, List.setIfInBounds_toArray, List.set_cons_zero, List.set_cons_succ]
   refine X_takeU 3 (some 48) (v := ?_) (listed' := #[true, true, true, true, false, false, false, false, false, false, false, false, false, false, false]) rfl rfl rfl (by kernel_rfl) rfl (fun _ _ _ h => h) ⟨rfl, ?_⟩ hS ?_
   rotate_left
   ·intro w' hS'
    have e0 : w'.cell? ⟨bb, off + k * 4, none⟩ = some (.string t.op) := hS'.1 0 _ rfl
    have e1 : w'.cell? ⟨bb, off + k * 4 + 1, none⟩ = some (.int .i64 t.a) := hS'.1 1 _ rfl
    have e2 : w'.cell? ⟨bb, off + k * 4 + 2, none⟩ = some (.int .i64 t.b) := hS'.1 2 _ rfl
    have e3 : w'.cell? ⟨bb, off + k * 4 + 3, none⟩ = some (.slice t.s.A t.s.n t.s.c) := hS'.1 3 _ rfl
    have el := hS'.2
    (go_simp; try with_reducible rfl)
   simp only [Act.put, List.setIfInBounds_toArray, List.set_cons_zero, List.set_cons_succ]
   refine X_takeU 5 (some 50) (v := ?_) (listed' := #[true, true, true, true, false, true, false, false, false, false, false, false, false, false, false]) rfl rfl rfl (by kernel_rfl) rfl (fun _ _ _ h => h) ⟨rfl, ?_⟩ hS ?_
   rotate_left
   ·intro w' hS'
    (go_simp; try with_reducible rfl)
   simp only [Act.put, List.setIfInBounds_toArray, List.set_cons_zero, List.set_cons_succ]
   refine X_takeU 7 (some 52) (v := ?_) (listed' := #[true, true, true, true, false, true, false, true, false, false, false, false, false, false, false]) rfl rfl rfl (by kernel_rfl) rfl (fun _ _ _ h => h) ⟨rfl, ?_⟩ hS ?_
   rotate_left
   ·intro w' hS'
    (go_simp; try with_reducible rfl)
   simp only [Act.put, List.setIfInBounds_toArray, List.set_cons_zero, List.set_cons_succ]
   refine X_takeU 8 (some 53) (v := ?_) (listed' := #[true, true, true, true, false, true, false, true, true, false, false, false, false, false, false]) rfl rfl rfl (by kernel_rfl) rfl (fun _ _ _ h => h) ⟨rfl, ?_⟩ hS ?_
   rotate_left
   ·intro w' hS'
    (go_simp; try with_reducible rfl)
   simp only [Act.put, List.setIfInBounds_toArray, List.set_cons_zero, List.set_cons_succ]
   refine X_takeU 9 (some 54) (v := ?_) (listed' := #[true, true, true, true, false, true, false, true, true, true, false, false, false, false, false]) rfl rfl rfl (by kernel_rfl) rfl (fun _ _ _ h => h) ⟨rfl, ?_⟩ hS ?_
   rotate_left
   ·intro w' hS'
    (go_simp; try with_reducible rfl)
   simp only [Act.put, List.setIfInBounds_toArray, List.set_cons_zero, List.set_cons_succ]
   refine X_takeU 10 (some 55) (v := ?_) (listed' := #[true, true, true, true, false, true, false, true, true, true, true, false, false, false, false]) rfl rfl rfl (by kernel_rfl) rfl (fun _ _ _ h => h) ⟨rfl, ?_⟩ hS ?_
   rotate_left
   ·intro w' hS'
    have e0 : w'.cell? ⟨bb, off + k * 4, none⟩ = some (.string t.op) := hS'.1 0 _ rfl
    have e1 : w'.cell? ⟨bb, off + k * 4 + 1, none⟩ = some (.int .i64 t.a) := hS'.1 1 _ rfl
    have e2 : w'.cell? ⟨bb, off + k * 4 + 2, none⟩ = some (.int .i64 t.b) := hS'.1 2 _ rfl
    have e3 : w'.cell? ⟨bb, off + k * 4 + 3, none⟩ = some (.slice t.s.A t.s.n t.s.c) := hS'.1 3 _ rfl
    have el := hS'.2
    (go_simp; try with_reducible rfl)
   simp only [Act.put, List.setIfInBounds_toArray, List.set_cons_zero, List.set_cons_succ]
   refine X_takeU 11 (some 56) (v := ?_) (listed' := #[true, true, true, true, false, true, false, true, true, true, true, true, false, false, false]) rfl rfl rfl (by kernel_rfl) rfl (fun _ _ _ h => h) ⟨rfl, ?_⟩ hS ?_
   rotate_left
   ·intro w' hS'
    (go_simp; try with_reducible rfl)
   simp only [Act.put, List.setIfInBounds_toArray, List.set_cons_zero, List.set_cons_succ]
   refine X_one 4 (listed' := #[true, true, true, true, true, true, false, true, true, true, true, true, false, false, false]) (by kernel_rfl) rfl rfl (fun K hK => ?_)
   go_simp
   have K1 := Lib.hid (own_any t wr.drew _ (HTO.out _ HR.out.drew))
   (with_reducible refine K1.out.mono ?_)
   rintro e wa ⟨Mo, rfl, hcore, hok, hb⟩
   have HRa := Lib.hid (HR.out.drew.trans (hb.mono HR.out.drew.size))
   have OMo := Lib.hid hok
   have HCo := Lib.hid hcore
   refine hK _ _ (HEL.out _ HRa.out) ?_
   clear hK K1 hcore hok hb
   refine X_one 6 (listed' := #[true, true, true, true, true, true, true, true, true, true, true, true, false, false, false]) (by kernel_rfl) rfl rfl (fun K hK => ?_)
   go_simp
   have K1 := Lib.hid (steps_any Mo (s := ⟨As, ns, cs⟩) OMo.out (HSV.out.below HRa.out))
   (with_reducible refine K1.out.mono ?_)
   rintro e wb ⟨Aa, na, ca, rfl, hiv, hb⟩
   have HRb := Lib.hid (HRa.out.trans (hb.mono HRa.out.size))
   have HIa := Lib.hid hiv
   refine hK _ _ (HEL.out _ HRb.out) ?_
   clear hK K1 hiv hb
   refine X_one 12 (listed' := #[true, true, true, true, true, true, true, true, true, true, true, true, true, false, false]) (by kernel_rfl) rfl rfl (fun K hK => ?_)
   go_simp
   have K1 := Lib.hid (rsteps_any t (s := ⟨As, ns, cs⟩) (HTO.out _ HRb.out) (HSV.out.below HRb.out))
   (with_reducible refine K1.out.mono ?_)
   rintro e wc ⟨Ab, nb, cb, rfl, hiv, hb⟩
   have HRc := Lib.hid (HRb.out.trans (hb.mono HRb.out.size))
   have HIb := Lib.hid hiv
   have HIa2 := Lib.hid (HIa.out.below hb)
   refine hK _ _ (HEL.out _ HRc.out) ?_
   clear hK K1 hiv hb HIa
   refine X_one 13 (listed' := #[true, true, true, true, true, true, true, true, true, true, true, true, true, true, false]) (by kernel_rfl) rfl rfl (fun K hK => ?_)
   go_simp
   have K1 := Lib.hid (same_any (c := ca) (c' := cb) HIa2.out.row HIb.out.row HIa2.out.len HIb.out.len (by
    have h1 := HIa2.out.len
    have h2 := List.length_filter_le (fun q => Mo.core.val (condV q)) l
    have h3 := HSV.out.len
    have h4 := HSV.out.small
    rw [List.length_map] at h1
    dsimp only at h3 h4
    omega))
   rw [HCo.out] at K1
   (with_reducible refine K1.out.mono ?_)
   rintro e wd ⟨rfl, hb⟩
   have HRd := Lib.hid (HRc.out.trans (hb.mono HRc.out.size))
   have hsm : sameB ((l.filter fun q => t.core.val (condV q)).map StepM.id) ((l.filter fun q => t.core.val (condV q)).map StepM.id) = true := by simp [sameB]
   refine hK _ _ (HEL.out _ HRd.out) ?_
   clear hK K1 hb
   refine X_one 14 (listed' := #[true, true, true, true, true, true, true, true, true, true, true, true, true, true, true]) (by kernel_rfl) rfl rfl (fun K hK => ?_)
   go_simp
   refine hK _ _ (HEL.out _ HRd.out) ?_
   clear hK
   refine X_done (by kernel_rfl) ?_
   clear hS HIa2 HIb OMo HCo HRa HRb HRc
   have HQ0 := Lib.hid HRd.out
   go_wp2
   go_loopw [18] (fun i wq => ∃ j : Nat, j ≤ ns ∧ i = .int .i64 j ∧ Below w7.heap.size w7 wq) (fun i _ => ns - (intOf i).toNat)
   case atStart => exact ⟨0, Nat.zero_le _, rfl, HRd.out⟩
   case round =>
    obtain ⟨j, hj, rfl, hbl⟩ := hrel
    have HQ := Lib.hid hbl
    clear hbl
    have hs100 : ns ≤ 100 := HSV.out.small
    by_cases hjl : j < ns
    ·have hjs : j < l.length := by have := HSV.out.len; dsimp only at this; omega
     obtain ⟨sb, so, hA, hsb, hcs⟩ := HSV.out.at_ j hjs
     dsimp only at hA
     subst hA
     have HPO : Hid (∀ U, Below w7.heap.size w7 U → (l[j]).Ok U) := Lib.hid fun U hU => (HSV.out.each _ (List.getElem_mem hjs)).below hU
     have HST : Hid (∀ w', Below w7.heap.size w7 w' → ((∀ r u, (l[j]).cells[r]? = some u → w'.cell? ⟨sb, so + j * 7 + r, none⟩ = some u) ∧ sb < w'.heap.size)) := Lib.hid fun U hU => ⟨fun r u hu => (hU.cell (p := ⟨sb, so + j * 7 + r, none⟩) hsb).trans (hcs r u hu), Nat.lt_of_lt_of_le hsb hU.size⟩
     generalize l[j] = p at *
     clear hcs hsb hjs
     go_wp2
     refine wp_region_X (fun w' => ((∀ r u, t.cells[r]? = some u → w'.cell? ⟨bb, off + k * 4 + r, none⟩ = some u) ∧ bb < w'.heap.size) ∧ ((∀ r u, p.cells[r]? = some u → w'.cell? ⟨sb, so + j * 7 + r, none⟩ = some u) ∧ sb < w'.heap.size)) 20 (n := 20) rfl (by kernel_rfl) (⟨HEL.out _ HQ.out.drew, HST.out _ HQ.out.drew⟩) (fun hS => ?_)
     refine X_takeU 0 (some 66) (v := ?_) (listed' := #[true, false, false, false, false, false, false, false, false, false, false, false, false, false, false, false, false, false, false, false]) rfl rfl rfl (by kernel_rfl) rfl (fun _ _ _ h => h) ⟨rfl, ?_⟩ hS ?_
     rotate_left
     ·intro w' hS'
      (go_simp; try with_reducible rfl)
     simp only [Act.put, List.setIfInBounds_toArray, List.set_cons_zero, List.set_cons_succ]
     refine X_takeU 1 (some 67) (v := ?_) (listed' := #[true, true, false, false, false, false, false, false, false, false, false, false, false, false, false, false, false, false, false, false]) rfl rfl rfl (by kernel_rfl) rfl (fun _ _ _ h => h) ⟨rfl, ?_⟩ hS ?_
     rotate_left
     ·intro w' hS'
      (go_simp; try with_reducible rfl)
     simp only [Act.put, List.setIfInBounds_toArray, List.set_cons_zero, List.set_cons_succ]
     refine X_takeU 2 (some 68) (v := ?_) (listed' := #[true, true, true, false, false, false, false, false, false, false, false, false, false, false, false, false, false, false, false, false]) rfl rfl rfl (by kernel_rfl) rfl (fun _ _ _ h => h) ⟨rfl, ?_⟩ hS ?_
     rotate_left
     ·intro w' hS'
      (go_simp; try with_reducible rfl)
     simp only [Act.put, List.setIfInBounds_toArray, List.set_cons_zero, List.set_cons_succ]
     refine X_takeU 3 (some 69) (v := ?_) (listed' := #[true, true, true, true, false, false, false, false, false, false, false, false, false, false, false, false, false, false, false, false]) rfl rfl rfl (by kernel_rfl) rfl (fun _ _ _ h => h) ⟨rfl, ?_⟩ hS ?_
     rotate_left
     ·intro w' hS'
      have e0 : w'.cell? ⟨bb, off + k * 4, none⟩ = some (.string t.op) := hS'.1.1 0 _ rfl
      have e1 : w'.cell? ⟨bb, off + k * 4 + 1, none⟩ = some (.int .i64 t.a) := hS'.1.1 1 _ rfl
      have e2 : w'.cell? ⟨bb, off + k * 4 + 2, none⟩ = some (.int .i64 t.b) := hS'.1.1 2 _ rfl
      have e3 : w'.cell? ⟨bb, off + k * 4 + 3, none⟩ = some (.slice t.s.A t.s.n t.s.c) := hS'.1.1 3 _ rfl
      have el := hS'.1.2
      (go_simp; try with_reducible rfl)
     simp only [Act.put, List.setIfInBounds_toArray, List.set_cons_zero, List.set_cons_succ]
     refine X_takeU 5 (some 71) (v := ?_) (listed' := #[true, true, true, true, false, true, false, false, false, false, false, false, false, false, false, false, false, false, false, false]) rfl rfl rfl (by kernel_rfl) rfl (fun _ _ _ h => h) ⟨rfl, ?_⟩ hS ?_
     rotate_left
     ·intro w' hS'
      (go_simp; try with_reducible rfl)
     simp only [Act.put, List.setIfInBounds_toArray, List.set_cons_zero, List.set_cons_succ]
     refine X_takeU 6 (some 72) (v := ?_) (listed' := #[true, true, true, true, false, true, true, false, false, false, false, false, false, false, false, false, false, false, false, false]) rfl rfl rfl (by kernel_rfl) rfl (fun _ _ _ h => h) ⟨rfl, ?_⟩ hS ?_
     rotate_left
     ·intro w' hS'
      (go_simp; try with_reducible rfl)
     simp only [Act.put, List.setIfInBounds_toArray, List.set_cons_zero, List.set_cons_succ]
     refine X_takeU 7 (some 73) (v := ?_) (listed' := #[true, true, true, true, false, true, true, true, false, false, false, false, false, false, false, false, false, false, false, false]) rfl rfl rfl (by kernel_rfl) rfl (fun _ _ _ h => h) ⟨rfl, ?_⟩ hS ?_
     rotate_left
     ·intro w' hS'
      (go_simp; try with_reducible rfl)
     simp only [Act.put, List.setIfInBounds_toArray, List.set_cons_zero, List.set_cons_succ]
     refine X_takeU 8 (some 74) (v := ?_) (listed' := #[true, true, true, true, false, true, true, true, true, false, false, false, false, false, false, false, false, false, false, false]) rfl rfl rfl (by kernel_rfl) rfl (fun _ _ _ h => h) ⟨rfl, ?_⟩ hS ?_
     rotate_left
     ·intro w' hS'
      have e0 : w'.cell? ⟨sb, so + j * 7, none⟩ = some (.int .i64 p.id) := hS'.2.1 0 _ rfl
      have e1 : w'.cell? ⟨sb, so + j * 7 + 1, none⟩ = some (.int .i64 p.kind) := hS'.2.1 1 _ rfl
      have e2 : w'.cell? ⟨sb, so + j * 7 + 2, none⟩ = some (.int .i64 p.actor) := hS'.2.1 2 _ rfl
      have e3 : w'.cell? ⟨sb, so + j * 7 + 3, none⟩ = some (.int .i64 p.tick) := hS'.2.1 3 _ rfl
      have e4 : w'.cell? ⟨sb, so + j * 7 + 4, none⟩ = some (.int .i64 p.rule) := hS'.2.1 4 _ rfl
      have e5 : w'.cell? ⟨sb, so + j * 7 + 5, none⟩ = some (.int .i64 p.times) := hS'.2.1 5 _ rfl
      have e6 : w'.cell? ⟨sb, so + j * 7 + 6, none⟩ = some (.slice p.sm.A p.sm.n p.sm.c) := hS'.2.1 6 _ rfl
      have el := hS'.2.2
      (go_simp; try with_reducible rfl)
     simp only [Act.put, List.setIfInBounds_toArray, List.set_cons_zero, List.set_cons_succ]
     refine X_takeU 10 (some 76) (v := ?_) (listed' := #[true, true, true, true, false, true, true, true, true, false, true, false, false, false, false, false, false, false, false, false]) rfl rfl rfl (by kernel_rfl) rfl (fun _ _ _ h => h) ⟨rfl, ?_⟩ hS ?_
     rotate_left
     ·intro w' hS'
      (go_simp; try with_reducible rfl)
     simp only [Act.put, List.setIfInBounds_toArray, List.set_cons_zero, List.set_cons_succ]
     refine X_takeU 11 (some 77) (v := ?_) (listed' := #[true, true, true, true, false, true, true, true, true, false, true, true, false, false, false, false, false, false, false, false]) rfl rfl rfl (by kernel_rfl) rfl (fun _ _ _ h => h) ⟨rfl, ?_⟩ hS ?_
     rotate_left
     ·intro w' hS'
      (go_simp; try with_reducible rfl)
     simp only [Act.put, List.setIfInBounds_toArray, List.set_cons_zero, List.set_cons_succ]
     refine X_takeU 12 (some 78) (v := ?_) (listed' := #[true, true, true, true, false, true, true, true, true, false, true, true, true, false, false, false, false, false, false, false]) rfl rfl rfl (by kernel_rfl) rfl (fun _ _ _ h => h) ⟨rfl, ?_⟩ hS ?_
     rotate_left
     ·intro w' hS'
      (go_simp; try with_reducible rfl)
     simp only [Act.put, List.setIfInBounds_toArray, List.set_cons_zero, List.set_cons_succ]
     refine X_takeU 13 (some 79) (v := ?_) (listed' := #[true, true, true, true, false, true, true, true, true, false, true, true, true, true, false, false, false, false, false, false]) rfl rfl rfl (by kernel_rfl) rfl (fun _ _ _ h => h) ⟨rfl, ?_⟩ hS ?_
     rotate_left
     ·intro w' hS'
      have e0 : w'.cell? ⟨bb, off + k * 4, none⟩ = some (.string t.op) := hS'.1.1 0 _ rfl
      have e1 : w'.cell? ⟨bb, off + k * 4 + 1, none⟩ = some (.int .i64 t.a) := hS'.1.1 1 _ rfl
      have e2 : w'.cell? ⟨bb, off + k * 4 + 2, none⟩ = some (.int .i64 t.b) := hS'.1.1 2 _ rfl
      have e3 : w'.cell? ⟨bb, off + k * 4 + 3, none⟩ = some (.slice t.s.A t.s.n t.s.c) := hS'.1.1 3 _ rfl
      have el := hS'.1.2
      (go_simp; try with_reducible rfl)
     simp only [Act.put, List.setIfInBounds_toArray, List.set_cons_zero, List.set_cons_succ]
     refine X_takeU 14 (some 80) (v := ?_) (listed' := #[true, true, true, true, false, true, true, true, true, false, true, true, true, true, true, false, false, false, false, false]) rfl rfl rfl (by kernel_rfl) rfl (fun _ _ _ h => h) ⟨rfl, ?_⟩ hS ?_
     rotate_left
     ·intro w' hS'
      (go_simp; try with_reducible rfl)
     simp only [Act.put, List.setIfInBounds_toArray, List.set_cons_zero, List.set_cons_succ]
     refine X_takeU 15 (some 81) (v := ?_) (listed' := #[true, true, true, true, false, true, true, true, true, false, true, true, true, true, true, true, false, false, false, false]) rfl rfl rfl (by kernel_rfl) rfl (fun _ _ _ h => h) ⟨rfl, ?_⟩ hS ?_
     rotate_left
     ·intro w' hS'
      (go_simp; try with_reducible rfl)
     simp only [Act.put, List.setIfInBounds_toArray, List.set_cons_zero, List.set_cons_succ]
     refine X_takeU 16 (some 82) (v := ?_) (listed' := #[true, true, true, true, false, true, true, true, true, false, true, true, true, true, true, true, true, false, false, false]) rfl rfl rfl (by kernel_rfl) rfl (fun _ _ _ h => h) ⟨rfl, ?_⟩ hS ?_
     rotate_left
     ·intro w' hS'
      (go_simp; try with_reducible rfl)
     simp only [Act.put, List.setIfInBounds_toArray, List.set_cons_zero, List.set_cons_succ]
     refine X_takeU 17 (some 83) (v := ?_) (listed' := #[true, true, true, true, false, true, true, true, true, false, true, true, true, true, true, true, true, true, false, false]) rfl rfl rfl (by kernel_rfl) rfl (fun _ _ _ h => h) ⟨rfl, ?_⟩ hS ?_
     rotate_left
     ·intro w' hS'
      have e0 : w'.cell? ⟨sb, so + j * 7, none⟩ = some (.int .i64 p.id) := hS'.2.1 0 _ rfl
      have e1 : w'.cell? ⟨sb, so + j * 7 + 1, none⟩ = some (.int .i64 p.kind) := hS'.2.1 1 _ rfl
      have e2 : w'.cell? ⟨sb, so + j * 7 + 2, none⟩ = some (.int .i64 p.actor) := hS'.2.1 2 _ rfl
      have e3 : w'.cell? ⟨sb, so + j * 7 + 3, none⟩ = some (.int .i64 p.tick) := hS'.2.1 3 _ rfl
      have e4 : w'.cell? ⟨sb, so + j * 7 + 4, none⟩ = some (.int .i64 p.rule) := hS'.2.1 4 _ rfl
      have e5 : w'.cell? ⟨sb, so + j * 7 + 5, none⟩ = some (.int .i64 p.times) := hS'.2.1 5 _ rfl
      have e6 : w'.cell? ⟨sb, so + j * 7 + 6, none⟩ = some (.slice p.sm.A p.sm.n p.sm.c) := hS'.2.1 6 _ rfl
      have el := hS'.2.2
      (go_simp; try with_reducible rfl)
     simp only [Act.put, List.setIfInBounds_toArray, List.set_cons_zero, List.set_cons_succ]
     refine X_one 4 (listed' := #[true, true, true, true, true, true, true, true, true, false, true, true, true, true, true, true, true, true, false, false]) (by kernel_rfl) rfl rfl (fun K hK => ?_)
     go_simp
     have K1 := Lib.hid (own_any t wr.drew _ (HTO.out _ HQ.out.drew))
     (with_reducible refine K1.out.mono ?_)
     rintro e wa ⟨Mo, rfl, hcore, hok, hb⟩
     have HRa := Lib.hid (HQ.out.drew.trans (hb.mono HQ.out.drew.size))
     have OMo := Lib.hid hok
     have HCo := Lib.hid hcore
     refine hK _ _ ⟨HEL.out _ HRa.out, HST.out _ HRa.out⟩ ?_
     clear hK K1 hcore hok hb
     refine X_one 9 (listed' := #[true, true, true, true, true, true, true, true, true, true, true, true, true, true, true, true, true, true, false, false]) (by kernel_rfl) rfl rfl (fun K hK => ?_)
     go_simp
     have K1 := Lib.hid (matches_any p Mo _ _ OMo.out (HPO.out _ HRa.out))
     rw [HCo.out] at K1
     (with_reducible refine K1.out.mono ?_)
     rintro e wb ⟨rfl, hb⟩
     have HRb := Lib.hid (HRa.out.trans (hb.mono HRa.out.size))
     refine hK _ _ ⟨HEL.out _ HRb.out, HST.out _ HRb.out⟩ ?_
     clear hK K1 hb
     refine X_one 18 (listed' := #[true, true, true, true, true, true, true, true, true, true, true, true, true, true, true, true, true, true, true, false]) (by kernel_rfl) rfl rfl (fun K hK => ?_)
     go_simp
     have K1 := Lib.hid (rmatches_any p t _ _ (HTO.out _ HRb.out) (HPO.out _ HRb.out))
     (with_reducible refine K1.out.mono ?_)
     rintro e wc ⟨rfl, hb⟩
     have HRc := Lib.hid (HRb.out.trans (hb.mono HRb.out.size))
     generalize t.core.val (condV p) = bv at *
     have hbb2 : (bv != bv) = false := by simp
     refine hK _ _ ⟨HEL.out _ HRc.out, HST.out _ HRc.out⟩ ?_
     clear hK K1 hb
     refine X_one 19 (listed' := #[true, true, true, true, true, true, true, true, true, true, true, true, true, true, true, true, true, true, true, true]) (by kernel_rfl) rfl rfl (fun K hK => ?_)
     go_simp
     refine hK _ _ ⟨HEL.out _ HRc.out, HST.out _ HRc.out⟩ ?_
     clear hK
     refine X_done (by kernel_rfl) ?_
     clear hS
     go_wp2
     go_roundw
     case rel => exact ⟨j + 1, by omega, by go_num, HRc.out⟩
     case measure => simp [intOf]; omega
    ·have hjn : j = ns := by omega
     clear hjn
     go_wp2
     go_roundw
     case rel => exact ⟨k + 1, by omega, by go_num, HQ.out⟩
     case measure => simp [intOf]; omega
  ·have hkn : k = 3 := by omega
   have HF := Lib.hid (HB7.out.trans (HR.out.mono HB7.out.size))
   have KLV := Lib.hid (lives_any (HTB.out.below HF.out HTB.out.1) (HPB.out.below HF.out (by have := HTB.out.1; omega)))
   clear hkn
   go_wp2_with fail
   refine KLV.out.mono ?_
   rintro e w9 ⟨rfl, hb⟩
   have HE := Lib.hid (HF.out.trans (hb.mono HF.out.size))
   clear KLV hb
   go_wp2
   go_ret
   exact ⟨rfl, HE.out⟩
end Go.Proofs.YtocodlpgaamblaaGreatDoor
