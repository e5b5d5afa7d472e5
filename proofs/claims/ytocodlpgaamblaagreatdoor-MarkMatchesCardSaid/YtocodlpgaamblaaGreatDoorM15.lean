/- Normal. -/
import Derived.Test.YtocodlpgaamblaaGreatDoorM7
import Derived.Test.YtocodlpgaamblaaGreatDoorM9
set_option linter.unusedVariables false
set_option linter.unusedSimpArgs false
open Go.RowKit
namespace Go.Proofs.YtocodlpgaamblaaGreatDoor
theorem neqB (x y : Bool) (w : World) : (binOp .neq 4 (.bool x) (.bool y)).run Tryz.prog w = .ok (.bool (x != y)) w := by
 cases x <;> cases y <;> kernel_rfl
theorem lay_new {W w1 : World} {M : MkM} {g : Nat} (hg : g < w1.heap.size) (hW : W.heap.size ≤ g) (hB : Bk w1 g 49 [.string ⟨#[]⟩, .int .i64 0, .int .i64 0, .slice none 0 0]) (h : M.Ok w1 49 (fun b => W.heap.size ≤ b ∧ b ≠ g)) (hY : Below W.heap.size W w1) :
 M.Ok ((((w1.setCell ⟨g, 0, none⟩ (.string M.op)).setCell ⟨g, 1, none⟩ (.int .i64 M.a)).setCell ⟨g, 2, none⟩ (.int .i64 M.b)).setCell ⟨g, 3, none⟩ (.slice M.s.A M.s.n M.s.c)) 49 (fun b => W.heap.size ≤ b) ∧ Below W.heap.size W ((((w1.setCell ⟨g, 0, none⟩ (.string M.op)).setCell ⟨g, 1, none⟩ (.int .i64 M.a)).setCell ⟨g, 2, none⟩ (.int .i64 M.b)).setCell ⟨g, 3, none⟩ (.slice M.s.A M.s.n M.s.c)) ∧ Bk ((((w1.setCell ⟨g, 0, none⟩ (.string M.op)).setCell ⟨g, 1, none⟩ (.int .i64 M.a)).setCell ⟨g, 2, none⟩ (.int .i64 M.b)).setCell ⟨g, 3, none⟩ (.slice M.s.A M.s.n M.s.c)) g 49 [.string M.op, .int .i64 M.a, .int .i64 M.b, .slice M.s.A M.s.n M.s.c] :=
 ⟨(h.grown (four_self w1 g (.string M.op) (.int .i64 M.a) (.int .i64 M.b) (.slice M.s.A M.s.n M.s.c)) fun b hb => by simp; exact hb.2).mono fun b _ hb => hb.1, hY.trans (four_below hW (.string M.op) (.int .i64 M.a) (.int .i64 M.b) (.slice M.s.A M.s.n M.s.c)), four_laid hB (.string M.op) (.int .i64 M.a) (.int .i64 M.b) (.slice M.s.A M.s.n M.s.c)⟩
theorem join_ok {w1 : World} {B g : Nat} {ks : List MkM} {s : Sl} (b : Bool) (hrow : PRow w1 49 (fun b => B ≤ b) s.A (mcells ks)) (hlen : s.n = ks.length) (hsm : s.n ≤ 100000) (heach : ∀ k ∈ ks, k.Ok w1 49 (fun b => B ≤ b)) {C : Nat} (hB : C ≤ B ∧ g < B) :
 MkM.Ok w1 49 (fun b => C ≤ b ∧ b ≠ g) ⟨joinOp b, 0, 0, ks, s⟩ :=
 .mk _ _ _ _ _ (hrow.mono fun b _ hb => ⟨Nat.le_trans hB.1 hb, by omega⟩) hlen hsm (by cases b <;> decide) ⟨by decide, by decide⟩ ⟨by decide, by decide⟩ fun k hk => (heach k hk).mono fun b _ hb => ⟨Nat.le_trans hB.1 hb, by omega⟩
set_option maxRecDepth 100000 in
set_option maxHeartbeats 8000000 in
theorem norm_one {bE bK bN : Nat} {t : MkM} {W : World} {P : Nat → Prop} {no : Bool} {op : ByteArray} {a b : Int} {c bb off : Nat} (hT : NS bE bK bN t) (hC : NCtx W bE bK bN) (h : t.Ok W 49 P) (hbb : bb < W.heap.size)
 (d0 : W.cell? ⟨bb, off + 0 * 4, none⟩ = some (.string t.op)) (d1 : W.cell? ⟨bb, off + 0 * 4 + 1, none⟩ = some (.int .i64 t.a)) (d2 : W.cell? ⟨bb, off + 0 * 4 + 2, none⟩ = some (.int .i64 t.b)) (d3 : W.cell? ⟨bb, off + 0 * 4 + 3, none⟩ = some (.slice t.s.A t.s.n t.s.c))
 (q1 : (op.toList == [97, 110, 100]) = false) (q2 : (op.toList == [111, 114]) = false) (q3 : (op.toList == [110, 111, 116]) = true) :
 Calls Tryz.prog 64 #[.agg #[.string op, .int .i64 a, .int .i64 b, .slice (some ⟨bb, off, none⟩) 1 c], .bool no, .pointer (some ⟨bE, 0, none⟩), .pointer (some ⟨bK, 0, none⟩), .pointer (some ⟨bN, 0, none⟩)] W (NewM W (t.core.norm (!no))) := by
 have en4 := enters64
 have y : Below W.heap.size W ((W.alloc (.cells #[.string op, .int .i64 a, .int .i64 b, .slice (some ⟨bb, off, none⟩) 1 c] 49)).alloc (.cells #[.string ⟨#[]⟩, .int .i64 0, .int .i64 0, .slice none 0 0] 49)) := ((Below.refl _ _).alloc (Nat.le_refl _) _).alloc (by simp) _
 have HB5 := Lib.hid ((Bk.new W 49 [.string op, .int .i64 a, .int .i64 b, .slice (some ⟨bb, off, none⟩) 1 c]).alloc (.cells #[.string ⟨#[]⟩, .int .i64 0, .int .i64 0, .slice none 0 0] 49))
 have HB7 : Hid (Bk ((W.alloc (.cells #[.string op, .int .i64 a, .int .i64 b, .slice (some ⟨bb, off, none⟩) 1 c] 49)).alloc (.cells #[.string ⟨#[]⟩, .int .i64 0, .int .i64 0, .slice none 0 0] 49)) (W.heap.size + 1) 49 [.string ⟨#[]⟩, .int .i64 0, .int .i64 0, .slice none 0 0]) := by
  have := Bk.new (W.alloc (.cells #[.string op, .int .i64 a, .int .i64 b, .slice (some ⟨bb, off, none⟩) 1 c] 49)) 49 [.string ⟨#[]⟩, .int .i64 0, .int .i64 0, .slice none 0 0]
  rw [World.size_alloc] at this
  exact Lib.hid this
 have HC := Lib.hid (hC.below y)
 have H := Lib.hid (h.bel y)
 have Y := Lib.hid y
 have hnN : bN < W.heap.size := hC.n.lt
 have D0 : Hid (∀ U, Below W.heap.size W U → (U.cell? ⟨bb, off, none⟩ = some (.string t.op) ∧ U.cell? ⟨bb, off + 1, none⟩ = some (.int .i64 t.a) ∧ U.cell? ⟨bb, off + 2, none⟩ = some (.int .i64 t.b) ∧ U.cell? ⟨bb, off + 3, none⟩ = some (.slice t.s.A t.s.n t.s.c)) ∧ bb < U.heap.size) := Lib.hid fun U hU =>
  ⟨⟨by have := (hU.cell (p := ⟨bb, off, none⟩) hbb).trans (by simpa using d0); exact this, (hU.cell (p := ⟨bb, off + 1, none⟩) hbb).trans (by simpa using d1), (hU.cell (p := ⟨bb, off + 2, none⟩) hbb).trans (by simpa using d2), (hU.cell (p := ⟨bb, off + 3, none⟩) hbb).trans (by simpa using d3)⟩, Nat.lt_of_lt_of_le hbb hU.size⟩
 clear y hC h d0 d1 d2 d3
 go_enter Tryz.func64, Tryz.ntmps64
 go_wp2_with fail
 refine wp_region_X (fun w' => (NCtx w' bE bK bN ∧ Bk w' W.heap.size 49 [.string op, .int .i64 a, .int .i64 b, .slice (some ⟨bb, off, none⟩) 1 c]) ∧ ((w'.cell? ⟨bb, off, none⟩ = some (.string t.op) ∧ w'.cell? ⟨bb, off + 1, none⟩ = some (.int .i64 t.a) ∧ w'.cell? ⟨bb, off + 2, none⟩ = some (.int .i64 t.b) ∧ w'.cell? ⟨bb, off + 3, none⟩ = some (.slice t.s.A t.s.n t.s.c)) ∧ bb < w'.heap.size)) 8 (n := 9) rfl (by kernel_rfl) (⟨⟨HC.out.below (Below.refl _ _).drew, HB5.out.drew⟩, D0.out _ (Y.out.drew)⟩) (fun hS => ?_)
 refine X_take 0 (some 32) (v := ?_) (listed' := #[true, false, false, false, false, false, false, false, false]) rfl rfl rfl (by kernel_rfl) (fun _ _ _ h => h) ⟨rfl, ?_⟩ hS ?_
 rotate_left
 ·intro w' hS'
  have e0 : w'.cell? ⟨bN, 0, none⟩ = some (.func (.func 64) #[] #[.pointer (some ⟨bE, 0, none⟩), .pointer (some ⟨bK, 0, none⟩), .pointer (some ⟨bN, 0, none⟩)]) := hS'.1.1.n.cell 0
  have el := hS'.1.1.n.lt
  (go_simp; try with_reducible rfl)
 simp only [Act.put, List.setIfInBounds_toArray, List.set_cons_zero, List.set_cons_succ]
 refine X_take 1 (some 33) (v := ?_) (listed' := #[true, true, false, false, false, false, false, false, false]) rfl rfl rfl (by kernel_rfl) (fun _ _ _ h => h) ⟨rfl, ?_⟩ hS ?_
 rotate_left
 ·intro w' hS'
  (go_simp; try with_reducible rfl)
 simp only [Act.put, List.setIfInBounds_toArray, List.set_cons_zero, List.set_cons_succ]
 refine X_take 2 (some 34) (v := ?_) (listed' := #[true, true, true, false, false, false, false, false, false]) rfl rfl rfl (by kernel_rfl) (fun _ _ _ h => h) ⟨rfl, ?_⟩ hS ?_
 rotate_left
 ·intro w' hS'
  have e0 : w'.cell? ⟨W.heap.size, 0, none⟩ = some (.string op) := hS'.1.2.cell 0
  have e1 : w'.cell? ⟨W.heap.size, 1, none⟩ = some (.int .i64 a) := hS'.1.2.cell 1
  have e2 : w'.cell? ⟨W.heap.size, 2, none⟩ = some (.int .i64 b) := hS'.1.2.cell 2
  have e3 : w'.cell? ⟨W.heap.size, 3, none⟩ = some (.slice (some ⟨bb, off, none⟩) 1 c) := hS'.1.2.cell 3
  have el := hS'.1.2.lt
  (go_simp; try with_reducible rfl)
 simp only [Act.put, List.setIfInBounds_toArray, List.set_cons_zero, List.set_cons_succ]
 refine X_take 3 (some 35) (v := ?_) (listed' := #[true, true, true, true, false, false, false, false, false]) rfl rfl rfl (by kernel_rfl) (fun _ _ _ h => h) ⟨rfl, ?_⟩ hS ?_
 rotate_left
 ·intro w' hS'
  (go_simp; try with_reducible rfl)
 simp only [Act.put, List.setIfInBounds_toArray, List.set_cons_zero, List.set_cons_succ]
 refine X_take 4 (some 36) (v := ?_) (listed' := #[true, true, true, true, true, false, false, false, false]) rfl rfl rfl (by kernel_rfl) (fun _ _ _ h => h) ⟨rfl, ?_⟩ hS ?_
 rotate_left
 ·intro w' hS'
  have e0 := hS'.2.1.1
  have e1 := hS'.2.1.2.1
  have e2 := hS'.2.1.2.2.1
  have e3 := hS'.2.1.2.2.2
  have el := hS'.2.2
  (go_simp; try with_reducible rfl)
 simp only [Act.put, List.setIfInBounds_toArray, List.set_cons_zero, List.set_cons_succ]
 refine X_take 5 (some 37) (v := ?_) (listed' := #[true, true, true, true, true, true, false, false, false]) rfl rfl rfl (by kernel_rfl) (fun _ _ _ h => h) ⟨rfl, ?_⟩ hS ?_
 rotate_left
 ·intro w' hS'
  (go_simp; try with_reducible rfl)
 simp only [Act.put, List.setIfInBounds_toArray, List.set_cons_zero, List.set_cons_succ]
 refine X_take 6 (some 38) (v := ?_) (listed' := #[true, true, true, true, true, true, true, false, false]) rfl rfl rfl (by kernel_rfl) (fun _ _ _ h => h) ⟨rfl, ?_⟩ hS ?_
 rotate_left
 ·intro w' hS'
  (go_simp; try with_reducible rfl)
 simp only [Act.put, List.setIfInBounds_toArray, List.set_cons_zero, List.set_cons_succ]
 refine X_one 7 (listed' := #[true, true, true, true, true, true, true, true, false]) (by kernel_rfl) rfl rfl (fun K hK => ?_)
 go_simp
 have KK := Lib.hid (hT (((W.alloc (.cells #[.string op, .int .i64 a, .int .i64 b, .slice (some ⟨bb, off, none⟩) 1 c] 49)).alloc (.cells #[.string ⟨#[]⟩, .int .i64 0, .int .i64 0, .slice none 0 0] 49))).drew P (!no) (HC.out.below (Below.refl _ _).drew) (H.out.bel (Below.refl _ _).drew))
 (with_reducible refine KK.out.mono ?_)
 rintro e w1 ⟨M, rfl, hcore, hok, hb⟩
 have yk : Below (((W.alloc (.cells #[.string op, .int .i64 a, .int .i64 b, .slice (some ⟨bb, off, none⟩) 1 c] 49)).alloc (.cells #[.string ⟨#[]⟩, .int .i64 0, .int .i64 0, .slice none 0 0] 49))).heap.size ((W.alloc (.cells #[.string op, .int .i64 a, .int .i64 b, .slice (some ⟨bb, off, none⟩) 1 c] 49)).alloc (.cells #[.string ⟨#[]⟩, .int .i64 0, .int .i64 0, .slice none 0 0] 49)) w1 := (Below.refl _ _).drew.trans hb
 have HC1 := Lib.hid (HC.out.below yk)
 have HB51 := Lib.hid (HB5.out.below yk HB5.out.lt)
 have HB71 := Lib.hid (HB7.out.below yk HB7.out.lt)
 have HY1 := Lib.hid (Y.out.trans (yk.mono Y.out.size))
 have HOK := Lib.hid hok
 have HQ := Lib.hid hcore
 refine hK _ _ ⟨⟨HC1.out, HB51.out⟩, D0.out _ HY1.out⟩ ?_
 clear hK KK hcore hok hb yk
 refine X_tail (by kernel_rfl) ?_
 refine A_one 8 (listed' := #[true, true, true, true, true, true, true, true, true]) (by kernel_rfl) rfl rfl (fun K hK => ?_)
 have z0 : w1.cell? ⟨W.heap.size + 1, 0, none⟩ = some (.string ⟨#[]⟩) := HB71.out.cell 0
 have z1 : w1.cell? ⟨W.heap.size + 1, 1, none⟩ = some (.int .i64 0) := HB71.out.cell 1
 have z2 : w1.cell? ⟨W.heap.size + 1, 2, none⟩ = some (.int .i64 0) := HB71.out.cell 2
 have z3 : w1.cell? ⟨W.heap.size + 1, 3, none⟩ = some (.slice none 0 0) := HB71.out.cell 3
 have fz0 := HB71.out.frozen 0
 have fz1 := HB71.out.frozen 1
 have fz2 := HB71.out.frozen 2
 have fz3 := HB71.out.frozen 3
 have hzl := HB71.out.lt
 go_simp
 refine hK _ _ ?_
 clear hK z0 z1 z2 z3 fz0 fz1 fz2 fz3
 refine A_done (by kernel_rfl) ?_
 go_wp2
 have hOK := HOK.out.mono (Q := fun b => W.heap.size ≤ b ∧ b ≠ W.heap.size + 1) fun q _ hq => by (have hq' : _ ≤ q := hq); simp at hq'; omega
 have hX := lay_new hzl (by omega) HB71.out hOK HY1.out
 try dsimp only at hX
 generalize (((w1.setCell ⟨W.heap.size + 1, 0, none⟩ (.string M.op)).setCell ⟨W.heap.size + 1, 1, none⟩ (.int .i64 M.a)).setCell ⟨W.heap.size + 1, 2, none⟩ (.int .i64 M.b)).setCell ⟨W.heap.size + 1, 3, none⟩ (.slice M.s.A M.s.n M.s.c) = X at *
 have x0 : X.cell? ⟨W.heap.size + 1, 0, none⟩ = some (.string M.op) := hX.2.2.cell 0
 have x1 : X.cell? ⟨W.heap.size + 1, 1, none⟩ = some (.int .i64 M.a) := hX.2.2.cell 1
 have x2 : X.cell? ⟨W.heap.size + 1, 2, none⟩ = some (.int .i64 M.b) := hX.2.2.cell 2
 have x3 : X.cell? ⟨W.heap.size + 1, 3, none⟩ = some (.slice M.s.A M.s.n M.s.c) := hX.2.2.cell 3
 refine bodyPost_ret (v := .agg #[.string M.op, .int .i64 M.a, .int .i64 M.b, .slice M.s.A M.s.n M.s.c]) (by simp [results, Tryz.results64, go_sem, x0, x1, x2, x3]) rfl ?_
 exact ⟨M, rfl, HQ.out, hX.1, hX.2.1⟩
theorem core_node (M : MkM) : M.core = .node M.op M.a M.b M.core.kids := by cases M; rfl
set_option maxRecDepth 100000 in
set_option maxHeartbeats 8000000 in
theorem normal_any {bE bK bN : Nat} : ∀ M : MkM, NS bE bK bN M := by
 intro M
 induction M using MkM.ind with
 | h M ih =>
   intro W P no hC h
   have hneq := neqB
   have en2 := enters62
   have en3 := enters63
   have en4 := enters64
   have y : Below W.heap.size W ((W.alloc (.cells #[.string M.op, .int .i64 M.a, .int .i64 M.b, .slice M.s.A M.s.n M.s.c] 49)).alloc (.cells #[.string ⟨#[]⟩, .int .i64 0, .int .i64 0, .slice none 0 0] 49)) := ((Below.refl _ _).alloc (Nat.le_refl _) _).alloc (by simp) _
   have HB5 := Lib.hid ((Bk.new W 49 [.string M.op, .int .i64 M.a, .int .i64 M.b, .slice M.s.A M.s.n M.s.c]).alloc (.cells #[.string ⟨#[]⟩, .int .i64 0, .int .i64 0, .slice none 0 0] 49))
   have HB7 : Hid (Bk ((W.alloc (.cells #[.string M.op, .int .i64 M.a, .int .i64 M.b, .slice M.s.A M.s.n M.s.c] 49)).alloc (.cells #[.string ⟨#[]⟩, .int .i64 0, .int .i64 0, .slice none 0 0] 49)) (W.heap.size + 1) 49 [.string ⟨#[]⟩, .int .i64 0, .int .i64 0, .slice none 0 0]) := by
    have := Bk.new (W.alloc (.cells #[.string M.op, .int .i64 M.a, .int .i64 M.b, .slice M.s.A M.s.n M.s.c] 49)) 49 [.string ⟨#[]⟩, .int .i64 0, .int .i64 0, .slice none 0 0]
    rw [World.size_alloc] at this
    exact Lib.hid this
   have HW2 : Hid (W.heap.size ≤ (((W.alloc (.cells #[.string M.op, .int .i64 M.a, .int .i64 M.b, .slice M.s.A M.s.n M.s.c] 49)).alloc (.cells #[.string ⟨#[]⟩, .int .i64 0, .int .i64 0, .slice none 0 0] 49))).drew.heap.size ∧ W.heap.size + 1 < (((W.alloc (.cells #[.string M.op, .int .i64 M.a, .int .i64 M.b, .slice M.s.A M.s.n M.s.c] 49)).alloc (.cells #[.string ⟨#[]⟩, .int .i64 0, .int .i64 0, .slice none 0 0] 49))).drew.heap.size) := Lib.hid ⟨by simp; omega, by simp⟩
   have HC := Lib.hid (hC.below y)
   have H := Lib.hid (h.bel y)
   have HI := Lib.hid ih
   have Y := Lib.hid y
   have HD : Hid (Below (((W.alloc (.cells #[.string M.op, .int .i64 M.a, .int .i64 M.b, .slice M.s.A M.s.n M.s.c] 49)).alloc (.cells #[.string ⟨#[]⟩, .int .i64 0, .int .i64 0, .slice none 0 0] 49))).heap.size ((W.alloc (.cells #[.string M.op, .int .i64 M.a, .int .i64 M.b, .slice M.s.A M.s.n M.s.c] 49)).alloc (.cells #[.string ⟨#[]⟩, .int .i64 0, .int .i64 0, .slice none 0 0] 49)) (((W.alloc (.cells #[.string M.op, .int .i64 M.a, .int .i64 M.b, .slice M.s.A M.s.n M.s.c] 49)).alloc (.cells #[.string ⟨#[]⟩, .int .i64 0, .int .i64 0, .slice none 0 0] 49))).drew) := Lib.hid (Below.refl _ _).drew
   have q1 : (M.op.toList == [97, 110, 100]) = decide (M.op = sAnd) := by rw [← lAnd]; exact eqL _ _
   have q2 : (M.op.toList == [111, 114]) = decide (M.op = sOr) := by rw [← lOr]; exact eqL _ _
   have q3 : (M.op.toList == [110, 111, 116]) = decide (M.op = sNot) := by rw [← lNot]; exact eqL _ _
   have hcn := core_node M
   have hkl : M.core.kids.length = M.s.n := by rw [h.len, ← coreL_len]; cases M; rfl
   have hnE : bE < W.heap.size := hC.e.lt
   have hnK : bK < W.heap.size := hC.k.lt
   have hnN : bN < W.heap.size := hC.n.lt
   have hok := h
   have hctx := hC
   clear y ih hC h
   by_cases e1 : M.op = sAnd
   ·have HQ : Hid (M.core.norm no = .node (joinOp no) 0 0 (M.core.kids.map (·.norm no))) := by
     show _ = _
     conv => lhs; rw [hcn]
     rw [norm_join _ _ _ _ (.inl e1)]
     have : decide (M.op = nOr) = false := by rw [e1]; decide
     rw [this]; simp
    have e2 : ¬ M.op = sOr := by rw [e1]; decide
    rw [decide_eq_true e1] at q1
    rw [decide_eq_false e2] at q2
    clear e1 e2 q3 hcn hkl hok hctx
    go_enter Tryz.func64, Tryz.ntmps64
    go_wp2_with fail
    refine wp_region_X (fun w' => NCtx w' bE bK bN ∧ Bk w' W.heap.size 49 [.string M.op, .int .i64 M.a, .int .i64 M.b, .slice M.s.A M.s.n M.s.c]) 12 (n := 13) rfl (by kernel_rfl) (⟨HC.out.below (Below.refl _ _).drew, HB5.out.drew⟩) (fun hS => ?_)
    refine X_take 0 (some 14) (v := ?_) (listed' := #[true, false, false, false, false, false, false, false, false, false, false, false, false]) rfl rfl rfl (by kernel_rfl) (fun _ _ _ h => h) ⟨rfl, ?_⟩ hS ?_
    rotate_left
    ·intro w' hS'
     have e0 : w'.cell? ⟨bE, 0, none⟩ = some (.func (.func 63) #[] #[]) := hS'.1.e.cell 0
     have el := hS'.1.e.lt
     (go_simp; try with_reducible rfl)
    simp only [Act.put, List.setIfInBounds_toArray, List.set_cons_zero, List.set_cons_succ]
    refine X_take 1 (some 15) (v := ?_) (listed' := #[true, true, false, false, false, false, false, false, false, false, false, false, false]) rfl rfl rfl (by kernel_rfl) (fun _ _ _ h => h) ⟨rfl, ?_⟩ hS ?_
    rotate_left
    ·intro w' hS'
     (go_simp; try with_reducible rfl)
    simp only [Act.put, List.setIfInBounds_toArray, List.set_cons_zero, List.set_cons_succ]
    refine X_take 2 (some 16) (v := ?_) (listed' := #[true, true, true, false, false, false, false, false, false, false, false, false, false]) rfl rfl rfl (by kernel_rfl) (fun _ _ _ h => h) ⟨rfl, ?_⟩ hS ?_
    rotate_left
    ·intro w' hS'
     have e0 : w'.cell? ⟨W.heap.size, 0, none⟩ = some (.string M.op) := hS'.2.cell 0
     have e1 : w'.cell? ⟨W.heap.size, 1, none⟩ = some (.int .i64 M.a) := hS'.2.cell 1
     have e2 : w'.cell? ⟨W.heap.size, 2, none⟩ = some (.int .i64 M.b) := hS'.2.cell 2
     have e3 : w'.cell? ⟨W.heap.size, 3, none⟩ = some (.slice M.s.A M.s.n M.s.c) := hS'.2.cell 3
     have el := hS'.2.lt
     (go_simp; try with_reducible rfl)
    simp only [Act.put, List.setIfInBounds_toArray, List.set_cons_zero, List.set_cons_succ]
    refine X_take 3 (some 17) (v := ?_) (listed' := #[true, true, true, true, false, false, false, false, false, false, false, false, false]) rfl rfl rfl (by kernel_rfl) (fun _ _ _ h => h) ⟨rfl, ?_⟩ hS ?_
    rotate_left
    ·intro w' hS'
     (go_simp; try with_reducible rfl)
    simp only [Act.put, List.setIfInBounds_toArray, List.set_cons_zero, List.set_cons_succ]
    refine X_take 4 (some 18) (v := ?_) (listed' := #[true, true, true, true, true, false, false, false, false, false, false, false, false]) rfl rfl rfl (by kernel_rfl) (fun _ _ _ h => h) ⟨rfl, ?_⟩ hS ?_
    rotate_left
    ·intro w' hS'
     (go_simp; try with_reducible rfl)
    simp only [Act.put, List.setIfInBounds_toArray, List.set_cons_zero, List.set_cons_succ]
    refine X_take 5 (some 19) (v := ?_) (listed' := #[true, true, true, true, true, true, false, false, false, false, false, false, false]) rfl rfl rfl (by kernel_rfl) (fun _ _ _ h => h) ⟨rfl, ?_⟩ hS ?_
    rotate_left
    ·intro w' hS'
     (go_simp; try with_reducible rfl)
    simp only [Act.put, List.setIfInBounds_toArray, List.set_cons_zero, List.set_cons_succ]
    refine X_take 7 (some 21) (v := ?_) (listed' := #[true, true, true, true, true, true, false, true, false, false, false, false, false]) rfl rfl rfl (by kernel_rfl) (fun _ _ _ h => h) ⟨rfl, ?_⟩ hS ?_
    rotate_left
    ·intro w' hS'
     have e0 : w'.cell? ⟨bK, 0, none⟩ = some (.func (.func 62) #[] #[.pointer (some ⟨bN, 0, none⟩)]) := hS'.1.k.cell 0
     have el := hS'.1.k.lt
     (go_simp; try with_reducible rfl)
    simp only [Act.put, List.setIfInBounds_toArray, List.set_cons_zero, List.set_cons_succ]
    refine X_take 8 (some 22) (v := ?_) (listed' := #[true, true, true, true, true, true, false, true, true, false, false, false, false]) rfl rfl rfl (by kernel_rfl) (fun _ _ _ h => h) ⟨rfl, ?_⟩ hS ?_
    rotate_left
    ·intro w' hS'
     have e0 : w'.cell? ⟨W.heap.size, 0, none⟩ = some (.string M.op) := hS'.2.cell 0
     have e1 : w'.cell? ⟨W.heap.size, 1, none⟩ = some (.int .i64 M.a) := hS'.2.cell 1
     have e2 : w'.cell? ⟨W.heap.size, 2, none⟩ = some (.int .i64 M.b) := hS'.2.cell 2
     have e3 : w'.cell? ⟨W.heap.size, 3, none⟩ = some (.slice M.s.A M.s.n M.s.c) := hS'.2.cell 3
     have el := hS'.2.lt
     (go_simp; try with_reducible rfl)
    simp only [Act.put, List.setIfInBounds_toArray, List.set_cons_zero, List.set_cons_succ]
    refine X_take 9 (some 23) (v := ?_) (listed' := #[true, true, true, true, true, true, false, true, true, true, false, false, false]) rfl rfl rfl (by kernel_rfl) (fun _ _ _ h => h) ⟨rfl, ?_⟩ hS ?_
    rotate_left
    ·intro w' hS'
     (go_simp; try with_reducible rfl)
    simp only [Act.put, List.setIfInBounds_toArray, List.set_cons_zero, List.set_cons_succ]
    refine X_one 6 (listed' := #[true, true, true, true, true, true, true, true, true, true, false, false, false]) (by kernel_rfl) rfl rfl (fun K hK => ?_)
    go_simp
    have KE := Lib.hid (either_any (no) (((W.alloc (.cells #[.string M.op, .int .i64 M.a, .int .i64 M.b, .slice M.s.A M.s.n M.s.c] 49)).alloc (.cells #[.string ⟨#[]⟩, .int .i64 0, .int .i64 0, .slice none 0 0] 49))).drew)
    (with_reducible refine KE.out.mono ?_)
    rintro e w1 ⟨rfl, rfl⟩
    refine hK _ _ hS ?_
    clear hK KE
    refine X_one 10 (listed' := #[true, true, true, true, true, true, true, true, true, true, true, false, false]) (by kernel_rfl) rfl rfl (fun K hK => ?_)
    go_simp
    have KK := Lib.hid (nkids_any (no) (M := M) HI.out (HC.out.below HD.out) (H.out.bel HD.out))
    (with_reducible refine KK.out.mono ?_)
    rintro e w1 ⟨ks, s, rfl, hcore, hrow, hlen, hsm, heach, hb⟩
    have yk : Below (((W.alloc (.cells #[.string M.op, .int .i64 M.a, .int .i64 M.b, .slice M.s.A M.s.n M.s.c] 49)).alloc (.cells #[.string ⟨#[]⟩, .int .i64 0, .int .i64 0, .slice none 0 0] 49))).heap.size ((W.alloc (.cells #[.string M.op, .int .i64 M.a, .int .i64 M.b, .slice M.s.A M.s.n M.s.c] 49)).alloc (.cells #[.string ⟨#[]⟩, .int .i64 0, .int .i64 0, .slice none 0 0] 49)) w1 := HD.out.trans hb
    have HC1 := Lib.hid (HC.out.below yk)
    have HB51 := Lib.hid (HB5.out.below yk HB5.out.lt)
    have HB71 := Lib.hid (HB7.out.below yk HB7.out.lt)
    have HY1 := Lib.hid (Y.out.trans (yk.mono Y.out.size))
    have HX := Lib.hid (And.intro hcore (And.intro hrow (And.intro hlen (And.intro hsm heach))))
    refine hK _ _ ⟨HC1.out, HB51.out⟩ ?_
    clear hK KK hcore hrow hlen hsm heach hb yk
    refine X_one 11 (listed' := #[true, true, true, true, true, true, true, true, true, true, true, true, false]) (by kernel_rfl) rfl rfl (fun K hK => ?_)
    go_simp
    refine hK _ _ ⟨HC1.out, HB51.out⟩ ?_
    clear hK
    refine X_tail (by kernel_rfl) ?_
    refine A_one 12 (listed' := #[true, true, true, true, true, true, true, true, true, true, true, true, true]) (by kernel_rfl) rfl rfl (fun K hK => ?_)
    have z0 : w1.cell? ⟨W.heap.size + 1, 0, none⟩ = some (.string ⟨#[]⟩) := HB71.out.cell 0
    have z1 : w1.cell? ⟨W.heap.size + 1, 1, none⟩ = some (.int .i64 0) := HB71.out.cell 1
    have z2 : w1.cell? ⟨W.heap.size + 1, 2, none⟩ = some (.int .i64 0) := HB71.out.cell 2
    have z3 : w1.cell? ⟨W.heap.size + 1, 3, none⟩ = some (.slice none 0 0) := HB71.out.cell 3
    have fz0 := HB71.out.frozen 0
    have fz1 := HB71.out.frozen 1
    have fz2 := HB71.out.frozen 2
    have fz3 := HB71.out.frozen 3
    have hzl := HB71.out.lt
    go_simp
    refine hK _ _ ?_
    clear hK z0 z1 z2 z3 fz0 fz1 fz2 fz3
    refine A_done (by kernel_rfl) ?_
    go_wp2
    have hOK := join_ok (no) HX.out.2.1 HX.out.2.2.1 HX.out.2.2.2.1 HX.out.2.2.2.2 HW2.out
    have hX := lay_new hzl (by omega) HB71.out hOK HY1.out
    try dsimp only at hX
    generalize (((w1.setCell ⟨W.heap.size + 1, 0, none⟩ (.string (joinOp (no)))).setCell ⟨W.heap.size + 1, 1, none⟩ (.int .i64 0)).setCell ⟨W.heap.size + 1, 2, none⟩ (.int .i64 0)).setCell ⟨W.heap.size + 1, 3, none⟩ (.slice s.A s.n s.c) = X at *
    have x0 : X.cell? ⟨W.heap.size + 1, 0, none⟩ = some (.string (joinOp (no))) := hX.2.2.cell 0
    have x1 : X.cell? ⟨W.heap.size + 1, 1, none⟩ = some (.int .i64 0) := hX.2.2.cell 1
    have x2 : X.cell? ⟨W.heap.size + 1, 2, none⟩ = some (.int .i64 0) := hX.2.2.cell 2
    have x3 : X.cell? ⟨W.heap.size + 1, 3, none⟩ = some (.slice s.A s.n s.c) := hX.2.2.cell 3
    refine bodyPost_ret (v := .agg #[.string (joinOp (no)), .int .i64 0, .int .i64 0, .slice s.A s.n s.c]) (by simp [results, Tryz.results64, go_sem, x0, x1, x2, x3]) rfl ?_
    rw [HQ.out]
    exact ⟨⟨joinOp (no), 0, 0, ks, s⟩, rfl, by show Mk.node _ 0 0 (MkM.coreL ks) = _; rw [HX.out.1], hX.1, hX.2.1⟩
   rw [decide_eq_false e1] at q1
   by_cases e2 : M.op = sOr
   ·have HQ : Hid (M.core.norm no = .node (joinOp (!no)) 0 0 (M.core.kids.map (·.norm no))) := by
     show _ = _
     conv => lhs; rw [hcn]
     rw [norm_join _ _ _ _ (.inr e2)]
     have : decide (M.op = nOr) = true := by rw [e2]; decide
     rw [this]; simp
    rw [decide_eq_true e2] at q2
    clear e1 e2 q3 hcn hkl hok hctx
    go_enter Tryz.func64, Tryz.ntmps64
    go_wp2_with fail
    refine wp_region_X (fun w' => NCtx w' bE bK bN ∧ Bk w' W.heap.size 49 [.string M.op, .int .i64 M.a, .int .i64 M.b, .slice M.s.A M.s.n M.s.c]) 12 (n := 13) rfl (by kernel_rfl) (⟨HC.out.below (Below.refl _ _).drew, HB5.out.drew⟩) (fun hS => ?_)
    refine X_take 0 (some 14) (v := ?_) (listed' := #[true, false, false, false, false, false, false, false, false, false, false, false, false]) rfl rfl rfl (by kernel_rfl) (fun _ _ _ h => h) ⟨rfl, ?_⟩ hS ?_
    rotate_left
    ·intro w' hS'
     have e0 : w'.cell? ⟨bE, 0, none⟩ = some (.func (.func 63) #[] #[]) := hS'.1.e.cell 0
     have el := hS'.1.e.lt
     (go_simp; try with_reducible rfl)
    simp only [Act.put, List.setIfInBounds_toArray, List.set_cons_zero, List.set_cons_succ]
    refine X_take 1 (some 15) (v := ?_) (listed' := #[true, true, false, false, false, false, false, false, false, false, false, false, false]) rfl rfl rfl (by kernel_rfl) (fun _ _ _ h => h) ⟨rfl, ?_⟩ hS ?_
    rotate_left
    ·intro w' hS'
     (go_simp; try with_reducible rfl)
    simp only [Act.put, List.setIfInBounds_toArray, List.set_cons_zero, List.set_cons_succ]
    refine X_take 2 (some 16) (v := ?_) (listed' := #[true, true, true, false, false, false, false, false, false, false, false, false, false]) rfl rfl rfl (by kernel_rfl) (fun _ _ _ h => h) ⟨rfl, ?_⟩ hS ?_
    rotate_left
    ·intro w' hS'
     have e0 : w'.cell? ⟨W.heap.size, 0, none⟩ = some (.string M.op) := hS'.2.cell 0
     have e1 : w'.cell? ⟨W.heap.size, 1, none⟩ = some (.int .i64 M.a) := hS'.2.cell 1
     have e2 : w'.cell? ⟨W.heap.size, 2, none⟩ = some (.int .i64 M.b) := hS'.2.cell 2
     have e3 : w'.cell? ⟨W.heap.size, 3, none⟩ = some (.slice M.s.A M.s.n M.s.c) := hS'.2.cell 3
     have el := hS'.2.lt
     (go_simp; try with_reducible rfl)
    simp only [Act.put, List.setIfInBounds_toArray, List.set_cons_zero, List.set_cons_succ]
    refine X_take 3 (some 17) (v := ?_) (listed' := #[true, true, true, true, false, false, false, false, false, false, false, false, false]) rfl rfl rfl (by kernel_rfl) (fun _ _ _ h => h) ⟨rfl, ?_⟩ hS ?_
    rotate_left
    ·intro w' hS'
     (go_simp; try with_reducible rfl)
    simp only [Act.put, List.setIfInBounds_toArray, List.set_cons_zero, List.set_cons_succ]
    refine X_take 4 (some 18) (v := ?_) (listed' := #[true, true, true, true, true, false, false, false, false, false, false, false, false]) rfl rfl rfl (by kernel_rfl) (fun _ _ _ h => h) ⟨rfl, ?_⟩ hS ?_
    rotate_left
    ·intro w' hS'
     (go_simp; try with_reducible rfl)
    simp only [Act.put, List.setIfInBounds_toArray, List.set_cons_zero, List.set_cons_succ]
    refine X_take 5 (some 19) (v := ?_) (listed' := #[true, true, true, true, true, true, false, false, false, false, false, false, false]) rfl rfl rfl (by kernel_rfl) (fun _ _ _ h => h) ⟨rfl, ?_⟩ hS ?_
    rotate_left
    ·intro w' hS'
     (go_simp; try with_reducible rfl)
    simp only [Act.put, List.setIfInBounds_toArray, List.set_cons_zero, List.set_cons_succ]
    refine X_take 7 (some 21) (v := ?_) (listed' := #[true, true, true, true, true, true, false, true, false, false, false, false, false]) rfl rfl rfl (by kernel_rfl) (fun _ _ _ h => h) ⟨rfl, ?_⟩ hS ?_
    rotate_left
    ·intro w' hS'
     have e0 : w'.cell? ⟨bK, 0, none⟩ = some (.func (.func 62) #[] #[.pointer (some ⟨bN, 0, none⟩)]) := hS'.1.k.cell 0
     have el := hS'.1.k.lt
     (go_simp; try with_reducible rfl)
    simp only [Act.put, List.setIfInBounds_toArray, List.set_cons_zero, List.set_cons_succ]
    refine X_take 8 (some 22) (v := ?_) (listed' := #[true, true, true, true, true, true, false, true, true, false, false, false, false]) rfl rfl rfl (by kernel_rfl) (fun _ _ _ h => h) ⟨rfl, ?_⟩ hS ?_
    rotate_left
    ·intro w' hS'
     have e0 : w'.cell? ⟨W.heap.size, 0, none⟩ = some (.string M.op) := hS'.2.cell 0
     have e1 : w'.cell? ⟨W.heap.size, 1, none⟩ = some (.int .i64 M.a) := hS'.2.cell 1
     have e2 : w'.cell? ⟨W.heap.size, 2, none⟩ = some (.int .i64 M.b) := hS'.2.cell 2
     have e3 : w'.cell? ⟨W.heap.size, 3, none⟩ = some (.slice M.s.A M.s.n M.s.c) := hS'.2.cell 3
     have el := hS'.2.lt
     (go_simp; try with_reducible rfl)
    simp only [Act.put, List.setIfInBounds_toArray, List.set_cons_zero, List.set_cons_succ]
    refine X_take 9 (some 23) (v := ?_) (listed' := #[true, true, true, true, true, true, false, true, true, true, false, false, false]) rfl rfl rfl (by kernel_rfl) (fun _ _ _ h => h) ⟨rfl, ?_⟩ hS ?_
    rotate_left
    ·intro w' hS'
     (go_simp; try with_reducible rfl)
    simp only [Act.put, List.setIfInBounds_toArray, List.set_cons_zero, List.set_cons_succ]
    refine X_one 6 (listed' := #[true, true, true, true, true, true, true, true, true, true, false, false, false]) (by kernel_rfl) rfl rfl (fun K hK => ?_)
    go_simp
    have KE := Lib.hid (either_any (!no) (((W.alloc (.cells #[.string M.op, .int .i64 M.a, .int .i64 M.b, .slice M.s.A M.s.n M.s.c] 49)).alloc (.cells #[.string ⟨#[]⟩, .int .i64 0, .int .i64 0, .slice none 0 0] 49))).drew)
    (with_reducible refine KE.out.mono ?_)
    rintro e w1 ⟨rfl, rfl⟩
    refine hK _ _ hS ?_
    clear hK KE
    refine X_one 10 (listed' := #[true, true, true, true, true, true, true, true, true, true, true, false, false]) (by kernel_rfl) rfl rfl (fun K hK => ?_)
    go_simp
    have KK := Lib.hid (nkids_any (no) (M := M) HI.out (HC.out.below HD.out) (H.out.bel HD.out))
    (with_reducible refine KK.out.mono ?_)
    rintro e w1 ⟨ks, s, rfl, hcore, hrow, hlen, hsm, heach, hb⟩
    have yk : Below (((W.alloc (.cells #[.string M.op, .int .i64 M.a, .int .i64 M.b, .slice M.s.A M.s.n M.s.c] 49)).alloc (.cells #[.string ⟨#[]⟩, .int .i64 0, .int .i64 0, .slice none 0 0] 49))).heap.size ((W.alloc (.cells #[.string M.op, .int .i64 M.a, .int .i64 M.b, .slice M.s.A M.s.n M.s.c] 49)).alloc (.cells #[.string ⟨#[]⟩, .int .i64 0, .int .i64 0, .slice none 0 0] 49)) w1 := HD.out.trans hb
    have HC1 := Lib.hid (HC.out.below yk)
    have HB51 := Lib.hid (HB5.out.below yk HB5.out.lt)
    have HB71 := Lib.hid (HB7.out.below yk HB7.out.lt)
    have HY1 := Lib.hid (Y.out.trans (yk.mono Y.out.size))
    have HX := Lib.hid (And.intro hcore (And.intro hrow (And.intro hlen (And.intro hsm heach))))
    refine hK _ _ ⟨HC1.out, HB51.out⟩ ?_
    clear hK KK hcore hrow hlen hsm heach hb yk
    refine X_one 11 (listed' := #[true, true, true, true, true, true, true, true, true, true, true, true, false]) (by kernel_rfl) rfl rfl (fun K hK => ?_)
    go_simp
    refine hK _ _ ⟨HC1.out, HB51.out⟩ ?_
    clear hK
    refine X_tail (by kernel_rfl) ?_
    refine A_one 12 (listed' := #[true, true, true, true, true, true, true, true, true, true, true, true, true]) (by kernel_rfl) rfl rfl (fun K hK => ?_)
    have z0 : w1.cell? ⟨W.heap.size + 1, 0, none⟩ = some (.string ⟨#[]⟩) := HB71.out.cell 0
    have z1 : w1.cell? ⟨W.heap.size + 1, 1, none⟩ = some (.int .i64 0) := HB71.out.cell 1
    have z2 : w1.cell? ⟨W.heap.size + 1, 2, none⟩ = some (.int .i64 0) := HB71.out.cell 2
    have z3 : w1.cell? ⟨W.heap.size + 1, 3, none⟩ = some (.slice none 0 0) := HB71.out.cell 3
    have fz0 := HB71.out.frozen 0
    have fz1 := HB71.out.frozen 1
    have fz2 := HB71.out.frozen 2
    have fz3 := HB71.out.frozen 3
    have hzl := HB71.out.lt
    go_simp
    refine hK _ _ ?_
    clear hK z0 z1 z2 z3 fz0 fz1 fz2 fz3
    refine A_done (by kernel_rfl) ?_
    go_wp2
    have hOK := join_ok (!no) HX.out.2.1 HX.out.2.2.1 HX.out.2.2.2.1 HX.out.2.2.2.2 HW2.out
    have hX := lay_new hzl (by omega) HB71.out hOK HY1.out
    try dsimp only at hX
    generalize (((w1.setCell ⟨W.heap.size + 1, 0, none⟩ (.string (joinOp (!no)))).setCell ⟨W.heap.size + 1, 1, none⟩ (.int .i64 0)).setCell ⟨W.heap.size + 1, 2, none⟩ (.int .i64 0)).setCell ⟨W.heap.size + 1, 3, none⟩ (.slice s.A s.n s.c) = X at *
    have x0 : X.cell? ⟨W.heap.size + 1, 0, none⟩ = some (.string (joinOp (!no))) := hX.2.2.cell 0
    have x1 : X.cell? ⟨W.heap.size + 1, 1, none⟩ = some (.int .i64 0) := hX.2.2.cell 1
    have x2 : X.cell? ⟨W.heap.size + 1, 2, none⟩ = some (.int .i64 0) := hX.2.2.cell 2
    have x3 : X.cell? ⟨W.heap.size + 1, 3, none⟩ = some (.slice s.A s.n s.c) := hX.2.2.cell 3
    refine bodyPost_ret (v := .agg #[.string (joinOp (!no)), .int .i64 0, .int .i64 0, .slice s.A s.n s.c]) (by simp [results, Tryz.results64, go_sem, x0, x1, x2, x3]) rfl ?_
    rw [HQ.out]
    exact ⟨⟨joinOp (!no), 0, 0, ks, s⟩, rfl, by show Mk.node _ 0 0 (MkM.coreL ks) = _; rw [HX.out.1], hX.1, hX.2.1⟩
   rw [decide_eq_false e2] at q2
   by_cases e3 : M.op = sNot
   ·rw [decide_eq_true e3] at q3
    by_cases hn1 : M.s.n = 1
    ·obtain ⟨bb, off, hA, hbb, d0, d1, d2, d3⟩ := H.out.at_ 0 (by have := H.out.len; omega)
     obtain ⟨k, hk⟩ : ∃ k, M.ks = [k] := List.length_eq_one_iff.1 (by have := H.out.len; omega)
     have hk0 : M.ks[0]'(by rw [hk]; simp) = k := by simp [hk]
     have hmem : k ∈ M.ks := by rw [hk]; exact List.mem_cons_self ..
     have HQ : M.core.norm no = k.core.norm (!no) := by
      have hkk : M.core.kids = [k.core] := by
       have : M.core.kids = MkM.coreL M.ks := by cases M; rfl
       rw [this, hk]; rfl
      rw [hcn, e3, hkk]
      exact norm_not1 _ _ _ _
     rw [HQ, hA, hn1]
     rw [hk0] at d0 d1 d2 d3
     have hbW : bb < W.heap.size := by
      have := (hok.row); rcases this with h0 | ⟨b', off', cur, fl, hA', _, hb', _⟩
      ·have hl := congrArg List.length h0
       rw [mcells_len, hk] at hl; simp at hl
      ·rw [hA] at hA'; cases hA'; exact (Array.getElem?_eq_some_iff.1 hb').1
     exact norm_one (HI.out k hmem) hctx (hok.each k hmem) hbW ((Y.out.cell (p := ⟨bb, off + 0 * 4, none⟩) hbW).symm.trans d0) ((Y.out.cell (p := ⟨bb, off + 0 * 4 + 1, none⟩) hbW).symm.trans d1) ((Y.out.cell (p := ⟨bb, off + 0 * 4 + 2, none⟩) hbW).symm.trans d2) ((Y.out.cell (p := ⟨bb, off + 0 * 4 + 3, none⟩) hbW).symm.trans d3) q1 q2 q3
    ·have HQ : Hid (M.core.norm no = .node (joinOp no) 0 0 (M.core.kids.map (·.norm (!no)))) := by
      show _ = _
      have hk1 : M.core.kids.length ≠ 1 := by rw [hkl]; exact hn1
      generalize M.core.kids = kk at *
      rw [hcn, e3]
      exact norm_not _ _ _ _ hk1
     have hn1' : ¬ (M.s.n : Int) = 1 := by omega
     have hn2 : ((M.s.n : Int) == 1) = false := by simpa using hn1'
     clear e1 e2 e3 hcn hkl hn1 hok hctx
     go_enter Tryz.func64, Tryz.ntmps64
     go_wp2_with fail
     refine wp_region_X (fun w' => NCtx w' bE bK bN ∧ Bk w' W.heap.size 49 [.string M.op, .int .i64 M.a, .int .i64 M.b, .slice M.s.A M.s.n M.s.c]) 9 (n := 10) rfl (by kernel_rfl) (⟨HC.out.below (Below.refl _ _).drew, HB5.out.drew⟩) (fun hS => ?_)
     refine X_take 0 (some 40) (v := ?_) (listed' := #[true, false, false, false, false, false, false, false, false, false]) rfl rfl rfl (by kernel_rfl) (fun _ _ _ h => h) ⟨rfl, ?_⟩ hS ?_
     rotate_left
     ·intro w' hS'
      have e0 : w'.cell? ⟨bE, 0, none⟩ = some (.func (.func 63) #[] #[]) := hS'.1.e.cell 0
      have el := hS'.1.e.lt
      (go_simp; try with_reducible rfl)
     simp only [Act.put, List.setIfInBounds_toArray, List.set_cons_zero, List.set_cons_succ]
     refine X_take 1 (some 41) (v := ?_) (listed' := #[true, true, false, false, false, false, false, false, false, false]) rfl rfl rfl (by kernel_rfl) (fun _ _ _ h => h) ⟨rfl, ?_⟩ hS ?_
     rotate_left
     ·intro w' hS'
      (go_simp; try with_reducible rfl)
     simp only [Act.put, List.setIfInBounds_toArray, List.set_cons_zero, List.set_cons_succ]
     refine X_take 3 (some 43) (v := ?_) (listed' := #[true, true, false, true, false, false, false, false, false, false]) rfl rfl rfl (by kernel_rfl) (fun _ _ _ h => h) ⟨rfl, ?_⟩ hS ?_
     rotate_left
     ·intro w' hS'
      have e0 : w'.cell? ⟨bK, 0, none⟩ = some (.func (.func 62) #[] #[.pointer (some ⟨bN, 0, none⟩)]) := hS'.1.k.cell 0
      have el := hS'.1.k.lt
      (go_simp; try with_reducible rfl)
     simp only [Act.put, List.setIfInBounds_toArray, List.set_cons_zero, List.set_cons_succ]
     refine X_take 4 (some 44) (v := ?_) (listed' := #[true, true, false, true, true, false, false, false, false, false]) rfl rfl rfl (by kernel_rfl) (fun _ _ _ h => h) ⟨rfl, ?_⟩ hS ?_
     rotate_left
     ·intro w' hS'
      have e0 : w'.cell? ⟨W.heap.size, 0, none⟩ = some (.string M.op) := hS'.2.cell 0
      have e1 : w'.cell? ⟨W.heap.size, 1, none⟩ = some (.int .i64 M.a) := hS'.2.cell 1
      have e2 : w'.cell? ⟨W.heap.size, 2, none⟩ = some (.int .i64 M.b) := hS'.2.cell 2
      have e3 : w'.cell? ⟨W.heap.size, 3, none⟩ = some (.slice M.s.A M.s.n M.s.c) := hS'.2.cell 3
      have el := hS'.2.lt
      (go_simp; try with_reducible rfl)
     simp only [Act.put, List.setIfInBounds_toArray, List.set_cons_zero, List.set_cons_succ]
     refine X_take 5 (some 45) (v := ?_) (listed' := #[true, true, false, true, true, true, false, false, false, false]) rfl rfl rfl (by kernel_rfl) (fun _ _ _ h => h) ⟨rfl, ?_⟩ hS ?_
     rotate_left
     ·intro w' hS'
      (go_simp; try with_reducible rfl)
     simp only [Act.put, List.setIfInBounds_toArray, List.set_cons_zero, List.set_cons_succ]
     refine X_take 6 (some 46) (v := ?_) (listed' := #[true, true, false, true, true, true, true, false, false, false]) rfl rfl rfl (by kernel_rfl) (fun _ _ _ h => h) ⟨rfl, ?_⟩ hS ?_
     rotate_left
     ·intro w' hS'
      (go_simp; try with_reducible rfl)
     simp only [Act.put, List.setIfInBounds_toArray, List.set_cons_zero, List.set_cons_succ]
     refine X_one 2 (listed' := #[true, true, true, true, true, true, true, false, false, false]) (by kernel_rfl) rfl rfl (fun K hK => ?_)
     go_simp
     have KE := Lib.hid (either_any (no) (((W.alloc (.cells #[.string M.op, .int .i64 M.a, .int .i64 M.b, .slice M.s.A M.s.n M.s.c] 49)).alloc (.cells #[.string ⟨#[]⟩, .int .i64 0, .int .i64 0, .slice none 0 0] 49))).drew)
     (with_reducible refine KE.out.mono ?_)
     rintro e w1 ⟨rfl, rfl⟩
     refine hK _ _ hS ?_
     clear hK KE
     refine X_one 7 (listed' := #[true, true, true, true, true, true, true, true, false, false]) (by kernel_rfl) rfl rfl (fun K hK => ?_)
     go_simp
     have KK := Lib.hid (nkids_any (!no) (M := M) HI.out (HC.out.below HD.out) (H.out.bel HD.out))
     (with_reducible refine KK.out.mono ?_)
     rintro e w1 ⟨ks, s, rfl, hcore, hrow, hlen, hsm, heach, hb⟩
     have yk : Below (((W.alloc (.cells #[.string M.op, .int .i64 M.a, .int .i64 M.b, .slice M.s.A M.s.n M.s.c] 49)).alloc (.cells #[.string ⟨#[]⟩, .int .i64 0, .int .i64 0, .slice none 0 0] 49))).heap.size ((W.alloc (.cells #[.string M.op, .int .i64 M.a, .int .i64 M.b, .slice M.s.A M.s.n M.s.c] 49)).alloc (.cells #[.string ⟨#[]⟩, .int .i64 0, .int .i64 0, .slice none 0 0] 49)) w1 := HD.out.trans hb
     have HC1 := Lib.hid (HC.out.below yk)
     have HB51 := Lib.hid (HB5.out.below yk HB5.out.lt)
     have HB71 := Lib.hid (HB7.out.below yk HB7.out.lt)
     have HY1 := Lib.hid (Y.out.trans (yk.mono Y.out.size))
     have HX := Lib.hid (And.intro hcore (And.intro hrow (And.intro hlen (And.intro hsm heach))))
     refine hK _ _ ⟨HC1.out, HB51.out⟩ ?_
     clear hK KK hcore hrow hlen hsm heach hb yk
     refine X_one 8 (listed' := #[true, true, true, true, true, true, true, true, true, false]) (by kernel_rfl) rfl rfl (fun K hK => ?_)
     go_simp
     refine hK _ _ ⟨HC1.out, HB51.out⟩ ?_
     clear hK
     refine X_tail (by kernel_rfl) ?_
     refine A_one 9 (listed' := #[true, true, true, true, true, true, true, true, true, true]) (by kernel_rfl) rfl rfl (fun K hK => ?_)
     have z0 : w1.cell? ⟨W.heap.size + 1, 0, none⟩ = some (.string ⟨#[]⟩) := HB71.out.cell 0
     have z1 : w1.cell? ⟨W.heap.size + 1, 1, none⟩ = some (.int .i64 0) := HB71.out.cell 1
     have z2 : w1.cell? ⟨W.heap.size + 1, 2, none⟩ = some (.int .i64 0) := HB71.out.cell 2
     have z3 : w1.cell? ⟨W.heap.size + 1, 3, none⟩ = some (.slice none 0 0) := HB71.out.cell 3
     have fz0 := HB71.out.frozen 0
     have fz1 := HB71.out.frozen 1
     have fz2 := HB71.out.frozen 2
     have fz3 := HB71.out.frozen 3
     have hzl := HB71.out.lt
     go_simp
     refine hK _ _ ?_
     clear hK z0 z1 z2 z3 fz0 fz1 fz2 fz3
     refine A_done (by kernel_rfl) ?_
     go_wp2
     have hOK := join_ok (no) HX.out.2.1 HX.out.2.2.1 HX.out.2.2.2.1 HX.out.2.2.2.2 HW2.out
     have hX := lay_new hzl (by omega) HB71.out hOK HY1.out
     try dsimp only at hX
     generalize (((w1.setCell ⟨W.heap.size + 1, 0, none⟩ (.string (joinOp (no)))).setCell ⟨W.heap.size + 1, 1, none⟩ (.int .i64 0)).setCell ⟨W.heap.size + 1, 2, none⟩ (.int .i64 0)).setCell ⟨W.heap.size + 1, 3, none⟩ (.slice s.A s.n s.c) = X at *
     have x0 : X.cell? ⟨W.heap.size + 1, 0, none⟩ = some (.string (joinOp (no))) := hX.2.2.cell 0
     have x1 : X.cell? ⟨W.heap.size + 1, 1, none⟩ = some (.int .i64 0) := hX.2.2.cell 1
     have x2 : X.cell? ⟨W.heap.size + 1, 2, none⟩ = some (.int .i64 0) := hX.2.2.cell 2
     have x3 : X.cell? ⟨W.heap.size + 1, 3, none⟩ = some (.slice s.A s.n s.c) := hX.2.2.cell 3
     refine bodyPost_ret (v := .agg #[.string (joinOp (no)), .int .i64 0, .int .i64 0, .slice s.A s.n s.c]) (by simp [results, Tryz.results64, go_sem, x0, x1, x2, x3]) rfl ?_
     rw [HQ.out]
     exact ⟨⟨joinOp (no), 0, 0, ks, s⟩, rfl, by show Mk.node _ 0 0 (MkM.coreL ks) = _; rw [HX.out.1], hX.1, hX.2.1⟩
   rw [decide_eq_false e3] at q3
   have hQ : M.core.norm no = if no then .node nNot 0 0 [.node M.op M.a M.b []] else .node M.op M.a M.b [] := by
    rw [hcn]; exact norm_alone _ _ _ _ (by simp only [not_or]; exact ⟨e1, e2⟩) e3
   have hOp := hok.hop
   have hHa := hok.ha
   have hHb := hok.hb
   have HQ0 := Lib.hid hQ
   clear e1 e2 e3 hcn hkl hok hctx hQ
   cases no
   ·go_enter Tryz.func64, Tryz.ntmps64
    go_wp2
    refine bodyPost_ret (v := .agg #[.string M.op, .int .i64 M.a, .int .i64 M.b, .slice none 0 0]) (by simp [results, Tryz.results64, go_sem]) rfl ?_
    have hq := HQ0.out
    rw [if_neg (by decide)] at hq
    rw [hq]
    exact ⟨⟨M.op, M.a, M.b, [], ⟨none, 0, 0⟩⟩, rfl, rfl, leaf_ok _ _ hOp hHa hHb, (((Below.refl _ _).alloc (Nat.le_refl _) _).alloc (by simp) _).alloc (by simp; omega) _⟩
   ·go_enter Tryz.func64, Tryz.ntmps64
    go_wp2
    refine bodyPost_ret (v := .agg #[.string ⟨#[110, 111, 116]⟩, .int .i64 0, .int .i64 0, .slice (some ⟨W.heap.size + 1 + 1 + 1, 0, none⟩) 1 1]) (by simp [results, Tryz.results64, go_sem]) rfl ?_
    have hq := HQ0.out
    rw [if_pos trivial] at hq
    rw [hq]
    refine ⟨⟨⟨#[110, 111, 116]⟩, 0, 0, [⟨M.op, M.a, M.b, [], ⟨none, 0, 0⟩⟩], ⟨some ⟨W.heap.size + 1 + 1 + 1, 0, none⟩, 1, 1⟩⟩, rfl, rfl, .mk _ _ _ _ _ ?_ rfl (show (1 : Nat) ≤ 100000 by decide) (by decide) ⟨by decide, by decide⟩ ⟨by decide, by decide⟩ fun k hk => ?_, ((((Below.refl _ _).alloc (Nat.le_refl _) _).alloc (by simp) _).alloc (by simp; omega) _).alloc (by simp; omega) _⟩
    ·have := PRow.one (w := ((W.alloc (.cells #[.string M.op, .int .i64 M.a, .int .i64 M.b, .slice M.s.A M.s.n M.s.c] 49)).alloc (.cells #[.string ⟨#[110, 111, 116]⟩, .int .i64 0, .int .i64 0, .slice (some ⟨W.heap.size + 1 + 1 + 1, 0, none⟩) 1 1] 49)).alloc (.cells #[.string M.op, .int .i64 M.a, .int .i64 M.b, .slice none 0 0] 49)) ⟨M.op, M.a, M.b, [], ⟨none, 0, 0⟩⟩ (P := fun b => W.heap.size ≤ b) (by simp; omega)
     rw [World.size_alloc, World.size_alloc, World.size_alloc] at this
     exact this
    ·obtain rfl : k = ⟨M.op, M.a, M.b, [], ⟨none, 0, 0⟩⟩ := by simpa using hk
     exact leaf_ok _ _ hOp hHa hHb
set_option maxRecDepth 100000 in
set_option maxHeartbeats 2000000 in
theorem normalM_any (M : MkM) (W : World) (P : Nat → Prop) (h : M.Ok W 49 P) : Calls Tryz.prog 28 #[.agg #[.string M.op, .int .i64 M.a, .int .i64 M.b, .slice M.s.A M.s.n M.s.c]] W (NewM W (M.core.norm false)) := by
 have hmf := hmfN
 have en4 := enters64
 have y : Below W.heap.size W (((((W.alloc (.cells #[.string M.op, .int .i64 M.a, .int .i64 M.b, .slice M.s.A M.s.n M.s.c] 49)).alloc (.cells #[.string ⟨#[]⟩, .int .i64 0, .int .i64 0, .slice none 0 0] 49)).alloc (.cells #[.func (.func 64) #[] #[.pointer (some ⟨W.heap.size + 1 + 1 + 1 + 1, 0, none⟩), .pointer (some ⟨W.heap.size + 1 + 1 + 1, 0, none⟩), .pointer (some ⟨W.heap.size + 1 + 1, 0, none⟩)]] 127)).alloc (.cells #[.func (.func 62) #[] #[.pointer (some ⟨W.heap.size + 1 + 1, 0, none⟩)]] 128)).alloc (.cells #[.func (.func 63) #[] #[]] 129)) := (((((Below.refl _ _).alloc (Nat.le_refl _) _).alloc (by simp) _).alloc (by simp; omega) _).alloc (by simp; omega) _).alloc (by simp; omega) _
 have hC : NCtx (((((W.alloc (.cells #[.string M.op, .int .i64 M.a, .int .i64 M.b, .slice M.s.A M.s.n M.s.c] 49)).alloc (.cells #[.string ⟨#[]⟩, .int .i64 0, .int .i64 0, .slice none 0 0] 49)).alloc (.cells #[.func (.func 64) #[] #[.pointer (some ⟨W.heap.size + 1 + 1 + 1 + 1, 0, none⟩), .pointer (some ⟨W.heap.size + 1 + 1 + 1, 0, none⟩), .pointer (some ⟨W.heap.size + 1 + 1, 0, none⟩)]] 127)).alloc (.cells #[.func (.func 62) #[] #[.pointer (some ⟨W.heap.size + 1 + 1, 0, none⟩)]] 128)).alloc (.cells #[.func (.func 63) #[] #[]] 129)) (W.heap.size + 1 + 1 + 1 + 1) (W.heap.size + 1 + 1 + 1) (W.heap.size + 1 + 1) := by
  refine ⟨?_, ?_, ?_⟩
  ·have := Bk.new ((((W.alloc (.cells #[.string M.op, .int .i64 M.a, .int .i64 M.b, .slice M.s.A M.s.n M.s.c] 49)).alloc (.cells #[.string ⟨#[]⟩, .int .i64 0, .int .i64 0, .slice none 0 0] 49)).alloc (.cells #[.func (.func 64) #[] #[.pointer (some ⟨W.heap.size + 1 + 1 + 1 + 1, 0, none⟩), .pointer (some ⟨W.heap.size + 1 + 1 + 1, 0, none⟩), .pointer (some ⟨W.heap.size + 1 + 1, 0, none⟩)]] 127)).alloc (.cells #[.func (.func 62) #[] #[.pointer (some ⟨W.heap.size + 1 + 1, 0, none⟩)]] 128)) 129 [.func (.func 63) #[] #[]]
   rw [World.size_alloc, World.size_alloc, World.size_alloc, World.size_alloc] at this
   exact this
  ·have := (Bk.new (((W.alloc (.cells #[.string M.op, .int .i64 M.a, .int .i64 M.b, .slice M.s.A M.s.n M.s.c] 49)).alloc (.cells #[.string ⟨#[]⟩, .int .i64 0, .int .i64 0, .slice none 0 0] 49)).alloc (.cells #[.func (.func 64) #[] #[.pointer (some ⟨W.heap.size + 1 + 1 + 1 + 1, 0, none⟩), .pointer (some ⟨W.heap.size + 1 + 1 + 1, 0, none⟩), .pointer (some ⟨W.heap.size + 1 + 1, 0, none⟩)]] 127)) 128 [.func (.func 62) #[] #[.pointer (some ⟨W.heap.size + 1 + 1, 0, none⟩)]]).alloc (.cells #[.func (.func 63) #[] #[]] 129)
   rw [World.size_alloc, World.size_alloc, World.size_alloc] at this
   exact this
  ·have := ((Bk.new ((W.alloc (.cells #[.string M.op, .int .i64 M.a, .int .i64 M.b, .slice M.s.A M.s.n M.s.c] 49)).alloc (.cells #[.string ⟨#[]⟩, .int .i64 0, .int .i64 0, .slice none 0 0] 49)) 127 [.func (.func 64) #[] #[.pointer (some ⟨W.heap.size + 1 + 1 + 1 + 1, 0, none⟩), .pointer (some ⟨W.heap.size + 1 + 1 + 1, 0, none⟩), .pointer (some ⟨W.heap.size + 1 + 1, 0, none⟩)]]).alloc (.cells #[.func (.func 62) #[] #[.pointer (some ⟨W.heap.size + 1 + 1, 0, none⟩)]] 128)).alloc (.cells #[.func (.func 63) #[] #[]] 129)
   rw [World.size_alloc, World.size_alloc] at this
   exact this
 have HB7 : Hid (Bk (((((W.alloc (.cells #[.string M.op, .int .i64 M.a, .int .i64 M.b, .slice M.s.A M.s.n M.s.c] 49)).alloc (.cells #[.string ⟨#[]⟩, .int .i64 0, .int .i64 0, .slice none 0 0] 49)).alloc (.cells #[.func (.func 64) #[] #[.pointer (some ⟨W.heap.size + 1 + 1 + 1 + 1, 0, none⟩), .pointer (some ⟨W.heap.size + 1 + 1 + 1, 0, none⟩), .pointer (some ⟨W.heap.size + 1 + 1, 0, none⟩)]] 127)).alloc (.cells #[.func (.func 62) #[] #[.pointer (some ⟨W.heap.size + 1 + 1, 0, none⟩)]] 128)).alloc (.cells #[.func (.func 63) #[] #[]] 129)) (W.heap.size + 1) 49 [.string ⟨#[]⟩, .int .i64 0, .int .i64 0, .slice none 0 0]) := by
  have := (((Bk.new (W.alloc (.cells #[.string M.op, .int .i64 M.a, .int .i64 M.b, .slice M.s.A M.s.n M.s.c] 49)) 49 [.string ⟨#[]⟩, .int .i64 0, .int .i64 0, .slice none 0 0]).alloc (.cells #[.func (.func 64) #[] #[.pointer (some ⟨W.heap.size + 1 + 1 + 1 + 1, 0, none⟩), .pointer (some ⟨W.heap.size + 1 + 1 + 1, 0, none⟩), .pointer (some ⟨W.heap.size + 1 + 1, 0, none⟩)]] 127)).alloc (.cells #[.func (.func 62) #[] #[.pointer (some ⟨W.heap.size + 1 + 1, 0, none⟩)]] 128)).alloc (.cells #[.func (.func 63) #[] #[]] 129)
  rw [World.size_alloc] at this
  exact Lib.hid this
 have KN := Lib.hid (normal_any (bE := W.heap.size + 1 + 1 + 1 + 1) (bK := W.heap.size + 1 + 1 + 1) (bN := W.heap.size + 1 + 1) M _ P false hC (h.bel y))
 have Y := Lib.hid y
 clear y hC h
 go_enter Tryz.func28, Tryz.ntmps28
 go_wp2_with fail
 refine KN.out.mono ?_
 rintro e w1 ⟨N, rfl, hcore, hok, hb⟩
 have HB71 := Lib.hid (HB7.out.below hb HB7.out.lt)
 have HY1 := Lib.hid (Y.out.trans (hb.mono Y.out.size))
 have HOK := Lib.hid (hok.mono (Q := fun b => W.heap.size ≤ b ∧ b ≠ W.heap.size + 1) fun q _ hq => by (have hq' : _ ≤ q := hq); simp at hq'; omega)
 have HCR := Lib.hid hcore
 have z0 : w1.cell? ⟨W.heap.size + 1, 0, none⟩ = some (.string ⟨#[]⟩) := HB71.out.cell 0
 have z1 : w1.cell? ⟨W.heap.size + 1, 1, none⟩ = some (.int .i64 0) := HB71.out.cell 1
 have z2 : w1.cell? ⟨W.heap.size + 1, 2, none⟩ = some (.int .i64 0) := HB71.out.cell 2
 have z3 : w1.cell? ⟨W.heap.size + 1, 3, none⟩ = some (.slice none 0 0) := HB71.out.cell 3
 have fz0 := HB71.out.frozen 0
 have fz1 := HB71.out.frozen 1
 have fz2 := HB71.out.frozen 2
 have fz3 := HB71.out.frozen 3
 have hzl := HB71.out.lt
 clear KN hcore hok hb Y HB7
 go_wp2
 have hX := lay_new hzl (by omega) HB71.out HOK.out HY1.out
 generalize (((w1.setCell ⟨W.heap.size + 1, 0, none⟩ (.string N.op)).setCell ⟨W.heap.size + 1, 1, none⟩ (.int .i64 N.a)).setCell ⟨W.heap.size + 1, 2, none⟩ (.int .i64 N.b)).setCell ⟨W.heap.size + 1, 3, none⟩ (.slice N.s.A N.s.n N.s.c) = X at *
 have x0 : X.cell? ⟨W.heap.size + 1, 0, none⟩ = some (.string N.op) := hX.2.2.cell 0
 have x1 : X.cell? ⟨W.heap.size + 1, 1, none⟩ = some (.int .i64 N.a) := hX.2.2.cell 1
 have x2 : X.cell? ⟨W.heap.size + 1, 2, none⟩ = some (.int .i64 N.b) := hX.2.2.cell 2
 have x3 : X.cell? ⟨W.heap.size + 1, 3, none⟩ = some (.slice N.s.A N.s.n N.s.c) := hX.2.2.cell 3
 refine bodyPost_ret (v := .agg #[.string N.op, .int .i64 N.a, .int .i64 N.b, .slice N.s.A N.s.n N.s.c]) (by simp [results, Tryz.results28, go_sem, x0, x1, x2, x3]) rfl ?_
 exact ⟨N, rfl, HCR.out, hX.1, hX.2.1⟩
end Go.Proofs.YtocodlpgaamblaaGreatDoor
