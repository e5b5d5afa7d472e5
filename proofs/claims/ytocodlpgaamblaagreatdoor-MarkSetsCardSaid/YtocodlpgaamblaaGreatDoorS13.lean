/- Matches, Steps. -/
import Derived.Test.YtocodlpgaamblaaGreatDoorS3
import Derived.Test.YtocodlpgaamblaaGreatDoorS12
set_option linter.unusedVariables false
set_option linter.unusedSimpArgs false
open Go.RowKit
namespace Go.Proofs.YtocodlpgaamblaaGreatDoor
set_option maxRecDepth 100000 in
set_option maxHeartbeats 1000000 in
theorem matches_any (s : StepM) (M : MkM) (w : World) (P : Nat → Prop) (h : M.Ok w 49 P) (hs : s.Ok w) :
 Calls Tryz.prog 23 #[.agg #[.string M.op, .int .i64 M.a, .int .i64 M.b, .slice M.s.A M.s.n M.s.c], .agg #[.int .i64 s.id, .int .i64 s.kind, .int .i64 s.actor, .int .i64 s.tick, .int .i64 s.rule, .int .i64 s.times, .slice s.sm.A s.sm.n s.sm.c]] w fun e w' => e = .returned (.bool (M.core.val (condV s))) ∧ Below w.heap.size w w' := by
 have y : Below w.heap.size w ((w.alloc (.cells #[.string M.op, .int .i64 M.a, .int .i64 M.b, .slice M.s.A M.s.n M.s.c] 49)).alloc (.cells #[.int .i64 s.id, .int .i64 s.kind, .int .i64 s.actor, .int .i64 s.tick, .int .i64 s.rule, .int .i64 s.times, .slice s.sm.A s.sm.n s.sm.c] 59)) := ((Below.refl _ _).alloc (Nat.le_refl _) _).alloc (by simp) _
 have Y := Lib.hid y
 have HB4 := Lib.hid ((Bk.new w 49 [.string M.op, .int .i64 M.a, .int .i64 M.b, .slice M.s.A M.s.n M.s.c]).alloc (.cells #[.int .i64 s.id, .int .i64 s.kind, .int .i64 s.actor, .int .i64 s.tick, .int .i64 s.rule, .int .i64 s.times, .slice s.sm.A s.sm.n s.sm.c] 59))
 have HB5 : Hid (Bk ((w.alloc (.cells #[.string M.op, .int .i64 M.a, .int .i64 M.b, .slice M.s.A M.s.n M.s.c] 49)).alloc (.cells #[.int .i64 s.id, .int .i64 s.kind, .int .i64 s.actor, .int .i64 s.tick, .int .i64 s.rule, .int .i64 s.times, .slice s.sm.A s.sm.n s.sm.c] 59)) (w.heap.size + 1) 59 s.cells) := by
  have := Bk.new (w.alloc (.cells #[.string M.op, .int .i64 M.a, .int .i64 M.b, .slice M.s.A M.s.n M.s.c] 49)) 59 s.cells
  rw [World.size_alloc] at this
  exact Lib.hid this
 have H := Lib.hid h
 have HS := Lib.hid hs
 clear h y hs
 go_enter Tryz.func23, Tryz.ntmps23
 go_wp2
 refine wp_region_X (fun w' => Bk w' w.heap.size 49 [.string M.op, .int .i64 M.a, .int .i64 M.b, .slice M.s.A M.s.n M.s.c] ∧ Bk w' (w.heap.size + 1) 59 s.cells) 4 (n := 5) rfl (by kernel_rfl) (⟨HB4.out.drew, HB5.out.drew⟩) (fun hS => ?_)
 refine X_take 1 (some 6) (v := ?_) (listed' := #[false, true, false, false, false]) rfl rfl rfl (by kernel_rfl) (fun _ _ _ h => h) ⟨rfl, ?_⟩ hS ?_
 rotate_left
 ·intro w' hS'
  have e0 : w'.cell? ⟨w.heap.size, 0, none⟩ = some (.string M.op) := hS'.1.cell 0
  have e1 : w'.cell? ⟨w.heap.size, 1, none⟩ = some (.int .i64 M.a) := hS'.1.cell 1
  have e2 : w'.cell? ⟨w.heap.size, 2, none⟩ = some (.int .i64 M.b) := hS'.1.cell 2
  have e3 : w'.cell? ⟨w.heap.size, 3, none⟩ = some (.slice M.s.A M.s.n M.s.c) := hS'.1.cell 3
  have el := hS'.1.lt
  (go_simp; try with_reducible rfl)
 simp only [Act.put, List.setIfInBounds_toArray, List.set_cons_zero, List.set_cons_succ]
 refine X_take 2 (some 7) (v := ?_) (listed' := #[false, true, true, false, false]) rfl rfl rfl (by kernel_rfl) (fun _ _ _ h => h) ⟨rfl, ?_⟩ hS ?_
 rotate_left
 ·intro w' hS'
  have e0 : w'.cell? ⟨w.heap.size + 1, 0, none⟩ = some (.int .i64 s.id) := hS'.2.cell 0
  have e1 : w'.cell? ⟨w.heap.size + 1, 1, none⟩ = some (.int .i64 s.kind) := hS'.2.cell 1
  have e2 : w'.cell? ⟨w.heap.size + 1, 2, none⟩ = some (.int .i64 s.actor) := hS'.2.cell 2
  have e3 : w'.cell? ⟨w.heap.size + 1, 3, none⟩ = some (.int .i64 s.tick) := hS'.2.cell 3
  have e4 : w'.cell? ⟨w.heap.size + 1, 4, none⟩ = some (.int .i64 s.rule) := hS'.2.cell 4
  have e5 : w'.cell? ⟨w.heap.size + 1, 5, none⟩ = some (.int .i64 s.times) := hS'.2.cell 5
  have e6 : w'.cell? ⟨w.heap.size + 1, 6, none⟩ = some (.slice s.sm.A s.sm.n s.sm.c) := hS'.2.cell 6
  have el := hS'.2.lt
  (go_simp; try with_reducible rfl)
 simp only [Act.put, List.setIfInBounds_toArray, List.set_cons_zero, List.set_cons_succ]
 refine X_one 0 (listed' := #[true, true, true, false, false]) (by kernel_rfl) rfl rfl (fun K hK => ?_)
 go_simp
 have K := Lib.hid (conds_any ((w.alloc (.cells #[.string M.op, .int .i64 M.a, .int .i64 M.b, .slice M.s.A M.s.n M.s.c] 49)).alloc (.cells #[.int .i64 s.id, .int .i64 s.kind, .int .i64 s.actor, .int .i64 s.tick, .int .i64 s.rule, .int .i64 s.times, .slice s.sm.A s.sm.n s.sm.c] 59)).drew)
 (with_reducible refine K.out.mono ?_)
 rintro e w2 ⟨bm, kk, b1, b2, b3, rfl, hC, hb2⟩
 have yd : Below ((w.alloc (.cells #[.string M.op, .int .i64 M.a, .int .i64 M.b, .slice M.s.A M.s.n M.s.c] 49)).alloc (.cells #[.int .i64 s.id, .int .i64 s.kind, .int .i64 s.actor, .int .i64 s.tick, .int .i64 s.rule, .int .i64 s.times, .slice s.sm.A s.sm.n s.sm.c] 59)).heap.size ((w.alloc (.cells #[.string M.op, .int .i64 M.a, .int .i64 M.b, .slice M.s.A M.s.n M.s.c] 49)).alloc (.cells #[.int .i64 s.id, .int .i64 s.kind, .int .i64 s.actor, .int .i64 s.tick, .int .i64 s.rule, .int .i64 s.times, .slice s.sm.A s.sm.n s.sm.c] 59)) w2 := (Below.refl _ _).drew.trans hb2
 have HY2 := Lib.hid (Y.out.trans (yd.mono Y.out.size))
 have HB42 := Lib.hid (HB4.out.below yd HB4.out.lt)
 have HB52 := Lib.hid (HB5.out.below yd HB5.out.lt)
 have KK := Lib.hid (match_any s M w2 P (H.out.bel HY2.out) hC (HS.out.below HY2.out))
 refine hK _ _ ⟨HB42.out, HB52.out⟩ ?_
 clear hK K hC hb2 yd
 refine X_one 3 (listed' := #[true, true, true, true, false]) (by kernel_rfl) rfl rfl (fun K hK => ?_)
 go_simp
 (with_reducible refine KK.out.mono ?_)
 rintro e w3 ⟨rfl, hb3⟩
 have HY3 := Lib.hid (HY2.out.trans (hb3.mono HY2.out.size))
 refine hK _ _ ⟨HB42.out.below hb3 HB42.out.lt, HB52.out.below hb3 HB52.out.lt⟩ ?_
 clear hK KK hb3
 refine X_tail (by kernel_rfl) ?_
 refine A_one 4 (listed' := #[true, true, true, true, true]) (by kernel_rfl) rfl rfl (fun K hK => ?_)
 go_simp
 refine hK _ _ ?_
 clear hK
 refine A_done (by kernel_rfl) ?_
 go_wp2
 go_ret
 exact ⟨rfl, HY3.out⟩
end Go.Proofs.YtocodlpgaamblaaGreatDoor
