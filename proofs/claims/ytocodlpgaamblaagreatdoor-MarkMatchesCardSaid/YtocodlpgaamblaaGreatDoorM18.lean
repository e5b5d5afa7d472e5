/- MarkSets. Steps: the IDs of the steps that fulfill a mark; the reference's. The reference's Bent: a mark with one part of one of its marks changed. The reference's Bent: an Op, a Kid less, a Kid more, negations. The reference's Bent: a Kid more. The reference's Bent: negations; a Kid changed; Bent on any mark. -/
import Derived.Test.YtocodlpgaamblaaGreatDoorM8
import Derived.Test.YtocodlpgaamblaaGreatDoorM11
import Derived.Test.YtocodlpgaamblaaGreatDoorM12
import Derived.Test.YtocodlpgaamblaaGreatDoorM16
import Derived.Test.YtocodlpgaamblaaGreatDoorM17
import Derived.Laws.AppendOwnNone
set_option linter.unusedVariables false
set_option linter.unusedSimpArgs false
open Go.RowKit
namespace Go.Proofs.YtocodlpgaamblaaGreatDoor
theorem StepsV.at_ {w : World} {s : Sl} {l : List StepM} (h : StepsV w s l) (k : Nat) (hk : k < l.length) : ∃ b off, s.A = some ⟨b, off, none⟩ ∧ b < w.heap.size ∧ ∀ r u, (l[k]).cells[r]? = some u → w.cell? ⟨b, off + k * 7 + r, none⟩ = some u :=
 TRow.at_ (f := StepM.cells) StepM.cells_len h.row k hk (by omega)
def IdsQ (w : World) (zs : List Int) (e : Ending) (w' : World) : Prop := ∃ A n c, e = .returned (.slice A n c) ∧ IntsV w' A n zs ∧ Below w.heap.size w w'
theorem info3 : (Tryz.prog.info? 3).map (fun i => (i.zero, i.size, i.bytes)) = some (some (.int .i64 0), 1, 8) := by kernel_rfl
theorem filt_succ (l : List StepM) (p : StepM → Bool) (k : Nat) (h : k < l.length) : ints (((l.take (k + 1)).filter p).map StepM.id) = if p l[k] then ints (((l.take k).filter p).map StepM.id) ++ [.int .i64 l[k].id] else ints (((l.take k).filter p).map StepM.id) := by
 rw [List.take_succ_eq_append_getElem h, List.filter_append, List.map_append]
 cases hp : p l[k] <;> simp [hp, ints]
set_option maxRecDepth 100000 in
set_option maxHeartbeats 2000000 in
theorem steps_any (M : MkM) {w : World} {P : Nat → Prop} {s : Sl} {l : List StepM} (h : M.Ok w 49 P) (hs : StepsV w s l) :
 Calls Tryz.prog 25 #[.agg #[.string M.op, .int .i64 M.a, .int .i64 M.b, .slice M.s.A M.s.n M.s.c], .slice s.A s.n s.c] w (IdsQ w ((l.filter fun t => M.core.val (condV t)).map StepM.id)) := by
 obtain ⟨i0, hi, hz0, hz1, hz2⟩ := info_parts info3
 have y : Below w.heap.size w (w.alloc (.cells #[.string M.op, .int .i64 M.a, .int .i64 M.b, .slice M.s.A M.s.n M.s.c] 49)) := (Below.refl _ _).alloc (Nat.le_refl _) _
 have Y := Lib.hid y
 have B49 := Lib.hid (Bk.new w 49 [.string M.op, .int .i64 M.a, .int .i64 M.b, .slice M.s.A M.s.n M.s.c])
 have HS := Lib.hid hs
 have Hn := Lib.hid hs.len
 have hs0 := hs.small
 have HM : Hid (∀ X, Below w.heap.size w X → M.Ok X 49 P) := Lib.hid fun X hX => h.bel hX
 have KC := Lib.hid (conds_any (w.alloc (.cells #[.string M.op, .int .i64 M.a, .int .i64 M.b, .slice M.s.A M.s.n M.s.c] 49)))
 obtain ⟨p, hp⟩ : ∃ p : StepM → Bool, p = fun t => M.core.val (condV t) := ⟨_, rfl⟩
 rw [← hp]
 have HP := Lib.hid hp
 obtain ⟨As, ns, cs⟩ := s
 dsimp only at *
 clear h hs y hp
 go_enter Tryz.func25, Tryz.ntmps25
 go_wp2_with fail
 refine KC.out.mono ?_
 rintro e w1 ⟨bm, kk, b1, b2, b3, rfl, hC, hb⟩
 have Y1 := Lib.hid (Y.out.trans (hb.mono Y.out.size))
 have B1 := Lib.hid (B49.out.below hb B49.out.lt)
 have HC : Hid (∀ X, Below w1.heap.size w1 X → CondsAt X bm kk b1 b2 b3) := Lib.hid fun X hX => hC.below hX
 clear KC hC hb B49 Y
 go_wp2_with fail
 go_loopw [6, 12] (fun v i wr => ∃ k j : Nat, ∃ X, k ≤ ns ∧ j ≤ k ∧ i = .int .i64 k ∧ X = ints (((l.take k).filter p).map StepM.id) ∧ wr.ownsRow w1.heap.size 3 1 v j X ∧ Below w1.heap.size w1 wr) (fun _ i _ => ns - (intOf i).toNat)
 case atStart => exact ⟨0, 0, _, Nat.zero_le _, Nat.le_refl _, rfl, rfl, World.ownsRow_nil _ _ _ _, Below.refl _ _⟩
 case round =>
  obtain ⟨k, j, X, hk, hjk, rfl, hX, hown, hb1⟩ := hrel
  have HX := Lib.hid hX
  have HO := Lib.hid hown
  have HB1 := Lib.hid hb1
  have HB := Lib.hid (Y1.out.trans (hb1.mono Y1.out.size))
  have HK := Lib.hid (B1.out.below hb1 B1.out.lt)
  have hsz := hb1.size
  have hsz1 := Y1.out.size
  clear hX hown hb1
  by_cases hlt : k < ns
  ·have hkl : k < l.length := by have := Hn.out; omega
   obtain ⟨bb, off, hA, hbb, hcl⟩ := (HS.out.below HB.out).at_ k hkl
   dsimp only at hA
   subst hA
   have HT : Hid (∀ X, Below w.heap.size w X → (l[k]).Ok X) := Lib.hid fun X hX => (HS.out.each _ (List.getElem_mem hkl)).below hX
   have HF := Lib.hid (filt_succ l p k hkl)
   have HPK : Hid (p l[k] = M.core.val (condV l[k])) := Lib.hid (by rw [HP.out])
   rw [← HX.out] at HF
   generalize l[k] = t at *
   have t0 : wr.cell? ⟨bb, off + k * 7, none⟩ = some (.int .i64 t.id) := hcl 0 _ rfl
   have t1 : wr.cell? ⟨bb, off + k * 7 + 1, none⟩ = some (.int .i64 t.kind) := hcl 1 _ rfl
   have t2 : wr.cell? ⟨bb, off + k * 7 + 2, none⟩ = some (.int .i64 t.actor) := hcl 2 _ rfl
   have t3 : wr.cell? ⟨bb, off + k * 7 + 3, none⟩ = some (.int .i64 t.tick) := hcl 3 _ rfl
   have t4 : wr.cell? ⟨bb, off + k * 7 + 4, none⟩ = some (.int .i64 t.rule) := hcl 4 _ rfl
   have t5 : wr.cell? ⟨bb, off + k * 7 + 5, none⟩ = some (.int .i64 t.times) := hcl 5 _ rfl
   have t6 : wr.cell? ⟨bb, off + k * 7 + 6, none⟩ = some (.slice t.sm.A t.sm.n t.sm.c) := hcl 6 _ rfl
   have yt : Below wr.heap.size wr (wr.alloc (.cells #[.int .i64 t.id, .int .i64 t.kind, .int .i64 t.actor, .int .i64 t.tick, .int .i64 t.rule, .int .i64 t.times, .slice t.sm.A t.sm.n t.sm.c] 59)) := (Below.refl _ _).alloc (Nat.le_refl _) _
   have HBt := Lib.hid (HB.out.trans (yt.mono HB.out.size))
   have HB1t := Lib.hid (HB1.out.trans (yt.mono HB1.out.size))
   have HKt := Lib.hid (HK.out.below yt HK.out.lt)
   have HOt := Lib.hid (HO.out.alloc (.cells #[.int .i64 t.id, .int .i64 t.kind, .int .i64 t.actor, .int .i64 t.tick, .int .i64 t.rule, .int .i64 t.times, .slice t.sm.A t.sm.n t.sm.c] 59))
   have HBX : Hid (Bk (wr.alloc (.cells #[.int .i64 t.id, .int .i64 t.kind, .int .i64 t.actor, .int .i64 t.tick, .int .i64 t.rule, .int .i64 t.times, .slice t.sm.A t.sm.n t.sm.c] 59)) wr.heap.size 59 t.cells) := Lib.hid (Bk.new wr 59 t.cells)
   have m0 : (wr.alloc (.cells #[.int .i64 t.id, .int .i64 t.kind, .int .i64 t.actor, .int .i64 t.tick, .int .i64 t.rule, .int .i64 t.times, .slice t.sm.A t.sm.n t.sm.c] 59)).cell? ⟨w.heap.size, 0, none⟩ = some (.string M.op) := HKt.out.cell 0
   have m1 : (wr.alloc (.cells #[.int .i64 t.id, .int .i64 t.kind, .int .i64 t.actor, .int .i64 t.tick, .int .i64 t.rule, .int .i64 t.times, .slice t.sm.A t.sm.n t.sm.c] 59)).cell? ⟨w.heap.size, 1, none⟩ = some (.int .i64 M.a) := HKt.out.cell 1
   have m2 : (wr.alloc (.cells #[.int .i64 t.id, .int .i64 t.kind, .int .i64 t.actor, .int .i64 t.tick, .int .i64 t.rule, .int .i64 t.times, .slice t.sm.A t.sm.n t.sm.c] 59)).cell? ⟨w.heap.size, 2, none⟩ = some (.int .i64 M.b) := HKt.out.cell 2
   have m3 : (wr.alloc (.cells #[.int .i64 t.id, .int .i64 t.kind, .int .i64 t.actor, .int .i64 t.tick, .int .i64 t.rule, .int .i64 t.times, .slice t.sm.A t.sm.n t.sm.c] 59)).cell? ⟨w.heap.size, 3, none⟩ = some (.slice M.s.A M.s.n M.s.c) := HKt.out.cell 3
   have hml := HK.out.lt
   have KM := Lib.hid (match_any t M _ P (HM.out _ HBt.out) (HC.out _ HB1t.out) (HT.out _ HBt.out))
   rw [← HPK.out] at KM
   clear hcl yt HK HB HB1 HO hkl
   generalize hpv : p t = bv at *
   go_wp2_with fail
   refine KM.out.mono ?_
   rintro e w2 ⟨rfl, hb2⟩
   have HB12 := Lib.hid (HB1t.out.trans (hb2.mono HB1t.out.size))
   have HO2 := Lib.hid (HOt.out.kept (grown_of_below hb2 none) (by cases u6.ownBlock <;> simp))
   have hx2 := HBX.out.below hb2 HBX.out.lt
   have x0 : w2.cell? ⟨wr.heap.size, 0, none⟩ = some (.int .i64 t.id) := hx2.cell 0
   have hxl := hx2.lt
   clear KM hb2 hx2 HBX HBt HB1t HKt HOt m0 m1 m2 m3 hml hpv
   cases bv
   ·have HF2 := Lib.hid (HF.out.trans (if_neg (by simp)))
    clear HF
    go_wp2
    go_roundw
    case rel => exact ⟨k + 1, j, X, by omega, by omega, by go_num, HF2.out.symm, HO2.out, HB12.out⟩
    case measure => simp [intOf]; omega
   ·have HF2 := Lib.hid (HF.out.trans (if_pos rfl))
    clear HF
    go_wp2_with (at_builtin; refine wpList_append_own_at _ rfl _ _ 22 rfl w1.heap.size 3 i0 (.int .i64 0) 1 8 Tryz.underlying22 hi hz0 hz1 hz2 rfl (by decide) _ j X rfl (HO2.out.alloc _) ⟨w2.heap.size, 0, none⟩ 1 1 [.int .i64 t.id] rfl rfl ?c1 (by intro u hu; rw [List.mem_singleton.1 hu]; rfl) ?c3 ?c4 ?c5 ?_)
    case c1 => exact new1 w2 3 (.int .i64 t.id)
    case c3 => unfold maxLen; omega
    case c4 => omega
    case c5 => simp; omega
    intro v' w5 hown' hgrow _ _
    have HB5 := Lib.hid ((HB12.out.alloc HB12.out.size _).grown hgrow (by simp; have := HB12.out.size; omega) (row_base HO2.out))
    have HO5 := Lib.hid hown'
    clear hown' hgrow
    go_wp2_with fail
    go_roundw
    case rel => exact ⟨k + 1, j + 1, X ++ [.int .i64 t.id], by omega, by omega, by go_num, HF2.out.symm, HO5.out, HB5.out⟩
    case measure => simp [intOf]; omega
  ·have hkn : k = ns := by omega
   have hT : l.take k = l := List.take_of_length_le (by have := Hn.out; omega)
   have hXX := HX.out
   rw [hT] at hXX
   obtain ⟨A9, c9, e9, hr9⟩ := row_of_owns HO.out
   have hj : j = ((l.filter p).map StepM.id).length := by
    have h1 := congrArg List.length hXX
    have h2 := HO.out.1
    simp only [ints_length] at h1
    omega
   subst e9
   have HQ : Hid (IdsQ w ((l.filter p).map StepM.id) (.returned (.slice A9 j c9)) wr) := Lib.hid ⟨A9, j, c9, rfl, ⟨hXX ▸ hr9, hj, fun z hz => by
    obtain ⟨t, ht, rfl⟩ := List.mem_map.1 hz
    exact (HS.out.each t (List.mem_filter.1 ht).1).id⟩, HB.out⟩
   clear hkn hT hXX hr9 hj
   go_wp2
   go_ret
   exact HQ.out
set_option maxRecDepth 100000 in
set_option maxHeartbeats 2000000 in
theorem rsteps_any (M : MkM) {w : World} {P : Nat → Prop} {s : Sl} {l : List StepM} (h : M.Ok w 35 P) (hs : StepsV w s l) :
 Calls Tryz.prog 26 #[.agg #[.string M.op, .int .i64 M.a, .int .i64 M.b, .slice M.s.A M.s.n M.s.c], .slice s.A s.n s.c] w (IdsQ w ((l.filter fun t => M.core.val (condV t)).map StepM.id)) := by
 obtain ⟨i0, hi, hz0, hz1, hz2⟩ := info_parts info3
 have y : Below w.heap.size w (w.alloc (.cells #[.string M.op, .int .i64 M.a, .int .i64 M.b, .slice M.s.A M.s.n M.s.c] 35)) := (Below.refl _ _).alloc (Nat.le_refl _) _
 have Y := Lib.hid y
 have B35 := Lib.hid (Bk.new w 35 [.string M.op, .int .i64 M.a, .int .i64 M.b, .slice M.s.A M.s.n M.s.c])
 have HS := Lib.hid hs
 have Hn := Lib.hid hs.len
 have hs0 := hs.small
 have HM : Hid (∀ X, Below w.heap.size w X → M.Ok X 35 P) := Lib.hid fun X hX => h.bel hX
 obtain ⟨p, hp⟩ : ∃ p : StepM → Bool, p = fun t => M.core.val (condV t) := ⟨_, rfl⟩
 rw [← hp]
 have HP := Lib.hid hp
 obtain ⟨As, ns, cs⟩ := s
 dsimp only at *
 clear h hs y hp
 go_enter Tryz.func26, Tryz.ntmps26
 go_wp2_with fail
 go_loopw [5, 6] (fun v i wr => ∃ k j : Nat, ∃ X, k ≤ ns ∧ j ≤ k ∧ i = .int .i64 k ∧ X = ints (((l.take k).filter p).map StepM.id) ∧ wr.ownsRow (w.heap.size + 1) 3 1 v j X ∧ Below w.heap.size w wr ∧ Bk wr w.heap.size 35 [.string M.op, .int .i64 M.a, .int .i64 M.b, .slice M.s.A M.s.n M.s.c]) (fun _ i _ => ns - (intOf i).toNat)
 case atStart => exact ⟨0, 0, _, Nat.zero_le _, Nat.le_refl _, rfl, rfl, World.ownsRow_nil _ _ _ _, Y.out, B35.out⟩
 case round =>
  obtain ⟨k, j, X, hk, hjk, rfl, hX, hown, hb, hbk⟩ := hrel
  have HX := Lib.hid hX
  have HO := Lib.hid hown
  have HB := Lib.hid hb
  have HK := Lib.hid hbk
  have hsz := hbk.lt
  clear hX hown hb hbk
  by_cases hlt : k < ns
  ·have hkl : k < l.length := by have := Hn.out; omega
   obtain ⟨bb, off, hA, hbb, hcl⟩ := HS.out.at_ k hkl
   dsimp only at hA
   subst hA
   have HT : Hid (∀ X, Below w.heap.size w X → (l[k]).Ok X) := Lib.hid fun X hX => (HS.out.each _ (List.getElem_mem hkl)).below hX
   have HF := Lib.hid (filt_succ l p k hkl)
   have HPK : Hid (p l[k] = M.core.val (condV l[k])) := Lib.hid (by rw [HP.out])
   rw [← HX.out] at HF
   have HCL : Hid (∀ X, Below w.heap.size w X → ((∀ r u, (l[k]).cells[r]? = some u → X.cell? ⟨bb, off + k * 7 + r, none⟩ = some u) ∧ bb < X.heap.size)) := Lib.hid fun X hX =>
    ⟨fun r u hu => (hX.cell (p := ⟨bb, off + k * 7 + r, none⟩) hbb).trans (hcl r u hu), Nat.lt_of_lt_of_le hbb hX.size⟩
   generalize l[k] = t at *
   have KM := Lib.hid (rmatches_any t M _ P (HM.out _ HB.out.drew) (HT.out _ HB.out.drew))
   rw [← HPK.out] at KM
   clear hcl hbb hkl
   generalize hpv : p t = bv at *
   clear hpv
   go_wp2
   refine wp_region_X (fun w' => Bk w' w.heap.size 35 [.string M.op, .int .i64 M.a, .int .i64 M.b, .slice M.s.A M.s.n M.s.c] ∧ ((∀ r u, t.cells[r]? = some u → w'.cell? ⟨bb, off + k * 7 + r, none⟩ = some u) ∧ bb < w'.heap.size)) 6 (n := 6) rfl (by kernel_rfl) (⟨HK.out.drew, HCL.out _ HB.out.drew⟩) (fun hS => ?_)
   refine X_takeU 0 (some 13) (v := ?_) (listed' := #[true, false, false, false, false, false]) rfl rfl rfl (by kernel_rfl) rfl (fun _ _ _ h => h) ⟨rfl, ?_⟩ hS ?_
   rotate_left
   ·intro w' hS'
    have e0 : w'.cell? ⟨w.heap.size, 0, none⟩ = some (.string M.op) := hS'.1.cell 0
    have e1 : w'.cell? ⟨w.heap.size, 1, none⟩ = some (.int .i64 M.a) := hS'.1.cell 1
    have e2 : w'.cell? ⟨w.heap.size, 2, none⟩ = some (.int .i64 M.b) := hS'.1.cell 2
    have e3 : w'.cell? ⟨w.heap.size, 3, none⟩ = some (.slice M.s.A M.s.n M.s.c) := hS'.1.cell 3
    have el := hS'.1.lt
    (go_simp; try with_reducible rfl)
   simp only [Act.put, List.setIfInBounds_toArray, List.set_cons_zero, List.set_cons_succ]
   refine X_takeU 1 (some 14) (v := ?_) (listed' := #[true, true, false, false, false, false]) rfl rfl rfl (by kernel_rfl) rfl (fun _ _ _ h => h) ⟨rfl, ?_⟩ hS ?_
   rotate_left
   ·intro w' hS'
    (go_simp; try with_reducible rfl)
   simp only [Act.put, List.setIfInBounds_toArray, List.set_cons_zero, List.set_cons_succ]
   refine X_takeU 2 (some 15) (v := ?_) (listed' := #[true, true, true, false, false, false]) rfl rfl rfl (by kernel_rfl) rfl (fun _ _ _ h => h) ⟨rfl, ?_⟩ hS ?_
   rotate_left
   ·intro w' hS'
    (go_simp; try with_reducible rfl)
   simp only [Act.put, List.setIfInBounds_toArray, List.set_cons_zero, List.set_cons_succ]
   refine X_takeU 3 (some 16) (v := ?_) (listed' := #[true, true, true, true, false, false]) rfl rfl rfl (by kernel_rfl) rfl (fun _ _ _ h => h) ⟨rfl, ?_⟩ hS ?_
   rotate_left
   ·intro w' hS'
    (go_simp; try with_reducible rfl)
   simp only [Act.put, List.setIfInBounds_toArray, List.set_cons_zero, List.set_cons_succ]
   refine X_takeU 4 (some 17) (v := ?_) (listed' := #[true, true, true, true, true, false]) rfl rfl rfl (by kernel_rfl) rfl (fun _ _ _ h => h) ⟨rfl, ?_⟩ hS ?_
   rotate_left
   ·intro w' hS'
    have e0 : w'.cell? ⟨bb, off + k * 7, none⟩ = some (.int .i64 t.id) := hS'.2.1 0 _ rfl
    have e1 : w'.cell? ⟨bb, off + k * 7 + 1, none⟩ = some (.int .i64 t.kind) := hS'.2.1 1 _ rfl
    have e2 : w'.cell? ⟨bb, off + k * 7 + 2, none⟩ = some (.int .i64 t.actor) := hS'.2.1 2 _ rfl
    have e3 : w'.cell? ⟨bb, off + k * 7 + 3, none⟩ = some (.int .i64 t.tick) := hS'.2.1 3 _ rfl
    have e4 : w'.cell? ⟨bb, off + k * 7 + 4, none⟩ = some (.int .i64 t.rule) := hS'.2.1 4 _ rfl
    have e5 : w'.cell? ⟨bb, off + k * 7 + 5, none⟩ = some (.int .i64 t.times) := hS'.2.1 5 _ rfl
    have e6 : w'.cell? ⟨bb, off + k * 7 + 6, none⟩ = some (.slice t.sm.A t.sm.n t.sm.c) := hS'.2.1 6 _ rfl
    have el := hS'.2.2
    (go_simp; try with_reducible rfl)
   simp only [Act.put, List.setIfInBounds_toArray, List.set_cons_zero, List.set_cons_succ]
   refine X_one 5 (listed' := #[true, true, true, true, true, true]) (by kernel_rfl) rfl rfl (fun K hK => ?_)
   go_simp
   (with_reducible refine KM.out.mono ?_)
   rintro e w2 ⟨rfl, hb2⟩
   have hd := (Below.refl wr.heap.size wr).drew.trans hb2
   have HB2 := Lib.hid (HB.out.trans (hd.mono HB.out.size))
   have HK2 := Lib.hid (HK.out.below hd HK.out.lt)
   have HO2 := Lib.hid (HO.out.kept (grown_of_below hd none) (by cases u5.ownBlock <;> simp))
   refine hK _ _ ⟨HK2.out, HCL.out _ HB2.out⟩ ?_
   clear hK KM hb2 hd
   refine X_done (by kernel_rfl) ?_
   clear hS
   have hx2 := HCL.out _ HB2.out
   have t0 : w2.cell? ⟨bb, off + k * 7, none⟩ = some (.int .i64 t.id) := hx2.1 0 _ rfl
   have t1 : w2.cell? ⟨bb, off + k * 7 + 1, none⟩ = some (.int .i64 t.kind) := hx2.1 1 _ rfl
   have t2 : w2.cell? ⟨bb, off + k * 7 + 2, none⟩ = some (.int .i64 t.actor) := hx2.1 2 _ rfl
   have t3 : w2.cell? ⟨bb, off + k * 7 + 3, none⟩ = some (.int .i64 t.tick) := hx2.1 3 _ rfl
   have t4 : w2.cell? ⟨bb, off + k * 7 + 4, none⟩ = some (.int .i64 t.rule) := hx2.1 4 _ rfl
   have t5 : w2.cell? ⟨bb, off + k * 7 + 5, none⟩ = some (.int .i64 t.times) := hx2.1 5 _ rfl
   have t6 : w2.cell? ⟨bb, off + k * 7 + 6, none⟩ = some (.slice t.sm.A t.sm.n t.sm.c) := hx2.1 6 _ rfl
   have hxl := hx2.2
   have hs2 := HB2.out.size
   have hs3 := HK2.out.lt
   clear hx2
   cases bv
   ·have HF2 := Lib.hid (HF.out.trans (if_neg (by simp)))
    clear HF
    go_wp2
    go_roundw
    case rel => exact ⟨k + 1, j, X, by omega, by omega, by go_num, HF2.out.symm, HO2.out, HB2.out, HK2.out⟩
    case measure => simp [intOf]; omega
   ·have HF2 := Lib.hid (HF.out.trans (if_pos rfl))
    clear HF
    go_wp2_with (at_builtin; refine wpList_append_own_at _ rfl _ _ 22 rfl (w.heap.size + 1) 3 i0 (.int .i64 0) 1 8 Tryz.underlying22 hi hz0 hz1 hz2 rfl (by decide) _ j X rfl (HO2.out.alloc _) ⟨w2.heap.size, 0, none⟩ 1 1 [.int .i64 t.id] rfl rfl ?c1 (by intro u hu; rw [List.mem_singleton.1 hu]; rfl) ?c3 ?c4 ?c5 ?_)
    case c1 => exact new1 w2 3 (.int .i64 t.id)
    case c3 => unfold maxLen; omega
    case c4 => omega
    case c5 => simp; omega
    intro v' w5 hown' hgrow _ _
    have HB5 := Lib.hid ((HB2.out.alloc HB2.out.size _).grown hgrow (by simp; have := HB2.out.size; omega) (fun g hg => by have := row_base HO2.out g hg; omega))
    have HO5 := Lib.hid hown'
    have HK5 := Lib.hid ((HK2.out.alloc (.cells #[.int .i64 t.id] 3)).grown hgrow (fun e => by have := row_base HO2.out _ e.symm; omega))
    clear hown' hgrow
    go_wp2_with fail
    go_roundw
    case rel => exact ⟨k + 1, j + 1, X ++ [.int .i64 t.id], by omega, by omega, by go_num, HF2.out.symm, HO5.out, HB5.out, HK5.out⟩
    case measure => simp [intOf]; omega
  ·have hkn : k = ns := by omega
   have hT : l.take k = l := List.take_of_length_le (by have := Hn.out; omega)
   have hXX := HX.out
   rw [hT] at hXX
   obtain ⟨A9, c9, e9, hr9⟩ := row_of_owns HO.out
   have hj : j = ((l.filter p).map StepM.id).length := by
    have h1 := congrArg List.length hXX
    have h2 := HO.out.1
    simp only [ints_length] at h1
    omega
   subst e9
   have HQ : Hid (IdsQ w ((l.filter p).map StepM.id) (.returned (.slice A9 j c9)) wr) := Lib.hid ⟨A9, j, c9, rfl, ⟨hXX ▸ hr9, hj, fun z hz => by
    obtain ⟨t, ht, rfl⟩ := List.mem_map.1 hz
    exact (HS.out.each t (List.mem_filter.1 ht).1).id⟩, HB.out⟩
   clear hkn hT hXX hr9 hj
   go_wp2
   go_ret
   exact HQ.out
theorem MkM.Fan.mono {n m : Nat} : ∀ {M : MkM}, M.Fan n → n ≤ m → M.Fan m := by
 intro M
 induction M using MkM.ind with
 | h M ih =>
   intro h hn
   cases h with
   | mk op a b ks s len cap each => exact .mk op a b ks s (by omega) cap fun k hk => ih k hk (each k hk) hn
/-- What Bent gives: some mark whose rows are old ones or new ones. -/
def BentM (W : World) (P : Nat → Prop) (q : Nat) (M : MkM) (e : Ending) (w' : World) : Prop :=
 ∃ M' : MkM, e = .returned (.agg #[.string M'.op, .int .i64 M'.a, .int .i64 M'.b, .slice M'.s.A M'.s.n M'.s.c]) ∧ M'.Ok w' 35 (fun b => P b ∨ W.heap.size ≤ b) ∧ M'.core.size ≤ 21 * M.core.size ∧ M'.Fan (q + 1) ∧ Below W.heap.size W w'
theorem lay_any {W w1 : World} {Q : Nat → Prop} {M : MkM} {g : Nat} (hW : W.heap.size ≤ g) (hB : Bk w1 g 35 [.string ⟨#[]⟩, .int .i64 0, .int .i64 0, .slice none 0 0]) (h : M.Ok w1 35 (fun b => Q b ∧ b ≠ g)) (hY : Below W.heap.size W w1) :
 M.Ok ((((w1.setCell ⟨g, 0, none⟩ (.string M.op)).setCell ⟨g, 1, none⟩ (.int .i64 M.a)).setCell ⟨g, 2, none⟩ (.int .i64 M.b)).setCell ⟨g, 3, none⟩ (.slice M.s.A M.s.n M.s.c)) 35 Q ∧ Below W.heap.size W ((((w1.setCell ⟨g, 0, none⟩ (.string M.op)).setCell ⟨g, 1, none⟩ (.int .i64 M.a)).setCell ⟨g, 2, none⟩ (.int .i64 M.b)).setCell ⟨g, 3, none⟩ (.slice M.s.A M.s.n M.s.c)) ∧ Bk ((((w1.setCell ⟨g, 0, none⟩ (.string M.op)).setCell ⟨g, 1, none⟩ (.int .i64 M.a)).setCell ⟨g, 2, none⟩ (.int .i64 M.b)).setCell ⟨g, 3, none⟩ (.slice M.s.A M.s.n M.s.c)) g 35 [.string M.op, .int .i64 M.a, .int .i64 M.b, .slice M.s.A M.s.n M.s.c] :=
 ⟨(h.grown (four_self w1 g (.string M.op) (.int .i64 M.a) (.int .i64 M.b) (.slice M.s.A M.s.n M.s.c)) fun b hb => by simp; exact hb.2).mono fun b _ hb => hb.1, hY.trans (four_below hW (.string M.op) (.int .i64 M.a) (.int .i64 M.b) (.slice M.s.A M.s.n M.s.c)), four_laid hB (.string M.op) (.int .i64 M.a) (.int .i64 M.b) (.slice M.s.A M.s.n M.s.c)⟩
set_option maxRecDepth 100000 in
set_option maxHeartbeats 2000000 in
theorem bent_1 {W : World} {P : Nat → Prop} {op : ByteArray} {a b : Int} {l : List MkM} {A : Option Addr} {n c : Nat} {at_ which v : Int} {q : Nat} (h : MkM.Ok W 35 P ⟨op, a, b, l, ⟨A, n, c⟩⟩) (hP : ∀ q, P q → q < W.heap.size) (hfan : MkM.Fan q ⟨op, a, b, l, ⟨A, n, c⟩⟩) (hq : 1 ≤ q ∧ q ≤ 1000) (hsz : (MkM.core ⟨op, a, b, l, ⟨A, n, c⟩⟩).size ≤ 1000000) (hat : In64 at_) (hw : In64 which) (hv : In64 v) (hx : around at_ ((MkM.core ⟨op, a, b, l, ⟨A, n, c⟩⟩).size : Nat) = 0) (hd : around which 6 = 1) :
 Calls Tryz.prog 17 #[.agg #[.string op, .int .i64 a, .int .i64 b, .slice A n c], .int .i64 at_, .int .i64 which, .int .i64 v] W (BentM W P q ⟨op, a, b, l, ⟨A, n, c⟩⟩) := by
 have hs1 : (1 : Int) ≤ ((MkM.core ⟨op, a, b, l, ⟨A, n, c⟩⟩).size : Nat) := by have := core_size ⟨op, a, b, l, ⟨A, n, c⟩⟩; omega
 have HSZ := Lib.hid (core_size ⟨op, a, b, l, ⟨A, n, c⟩⟩)
 have HPP := Lib.hid hP
 have KD := Lib.hid (fun w => around_any which 6 w hw.1 hw.2 (by decide) (by decide))
 rw [hd] at KD
 have HV := Lib.hid hv
 have HQ := Lib.hid hq
 clear hP hd hw hv hq
 have y : Below W.heap.size W ((W.alloc (.cells #[.string op, .int .i64 a, .int .i64 b, .slice A n c] 35)).alloc (.cells #[.string ⟨#[]⟩, .int .i64 0, .int .i64 0, .slice none 0 0] 35)) := ((Below.refl _ _).alloc (Nat.le_refl _) _).alloc (by simp) _
 have KS := Lib.hid (size_any ⟨op, a, b, l, ⟨A, n, c⟩⟩ ((W.alloc (.cells #[.string op, .int .i64 a, .int .i64 b, .slice A n c] 35)).alloc (.cells #[.string ⟨#[]⟩, .int .i64 0, .int .i64 0, .slice none 0 0] 35)) P (h.bel y) (by omega))
 have Y := Lib.hid y
 have BX := Lib.hid ((Bk.new W 35 [.string op, .int .i64 a, .int .i64 b, .slice A n c]).alloc (.cells #[.string ⟨#[]⟩, .int .i64 0, .int .i64 0, .slice none 0 0] 35))
 have BR : Hid (Bk ((W.alloc (.cells #[.string op, .int .i64 a, .int .i64 b, .slice A n c] 35)).alloc (.cells #[.string ⟨#[]⟩, .int .i64 0, .int .i64 0, .slice none 0 0] 35)) (W.heap.size + 1) 35 [.string ⟨#[]⟩, .int .i64 0, .int .i64 0, .slice none 0 0]) := by
  have := Bk.new (W.alloc (.cells #[.string op, .int .i64 a, .int .i64 b, .slice A n c] 35)) 35 [.string ⟨#[]⟩, .int .i64 0, .int .i64 0, .slice none 0 0]
  rw [World.size_alloc] at this
  exact Lib.hid this
 have H := Lib.hid h
 have HF := Lib.hid hfan
 have hn := h.small
 have HN := Lib.hid h.len
 have HX := Lib.hid hx
 have HS := Lib.hid hsz
 generalize he : (MkM.core ⟨op, a, b, l, ⟨A, n, c⟩⟩).size = sz at *
 have HE := Lib.hid he
 clear he
 have KA := Lib.hid (fun w => around_any at_ sz w hat.1 hat.2 hs1 (by omega))
 rw [hx] at KA
 clear h y hfan hx hsz
 dsimp only at hn HN
 go_enter Tryz.func17, Tryz.ntmps17
 go_wp2_with fail
 refine KS.out.mono ?_
 rintro e w1 ⟨rfl, hb⟩
 have HB1 := Lib.hid (Y.out.trans (hb.mono Y.out.size))
 have HX1 := Lib.hid (BX.out.below hb BX.out.lt)
 have HR1 := Lib.hid (BR.out.below hb BR.out.lt)
 have hs1' := HB1.out.size
 have hxl := HX1.out.lt
 have hrl := HR1.out.lt
 clear KS hb Y BX BR
 go_wp2_with fail
 refine (KA.out _).mono ?_
 rintro e w2 ⟨rfl, rfl⟩
 clear KA
 have x0 : w1.cell? ⟨W.heap.size, 0, none⟩ = some (.string op) := HX1.out.cell 0
 have g0 := HX1.out.frozen 0
 have r0 : w1.cell? ⟨W.heap.size + 1, 0, none⟩ = some (.string ⟨#[]⟩) := HR1.out.cell 0
 have f0 := HR1.out.frozen 0
 have x1 : w1.cell? ⟨W.heap.size, 1, none⟩ = some (.int .i64 a) := HX1.out.cell 1
 have g1 := HX1.out.frozen 1
 have r1 : w1.cell? ⟨W.heap.size + 1, 1, none⟩ = some (.int .i64 0) := HR1.out.cell 1
 have f1 := HR1.out.frozen 1
 have x2 : w1.cell? ⟨W.heap.size, 2, none⟩ = some (.int .i64 b) := HX1.out.cell 2
 have g2 := HX1.out.frozen 2
 have r2 : w1.cell? ⟨W.heap.size + 1, 2, none⟩ = some (.int .i64 0) := HR1.out.cell 2
 have f2 := HR1.out.frozen 2
 have x3 : w1.cell? ⟨W.heap.size, 3, none⟩ = some (.slice A n c) := HX1.out.cell 3
 have g3 := HX1.out.frozen 3
 have r3 : w1.cell? ⟨W.heap.size + 1, 3, none⟩ = some (.slice none 0 0) := HR1.out.cell 3
 have f3 := HR1.out.frozen 3
 go_wp2_with fail
 refine (KD.out _).mono ?_
 rintro e w3 ⟨rfl, rfl⟩
 clear KD
 go_wp2
 have hr2 := HR1.out.setOther (b := W.heap.size) (k := 1) (u := (.int .i64 v)) (by omega)
 have hb2 : Below W.heap.size W (w1.setCell ⟨W.heap.size, 1, none⟩ (.int .i64 v)) := HB1.out.setCell (Nat.le_refl _) _
 have ok2 : MkM.Ok (w1.setCell ⟨W.heap.size, 1, none⟩ (.int .i64 v)) 35 (fun b => (P b ∨ W.heap.size ≤ b) ∧ b ≠ W.heap.size + 1) ⟨op, v, b, l, ⟨A, n, c⟩⟩ := by
  have h2 := (H.out.bel hb2).mono (Q := fun b => (P b ∨ W.heap.size ≤ b) ∧ b ≠ W.heap.size + 1) fun b _ hb => ⟨.inl hb, by have := HPP.out b hb; omega⟩
  exact .mk _ _ _ _ _ h2.row h2.len h2.small h2.hop HV.out h2.hb h2.each
 have hL := lay_any (M := ⟨op, v, b, l, ⟨A, n, c⟩⟩) (g := W.heap.size + 1) (by omega) hr2 (ok2) (hb2)
 dsimp only at hL
 generalize (((((w1.setCell ⟨W.heap.size, 1, none⟩ (.int .i64 v)).setCell ⟨W.heap.size + 1, 0, none⟩ (.string op)).setCell ⟨W.heap.size + 1, 1, none⟩ (.int .i64 v)).setCell ⟨W.heap.size + 1, 2, none⟩ (.int .i64 b)).setCell ⟨W.heap.size + 1, 3, none⟩ (.slice A n c)) = X at *
 have xx0 : X.cell? ⟨W.heap.size + 1, 0, none⟩ = some (.string op) := hL.2.2.cell 0
 have xx1 : X.cell? ⟨W.heap.size + 1, 1, none⟩ = some (.int .i64 v) := hL.2.2.cell 1
 have xx2 : X.cell? ⟨W.heap.size + 1, 2, none⟩ = some (.int .i64 b) := hL.2.2.cell 2
 have xx3 : X.cell? ⟨W.heap.size + 1, 3, none⟩ = some (.slice A n c) := hL.2.2.cell 3
 refine bodyPost_ret (v := .agg #[.string op, .int .i64 v, .int .i64 b, .slice A n c]) (by simp [results, Tryz.results17, go_sem, xx0, xx1, xx2, xx3]) rfl ?_
 exact ⟨⟨op, v, b, l, ⟨A, n, c⟩⟩, rfl, hL.1, (by have h1 := core_size ⟨op, v, b, l, ⟨A, n, c⟩⟩; have h2 := HSZ.out; have h3 := HE.out; dsimp only at h1 h2; omega), (.mk _ _ _ _ _ (Nat.le_succ_of_le HF.out.len) HF.out.cap fun t ht => (HF.out.kid t ht).mono (Nat.le_succ _)), hL.2.1⟩
set_option maxRecDepth 100000 in
set_option maxHeartbeats 2000000 in
theorem bent_2 {W : World} {P : Nat → Prop} {op : ByteArray} {a b : Int} {l : List MkM} {A : Option Addr} {n c : Nat} {at_ which v : Int} {q : Nat} (h : MkM.Ok W 35 P ⟨op, a, b, l, ⟨A, n, c⟩⟩) (hP : ∀ q, P q → q < W.heap.size) (hfan : MkM.Fan q ⟨op, a, b, l, ⟨A, n, c⟩⟩) (hq : 1 ≤ q ∧ q ≤ 1000) (hsz : (MkM.core ⟨op, a, b, l, ⟨A, n, c⟩⟩).size ≤ 1000000) (hat : In64 at_) (hw : In64 which) (hv : In64 v) (hx : around at_ ((MkM.core ⟨op, a, b, l, ⟨A, n, c⟩⟩).size : Nat) = 0) (hd : around which 6 = 2) :
 Calls Tryz.prog 17 #[.agg #[.string op, .int .i64 a, .int .i64 b, .slice A n c], .int .i64 at_, .int .i64 which, .int .i64 v] W (BentM W P q ⟨op, a, b, l, ⟨A, n, c⟩⟩) := by
 have hs1 : (1 : Int) ≤ ((MkM.core ⟨op, a, b, l, ⟨A, n, c⟩⟩).size : Nat) := by have := core_size ⟨op, a, b, l, ⟨A, n, c⟩⟩; omega
 have HSZ := Lib.hid (core_size ⟨op, a, b, l, ⟨A, n, c⟩⟩)
 have HPP := Lib.hid hP
 have KD := Lib.hid (fun w => around_any which 6 w hw.1 hw.2 (by decide) (by decide))
 rw [hd] at KD
 have HV := Lib.hid hv
 have HQ := Lib.hid hq
 clear hP hd hw hv hq
 have y : Below W.heap.size W ((W.alloc (.cells #[.string op, .int .i64 a, .int .i64 b, .slice A n c] 35)).alloc (.cells #[.string ⟨#[]⟩, .int .i64 0, .int .i64 0, .slice none 0 0] 35)) := ((Below.refl _ _).alloc (Nat.le_refl _) _).alloc (by simp) _
 have KS := Lib.hid (size_any ⟨op, a, b, l, ⟨A, n, c⟩⟩ ((W.alloc (.cells #[.string op, .int .i64 a, .int .i64 b, .slice A n c] 35)).alloc (.cells #[.string ⟨#[]⟩, .int .i64 0, .int .i64 0, .slice none 0 0] 35)) P (h.bel y) (by omega))
 have Y := Lib.hid y
 have BX := Lib.hid ((Bk.new W 35 [.string op, .int .i64 a, .int .i64 b, .slice A n c]).alloc (.cells #[.string ⟨#[]⟩, .int .i64 0, .int .i64 0, .slice none 0 0] 35))
 have BR : Hid (Bk ((W.alloc (.cells #[.string op, .int .i64 a, .int .i64 b, .slice A n c] 35)).alloc (.cells #[.string ⟨#[]⟩, .int .i64 0, .int .i64 0, .slice none 0 0] 35)) (W.heap.size + 1) 35 [.string ⟨#[]⟩, .int .i64 0, .int .i64 0, .slice none 0 0]) := by
  have := Bk.new (W.alloc (.cells #[.string op, .int .i64 a, .int .i64 b, .slice A n c] 35)) 35 [.string ⟨#[]⟩, .int .i64 0, .int .i64 0, .slice none 0 0]
  rw [World.size_alloc] at this
  exact Lib.hid this
 have H := Lib.hid h
 have HF := Lib.hid hfan
 have hn := h.small
 have HN := Lib.hid h.len
 have HX := Lib.hid hx
 have HS := Lib.hid hsz
 generalize he : (MkM.core ⟨op, a, b, l, ⟨A, n, c⟩⟩).size = sz at *
 have HE := Lib.hid he
 clear he
 have KA := Lib.hid (fun w => around_any at_ sz w hat.1 hat.2 hs1 (by omega))
 rw [hx] at KA
 clear h y hfan hx hsz
 dsimp only at hn HN
 go_enter Tryz.func17, Tryz.ntmps17
 go_wp2_with fail
 refine KS.out.mono ?_
 rintro e w1 ⟨rfl, hb⟩
 have HB1 := Lib.hid (Y.out.trans (hb.mono Y.out.size))
 have HX1 := Lib.hid (BX.out.below hb BX.out.lt)
 have HR1 := Lib.hid (BR.out.below hb BR.out.lt)
 have hs1' := HB1.out.size
 have hxl := HX1.out.lt
 have hrl := HR1.out.lt
 clear KS hb Y BX BR
 go_wp2_with fail
 refine (KA.out _).mono ?_
 rintro e w2 ⟨rfl, rfl⟩
 clear KA
 have x0 : w1.cell? ⟨W.heap.size, 0, none⟩ = some (.string op) := HX1.out.cell 0
 have g0 := HX1.out.frozen 0
 have r0 : w1.cell? ⟨W.heap.size + 1, 0, none⟩ = some (.string ⟨#[]⟩) := HR1.out.cell 0
 have f0 := HR1.out.frozen 0
 have x1 : w1.cell? ⟨W.heap.size, 1, none⟩ = some (.int .i64 a) := HX1.out.cell 1
 have g1 := HX1.out.frozen 1
 have r1 : w1.cell? ⟨W.heap.size + 1, 1, none⟩ = some (.int .i64 0) := HR1.out.cell 1
 have f1 := HR1.out.frozen 1
 have x2 : w1.cell? ⟨W.heap.size, 2, none⟩ = some (.int .i64 b) := HX1.out.cell 2
 have g2 := HX1.out.frozen 2
 have r2 : w1.cell? ⟨W.heap.size + 1, 2, none⟩ = some (.int .i64 0) := HR1.out.cell 2
 have f2 := HR1.out.frozen 2
 have x3 : w1.cell? ⟨W.heap.size, 3, none⟩ = some (.slice A n c) := HX1.out.cell 3
 have g3 := HX1.out.frozen 3
 have r3 : w1.cell? ⟨W.heap.size + 1, 3, none⟩ = some (.slice none 0 0) := HR1.out.cell 3
 have f3 := HR1.out.frozen 3
 go_wp2_with fail
 refine (KD.out _).mono ?_
 rintro e w3 ⟨rfl, rfl⟩
 clear KD
 go_wp2
 have hr2 := HR1.out.setOther (b := W.heap.size) (k := 2) (u := (.int .i64 v)) (by omega)
 have hb2 : Below W.heap.size W (w1.setCell ⟨W.heap.size, 2, none⟩ (.int .i64 v)) := HB1.out.setCell (Nat.le_refl _) _
 have ok2 : MkM.Ok (w1.setCell ⟨W.heap.size, 2, none⟩ (.int .i64 v)) 35 (fun b => (P b ∨ W.heap.size ≤ b) ∧ b ≠ W.heap.size + 1) ⟨op, a, v, l, ⟨A, n, c⟩⟩ := by
  have h2 := (H.out.bel hb2).mono (Q := fun b => (P b ∨ W.heap.size ≤ b) ∧ b ≠ W.heap.size + 1) fun b _ hb => ⟨.inl hb, by have := HPP.out b hb; omega⟩
  exact .mk _ _ _ _ _ h2.row h2.len h2.small h2.hop h2.ha HV.out h2.each
 have hL := lay_any (M := ⟨op, a, v, l, ⟨A, n, c⟩⟩) (g := W.heap.size + 1) (by omega) hr2 (ok2) (hb2)
 dsimp only at hL
 generalize (((((w1.setCell ⟨W.heap.size, 2, none⟩ (.int .i64 v)).setCell ⟨W.heap.size + 1, 0, none⟩ (.string op)).setCell ⟨W.heap.size + 1, 1, none⟩ (.int .i64 a)).setCell ⟨W.heap.size + 1, 2, none⟩ (.int .i64 v)).setCell ⟨W.heap.size + 1, 3, none⟩ (.slice A n c)) = X at *
 have xx0 : X.cell? ⟨W.heap.size + 1, 0, none⟩ = some (.string op) := hL.2.2.cell 0
 have xx1 : X.cell? ⟨W.heap.size + 1, 1, none⟩ = some (.int .i64 a) := hL.2.2.cell 1
 have xx2 : X.cell? ⟨W.heap.size + 1, 2, none⟩ = some (.int .i64 v) := hL.2.2.cell 2
 have xx3 : X.cell? ⟨W.heap.size + 1, 3, none⟩ = some (.slice A n c) := hL.2.2.cell 3
 refine bodyPost_ret (v := .agg #[.string op, .int .i64 a, .int .i64 v, .slice A n c]) (by simp [results, Tryz.results17, go_sem, xx0, xx1, xx2, xx3]) rfl ?_
 exact ⟨⟨op, a, v, l, ⟨A, n, c⟩⟩, rfl, hL.1, (by have h1 := core_size ⟨op, a, v, l, ⟨A, n, c⟩⟩; have h2 := HSZ.out; have h3 := HE.out; dsimp only at h1 h2; omega), (.mk _ _ _ _ _ (Nat.le_succ_of_le HF.out.len) HF.out.cap fun t ht => (HF.out.kid t ht).mono (Nat.le_succ _)), hL.2.1⟩
set_option maxRecDepth 100000 in
theorem conds_own (w : World) : Calls Tryz.prog 49 #[] w fun e w' => ∃ v, e = .returned v ∧ w'.ownsRow w.heap.size 9 1 v 8 (condNs.map Value.string) ∧ Below w.heap.size w w' := by
 go_enter Tryz.func49, Tryz.ntmps49
 go_wp2
 go_ret
 exact ⟨_, rfl, ⟨rfl, .inr ⟨w.heap.size, 8, _, rfl, Nat.le_refl _, heap_alloc_new w _, Nat.le_refl _, by decide, rfl, rfl⟩⟩, (Below.refl _ _).alloc (Nat.le_refl _) _⟩
theorem ops13_at (j : Nat) (h : j < 13) : ∃ s : ByteArray, (condNs.map Value.string ++ [.string ⟨#[97, 110, 100]⟩, .string ⟨#[111, 114]⟩, .string ⟨#[110, 111, 116]⟩, .string ⟨#[]⟩, .string ⟨#[120, 111, 114]⟩])[j]? = some (.string s) ∧ s.size ≤ 100 := by
 rcases (show j = 0 ∨ j = 1 ∨ j = 2 ∨ j = 3 ∨ j = 4 ∨ j = 5 ∨ j = 6 ∨ j = 7 ∨ j = 8 ∨ j = 9 ∨ j = 10 ∨ j = 11 ∨ j = 12 by omega) with rfl | rfl | rfl | rfl | rfl | rfl | rfl | rfl | rfl | rfl | rfl | rfl | rfl
 ·exact ⟨_, rfl, by decide⟩
 ·exact ⟨_, rfl, by decide⟩
 ·exact ⟨_, rfl, by decide⟩
 ·exact ⟨_, rfl, by decide⟩
 ·exact ⟨_, rfl, by decide⟩
 ·exact ⟨_, rfl, by decide⟩
 ·exact ⟨_, rfl, by decide⟩
 ·exact ⟨_, rfl, by decide⟩
 ·exact ⟨_, rfl, by decide⟩
 ·exact ⟨_, rfl, by decide⟩
 ·exact ⟨_, rfl, by decide⟩
 ·exact ⟨_, rfl, by decide⟩
 ·exact ⟨_, rfl, by decide⟩
set_option maxRecDepth 100000 in
set_option maxHeartbeats 2000000 in
theorem bent_0 {W : World} {P : Nat → Prop} {op : ByteArray} {a b : Int} {l : List MkM} {A : Option Addr} {n c : Nat} {at_ which v : Int} {q : Nat} (h : MkM.Ok W 35 P ⟨op, a, b, l, ⟨A, n, c⟩⟩) (hP : ∀ q, P q → q < W.heap.size) (hfan : MkM.Fan q ⟨op, a, b, l, ⟨A, n, c⟩⟩) (hq : 1 ≤ q ∧ q ≤ 1000) (hsz : (MkM.core ⟨op, a, b, l, ⟨A, n, c⟩⟩).size ≤ 1000000) (hat : In64 at_) (hw : In64 which) (hv : In64 v) (hx : around at_ ((MkM.core ⟨op, a, b, l, ⟨A, n, c⟩⟩).size : Nat) = 0) (hd : around which 6 = 0) :
 Calls Tryz.prog 17 #[.agg #[.string op, .int .i64 a, .int .i64 b, .slice A n c], .int .i64 at_, .int .i64 which, .int .i64 v] W (BentM W P q ⟨op, a, b, l, ⟨A, n, c⟩⟩) := by
 have hs1 : (1 : Int) ≤ ((MkM.core ⟨op, a, b, l, ⟨A, n, c⟩⟩).size : Nat) := by have := core_size ⟨op, a, b, l, ⟨A, n, c⟩⟩; omega
 have HSZ := Lib.hid (core_size ⟨op, a, b, l, ⟨A, n, c⟩⟩)
 have HPP := Lib.hid hP
 have KD := Lib.hid (fun w => around_any which 6 w hw.1 hw.2 (by decide) (by decide))
 rw [hd] at KD
 have KV := Lib.hid (fun w => around_any v 13 w hv.1 hv.2 (by decide) (by decide))
 have j0 := around_lo v 13 (by decide)
 have j1 := around_hi v 13 (by decide)
 generalize around v 13 = jj at *
 obtain ⟨j, rfl⟩ := Int.eq_ofNat_of_zero_le j0
 obtain ⟨s, hsj, hss⟩ := ops13_at j (by omega)
 have HSJ := Lib.hid hsj
 have HSS := Lib.hid hss
 clear hsj hss
 obtain ⟨i0, hi, hz0, hz1, hz2⟩ := info_parts info9
 have HQ := Lib.hid hq
 clear hP hd hw hv hq
 have y : Below W.heap.size W ((W.alloc (.cells #[.string op, .int .i64 a, .int .i64 b, .slice A n c] 35)).alloc (.cells #[.string ⟨#[]⟩, .int .i64 0, .int .i64 0, .slice none 0 0] 35)) := ((Below.refl _ _).alloc (Nat.le_refl _) _).alloc (by simp) _
 have KS := Lib.hid (size_any ⟨op, a, b, l, ⟨A, n, c⟩⟩ ((W.alloc (.cells #[.string op, .int .i64 a, .int .i64 b, .slice A n c] 35)).alloc (.cells #[.string ⟨#[]⟩, .int .i64 0, .int .i64 0, .slice none 0 0] 35)) P (h.bel y) (by omega))
 have Y := Lib.hid y
 have BX := Lib.hid ((Bk.new W 35 [.string op, .int .i64 a, .int .i64 b, .slice A n c]).alloc (.cells #[.string ⟨#[]⟩, .int .i64 0, .int .i64 0, .slice none 0 0] 35))
 have BR : Hid (Bk ((W.alloc (.cells #[.string op, .int .i64 a, .int .i64 b, .slice A n c] 35)).alloc (.cells #[.string ⟨#[]⟩, .int .i64 0, .int .i64 0, .slice none 0 0] 35)) (W.heap.size + 1) 35 [.string ⟨#[]⟩, .int .i64 0, .int .i64 0, .slice none 0 0]) := by
  have := Bk.new (W.alloc (.cells #[.string op, .int .i64 a, .int .i64 b, .slice A n c] 35)) 35 [.string ⟨#[]⟩, .int .i64 0, .int .i64 0, .slice none 0 0]
  rw [World.size_alloc] at this
  exact Lib.hid this
 have H := Lib.hid h
 have HF := Lib.hid hfan
 have hn := h.small
 have HN := Lib.hid h.len
 have HX := Lib.hid hx
 have HS := Lib.hid hsz
 generalize he : (MkM.core ⟨op, a, b, l, ⟨A, n, c⟩⟩).size = sz at *
 have HE := Lib.hid he
 clear he
 have KA := Lib.hid (fun w => around_any at_ sz w hat.1 hat.2 hs1 (by omega))
 rw [hx] at KA
 clear h y hfan hx hsz
 dsimp only at hn HN
 go_enter Tryz.func17, Tryz.ntmps17
 go_wp2_with fail
 refine KS.out.mono ?_
 rintro e w1 ⟨rfl, hb⟩
 have HB1 := Lib.hid (Y.out.trans (hb.mono Y.out.size))
 have HX1 := Lib.hid (BX.out.below hb BX.out.lt)
 have HR1 := Lib.hid (BR.out.below hb BR.out.lt)
 have hs1' := HB1.out.size
 have hxl := HX1.out.lt
 have hrl := HR1.out.lt
 clear KS hb Y BX BR
 go_wp2_with fail
 refine (KA.out _).mono ?_
 rintro e w2 ⟨rfl, rfl⟩
 clear KA
 go_wp2_with fail
 refine (KD.out _).mono ?_
 rintro e w3 ⟨rfl, rfl⟩
 clear KD
 go_wp2_with fail
 refine (conds_own w1).mono ?_
 rintro e w2 ⟨v5, rfl, hown, hb⟩
 have HB2 := Lib.hid (HB1.out.trans (hb.mono HB1.out.size))
 have HX2 := Lib.hid (HX1.out.below hb HX1.out.lt)
 have HR2 := Lib.hid (HR1.out.below hb HR1.out.lt)
 have HO := Lib.hid hown
 have hs2 := hb.size
 clear hown hb
 go_wp2_with (at_builtin; refine wpList_append_own_at _ rfl _ _ 39 rfl w1.heap.size 9 i0 (.string ⟨#[]⟩) 1 16 Tryz.underlying39 hi hz0 hz1 hz2 rfl (by decide) _ 8 (condNs.map Value.string) rfl (HO.out.alloc _) ⟨w2.heap.size, 0, none⟩ 5 5 [.string ⟨#[97, 110, 100]⟩, .string ⟨#[111, 114]⟩, .string ⟨#[110, 111, 116]⟩, .string ⟨#[]⟩, .string ⟨#[120, 111, 114]⟩] rfl rfl ?c1 ?c2 ?c3 ?c4 ?c5 ?_)
 case c1 => exact new5 w2 9 _ _ _ _ _
 case c2 => intro u hu; simp only [List.mem_cons, List.not_mem_nil, or_false] at hu; rcases hu with rfl | rfl | rfl | rfl | rfl <;> rfl
 case c3 => unfold maxLen; omega
 case c4 => omega
 case c5 => simp; omega
 intro v' w5 hown' hgrow _ _
 have HB5 := Lib.hid ((HB2.out.alloc HB2.out.size (.cells #[.string ⟨#[97, 110, 100]⟩, .string ⟨#[111, 114]⟩, .string ⟨#[110, 111, 116]⟩, .string ⟨#[]⟩, .string ⟨#[120, 111, 114]⟩] 9)).grown hgrow (by simp; have := HB2.out.size; omega) (fun g hg => by have := row_base HO.out g hg; omega))
 have HX5 := Lib.hid ((HX2.out.alloc (.cells #[.string ⟨#[97, 110, 100]⟩, .string ⟨#[111, 114]⟩, .string ⟨#[110, 111, 116]⟩, .string ⟨#[]⟩, .string ⟨#[120, 111, 114]⟩] 9)).grown hgrow (fun e => by have := row_base HO.out _ e.symm; omega))
 have HR5 := Lib.hid ((HR2.out.alloc (.cells #[.string ⟨#[97, 110, 100]⟩, .string ⟨#[111, 114]⟩, .string ⟨#[110, 111, 116]⟩, .string ⟨#[]⟩, .string ⟨#[120, 111, 114]⟩] 9)).grown hgrow (fun e => by have := row_base HO.out _ e.symm; omega))
 obtain ⟨A5, c5, rfl, hr5⟩ := row_of_owns hown'
 obtain ⟨b5, off5, rfl, hb5, hc5⟩ := hr5.at_ j (by simp [condNs]; omega)
 have hcj := hc5 j _ HSJ.out
 clear hown' hgrow hr5 hc5 HO HX2 HR2 HB2
 go_wp2_with fail
 refine (KV.out _).mono ?_
 rintro e w6 ⟨rfl, rfl⟩
 clear KV
 have x0 : w5.cell? ⟨W.heap.size, 0, none⟩ = some (.string op) := HX5.out.cell 0
 have x1 : w5.cell? ⟨W.heap.size, 1, none⟩ = some (.int .i64 a) := HX5.out.cell 1
 have x2 : w5.cell? ⟨W.heap.size, 2, none⟩ = some (.int .i64 b) := HX5.out.cell 2
 have x3 : w5.cell? ⟨W.heap.size, 3, none⟩ = some (.slice A n c) := HX5.out.cell 3
 have g0 := HX5.out.frozen 0
 have r0 : w5.cell? ⟨W.heap.size + 1, 0, none⟩ = some (.string ⟨#[]⟩) := HR5.out.cell 0
 have r1 : w5.cell? ⟨W.heap.size + 1, 1, none⟩ = some (.int .i64 0) := HR5.out.cell 1
 have r2 : w5.cell? ⟨W.heap.size + 1, 2, none⟩ = some (.int .i64 0) := HR5.out.cell 2
 have r3 : w5.cell? ⟨W.heap.size + 1, 3, none⟩ = some (.slice none 0 0) := HR5.out.cell 3
 have f0 := HR5.out.frozen 0
 have f1 := HR5.out.frozen 1
 have f2 := HR5.out.frozen 2
 have f3 := HR5.out.frozen 3
 have hxl5 := HX5.out.lt
 have hrl5 := HR5.out.lt
 go_wp2
 have hr2 := HR5.out.setOther (b := W.heap.size) (k := 0) (u := .string s) (by omega)
 have hb2 : Below W.heap.size W (w5.setCell ⟨W.heap.size, 0, none⟩ (.string s)) := HB5.out.setCell (Nat.le_refl _) _
 have ok2 : MkM.Ok (w5.setCell ⟨W.heap.size, 0, none⟩ (.string s)) 35 (fun b => (P b ∨ W.heap.size ≤ b) ∧ b ≠ W.heap.size + 1) ⟨s, a, b, l, ⟨A, n, c⟩⟩ := by
  have h2 := (H.out.bel hb2).mono (Q := fun b => (P b ∨ W.heap.size ≤ b) ∧ b ≠ W.heap.size + 1) fun b _ hb => ⟨.inl hb, by have := HPP.out b hb; omega⟩
  exact .mk _ _ _ _ _ h2.row h2.len h2.small (Nat.le_trans HSS.out (by decide)) h2.ha h2.hb h2.each
 have hL := lay_any (M := ⟨s, a, b, l, ⟨A, n, c⟩⟩) (g := W.heap.size + 1) (by omega) hr2 (ok2) (hb2)
 dsimp only at hL
 generalize (((((w5.setCell ⟨W.heap.size, 0, none⟩ (.string s)).setCell ⟨W.heap.size + 1, 0, none⟩ (.string s)).setCell ⟨W.heap.size + 1, 1, none⟩ (.int .i64 a)).setCell ⟨W.heap.size + 1, 2, none⟩ (.int .i64 b)).setCell ⟨W.heap.size + 1, 3, none⟩ (.slice A n c)) = X at *
 have xx0 : X.cell? ⟨W.heap.size + 1, 0, none⟩ = some (.string s) := hL.2.2.cell 0
 have xx1 : X.cell? ⟨W.heap.size + 1, 1, none⟩ = some (.int .i64 a) := hL.2.2.cell 1
 have xx2 : X.cell? ⟨W.heap.size + 1, 2, none⟩ = some (.int .i64 b) := hL.2.2.cell 2
 have xx3 : X.cell? ⟨W.heap.size + 1, 3, none⟩ = some (.slice A n c) := hL.2.2.cell 3
 refine bodyPost_ret (v := .agg #[.string s, .int .i64 a, .int .i64 b, .slice A n c]) (by simp [results, Tryz.results17, go_sem, xx0, xx1, xx2, xx3]) rfl ?_
 exact ⟨⟨s, a, b, l, ⟨A, n, c⟩⟩, rfl, hL.1, (by have h1 := core_size ⟨s, a, b, l, ⟨A, n, c⟩⟩; have h2 := HSZ.out; have h3 := HE.out; dsimp only at h1 h2; omega), (.mk _ _ _ _ _ (Nat.le_succ_of_le HF.out.len) HF.out.cap fun t ht => (HF.out.kid t ht).mono (Nat.le_succ _)), hL.2.1⟩
theorem PRow.take {w : World} {t : TypeId} {P : Nat → Prop} {A : Option Addr} {l : List MkM} (h : PRow w t P A (mcells l)) (m : Nat) : PRow w t P A (mcells (l.take m)) := by
 have e : ∀ (j : Nat) (u : Value), (mcells (l.take m))[j]? = some u → (mcells l)[j]? = some u := by
  intro j u hu
  have h2 : mcells l = mcells (l.take m) ++ mcells (l.drop m) := by
   rw [mcells, mcells, mcells, ← List.flatMap_append, List.take_append_drop]
  rw [h2, List.getElem?_append_left (List.getElem?_eq_some_iff.1 hu).1]; exact hu
 rcases h with h | ⟨b, off, cur, fl, hA, hP, hb, hc⟩
 ·left
  cases hq : mcells (l.take m) with
  | nil => rfl
  | cons x xs =>
    have := e 0 x (by rw [hq]; rfl)
    rw [h] at this; cases this
 ·exact .inr ⟨b, off, cur, fl, hA, hP, hb, fun j u hu => hc j u (e j u hu)⟩
set_option maxRecDepth 100000 in
set_option maxHeartbeats 2000000 in
theorem bent_3 {W : World} {P : Nat → Prop} {op : ByteArray} {a b : Int} {l : List MkM} {A : Option Addr} {n c : Nat} {at_ which v : Int} {q : Nat} (h : MkM.Ok W 35 P ⟨op, a, b, l, ⟨A, n, c⟩⟩) (hP : ∀ q, P q → q < W.heap.size) (hfan : MkM.Fan q ⟨op, a, b, l, ⟨A, n, c⟩⟩) (hq : 1 ≤ q ∧ q ≤ 1000) (hsz : (MkM.core ⟨op, a, b, l, ⟨A, n, c⟩⟩).size ≤ 1000000) (hat : In64 at_) (hw : In64 which) (hv : In64 v) (hx : around at_ ((MkM.core ⟨op, a, b, l, ⟨A, n, c⟩⟩).size : Nat) = 0) (hd : around which 6 = 3) :
 Calls Tryz.prog 17 #[.agg #[.string op, .int .i64 a, .int .i64 b, .slice A n c], .int .i64 at_, .int .i64 which, .int .i64 v] W (BentM W P q ⟨op, a, b, l, ⟨A, n, c⟩⟩) := by
 have hs1 : (1 : Int) ≤ ((MkM.core ⟨op, a, b, l, ⟨A, n, c⟩⟩).size : Nat) := by have := core_size ⟨op, a, b, l, ⟨A, n, c⟩⟩; omega
 have HSZ := Lib.hid (core_size ⟨op, a, b, l, ⟨A, n, c⟩⟩)
 have HPP := Lib.hid hP
 have KD := Lib.hid (fun w => around_any which 6 w hw.1 hw.2 (by decide) (by decide))
 rw [hd] at KD
 have HV := Lib.hid hv
 have HQ := Lib.hid hq
 clear hP hd hw hv hq
 rcases hfan.cap with hc | ⟨g, hg, hcap⟩
 ·obtain ⟨rfl, rfl, rfl⟩ : A = none ∧ n = 0 ∧ c = 0 := by simpa using hc
  clear hc
  have hmx0 : max (0 : Int) (-1) = 0 := by decide
  have y : Below W.heap.size W ((W.alloc (.cells #[.string op, .int .i64 a, .int .i64 b, .slice none 0 0] 35)).alloc (.cells #[.string ⟨#[]⟩, .int .i64 0, .int .i64 0, .slice none 0 0] 35)) := ((Below.refl _ _).alloc (Nat.le_refl _) _).alloc (by simp) _
  have KS := Lib.hid (size_any ⟨op, a, b, l, ⟨none, 0, 0⟩⟩ ((W.alloc (.cells #[.string op, .int .i64 a, .int .i64 b, .slice none 0 0] 35)).alloc (.cells #[.string ⟨#[]⟩, .int .i64 0, .int .i64 0, .slice none 0 0] 35)) P (h.bel y) (by omega))
  have Y := Lib.hid y
  have BX := Lib.hid ((Bk.new W 35 [.string op, .int .i64 a, .int .i64 b, .slice none 0 0]).alloc (.cells #[.string ⟨#[]⟩, .int .i64 0, .int .i64 0, .slice none 0 0] 35))
  have BR : Hid (Bk ((W.alloc (.cells #[.string op, .int .i64 a, .int .i64 b, .slice none 0 0] 35)).alloc (.cells #[.string ⟨#[]⟩, .int .i64 0, .int .i64 0, .slice none 0 0] 35)) (W.heap.size + 1) 35 [.string ⟨#[]⟩, .int .i64 0, .int .i64 0, .slice none 0 0]) := by
   have := Bk.new (W.alloc (.cells #[.string op, .int .i64 a, .int .i64 b, .slice none 0 0] 35)) 35 [.string ⟨#[]⟩, .int .i64 0, .int .i64 0, .slice none 0 0]
   rw [World.size_alloc] at this
   exact Lib.hid this
  have H := Lib.hid h
  have HF := Lib.hid hfan
  have hn := h.small
  have HN := Lib.hid h.len
  have HX := Lib.hid hx
  have HS := Lib.hid hsz
  generalize he : (MkM.core ⟨op, a, b, l, ⟨none, 0, 0⟩⟩).size = sz at *
  have HE := Lib.hid he
  clear he
  have KA := Lib.hid (fun w => around_any at_ sz w hat.1 hat.2 hs1 (by omega))
  rw [hx] at KA
  clear h y hfan hx hsz
  dsimp only at hn HN
  go_enter Tryz.func17, Tryz.ntmps17
  go_wp2_with fail
  refine KS.out.mono ?_
  rintro e w1 ⟨rfl, hb⟩
  have HB1 := Lib.hid (Y.out.trans (hb.mono Y.out.size))
  have HX1 := Lib.hid (BX.out.below hb BX.out.lt)
  have HR1 := Lib.hid (BR.out.below hb BR.out.lt)
  have hs1' := HB1.out.size
  have hxl := HX1.out.lt
  have hrl := HR1.out.lt
  clear KS hb Y BX BR
  go_wp2_with fail
  refine (KA.out _).mono ?_
  rintro e w2 ⟨rfl, rfl⟩
  clear KA
  have x0 : w1.cell? ⟨W.heap.size, 0, none⟩ = some (.string op) := HX1.out.cell 0
  have g0 := HX1.out.frozen 0
  have r0 : w1.cell? ⟨W.heap.size + 1, 0, none⟩ = some (.string ⟨#[]⟩) := HR1.out.cell 0
  have f0 := HR1.out.frozen 0
  have x1 : w1.cell? ⟨W.heap.size, 1, none⟩ = some (.int .i64 a) := HX1.out.cell 1
  have g1 := HX1.out.frozen 1
  have r1 : w1.cell? ⟨W.heap.size + 1, 1, none⟩ = some (.int .i64 0) := HR1.out.cell 1
  have f1 := HR1.out.frozen 1
  have x2 : w1.cell? ⟨W.heap.size, 2, none⟩ = some (.int .i64 b) := HX1.out.cell 2
  have g2 := HX1.out.frozen 2
  have r2 : w1.cell? ⟨W.heap.size + 1, 2, none⟩ = some (.int .i64 0) := HR1.out.cell 2
  have f2 := HR1.out.frozen 2
  have x3 : w1.cell? ⟨W.heap.size, 3, none⟩ = some (.slice none 0 0) := HX1.out.cell 3
  have g3 := HX1.out.frozen 3
  have r3 : w1.cell? ⟨W.heap.size + 1, 3, none⟩ = some (.slice none 0 0) := HR1.out.cell 3
  have f3 := HR1.out.frozen 3
  go_wp2_with fail
  refine (KD.out _).mono ?_
  rintro e w3 ⟨rfl, rfl⟩
  clear KD
  go_wp2
  have hr2 := HR1.out.setOther (b := W.heap.size) (k := 3) (u := .slice none 0 0) (by omega)
  have hb2 : Below W.heap.size W (w1.setCell ⟨W.heap.size, 3, none⟩ (.slice none 0 0)) := HB1.out.setCell (Nat.le_refl _) _
  have ok2 : MkM.Ok (w1.setCell ⟨W.heap.size, 3, none⟩ (.slice none 0 0)) 35 (fun b => (P b ∨ W.heap.size ≤ b) ∧ b ≠ W.heap.size + 1) ⟨op, a, b, l.take 0, ⟨none, 0, 0⟩⟩ := by
   have h2 := (H.out.bel hb2).mono (Q := fun b => (P b ∨ W.heap.size ≤ b) ∧ b ≠ W.heap.size + 1) fun b _ hb => ⟨.inl hb, by have := HPP.out b hb; omega⟩
   exact .mk _ _ _ _ _ (h2.row.take 0) (by have := HN.out; rw [List.length_take]; show 0 = _; omega) (by show 0 ≤ 100000; omega) h2.hop h2.ha h2.hb fun t ht => h2.each t (List.mem_of_mem_take ht)
  have hL := lay_any (M := ⟨op, a, b, l.take 0, ⟨none, 0, 0⟩⟩) (g := W.heap.size + 1) (by omega) hr2 (ok2) (hb2)
  dsimp only at hL
  generalize (((((w1.setCell ⟨W.heap.size, 3, none⟩ (.slice none 0 0)).setCell ⟨W.heap.size + 1, 0, none⟩ (.string op)).setCell ⟨W.heap.size + 1, 1, none⟩ (.int .i64 a)).setCell ⟨W.heap.size + 1, 2, none⟩ (.int .i64 b)).setCell ⟨W.heap.size + 1, 3, none⟩ (.slice none 0 0)) = X at *
  have xx0 : X.cell? ⟨W.heap.size + 1, 0, none⟩ = some (.string op) := hL.2.2.cell 0
  have xx1 : X.cell? ⟨W.heap.size + 1, 1, none⟩ = some (.int .i64 a) := hL.2.2.cell 1
  have xx2 : X.cell? ⟨W.heap.size + 1, 2, none⟩ = some (.int .i64 b) := hL.2.2.cell 2
  have xx3 : X.cell? ⟨W.heap.size + 1, 3, none⟩ = some (.slice none 0 0) := hL.2.2.cell 3
  refine bodyPost_ret (v := .agg #[.string op, .int .i64 a, .int .i64 b, .slice none 0 0]) (by simp [results, Tryz.results17, go_sem, xx0, xx1, xx2, xx3]) rfl ?_
  exact ⟨⟨op, a, b, l.take 0, ⟨none, 0, 0⟩⟩, rfl, hL.1, (by have h1 := core_size ⟨op, a, b, l.take 0, ⟨none, 0, 0⟩⟩; have h2 := HSZ.out; have h3 := HE.out; dsimp only at h1 h2; have h4 := sizeL_le (l.map MkM.core) 0; rw [← List.map_take] at h4; omega), (.mk _ _ _ _ _ (by have := HF.out.len; rw [List.length_take]; dsimp only at this; omega) (.inl rfl) fun t ht => (HF.out.kid t (List.mem_of_mem_take ht)).mono (Nat.le_succ _)), hL.2.1⟩
 ·dsimp only at hg hcap
  subst hg
  cases n with
  | zero =>
    have hmx0 : max (0 : Int) (-1) = 0 := by decide
    have y : Below W.heap.size W ((W.alloc (.cells #[.string op, .int .i64 a, .int .i64 b, .slice (some ⟨g, 0, none⟩) 0 c] 35)).alloc (.cells #[.string ⟨#[]⟩, .int .i64 0, .int .i64 0, .slice none 0 0] 35)) := ((Below.refl _ _).alloc (Nat.le_refl _) _).alloc (by simp) _
    have KS := Lib.hid (size_any ⟨op, a, b, l, ⟨some ⟨g, 0, none⟩, 0, c⟩⟩ ((W.alloc (.cells #[.string op, .int .i64 a, .int .i64 b, .slice (some ⟨g, 0, none⟩) 0 c] 35)).alloc (.cells #[.string ⟨#[]⟩, .int .i64 0, .int .i64 0, .slice none 0 0] 35)) P (h.bel y) (by omega))
    have Y := Lib.hid y
    have BX := Lib.hid ((Bk.new W 35 [.string op, .int .i64 a, .int .i64 b, .slice (some ⟨g, 0, none⟩) 0 c]).alloc (.cells #[.string ⟨#[]⟩, .int .i64 0, .int .i64 0, .slice none 0 0] 35))
    have BR : Hid (Bk ((W.alloc (.cells #[.string op, .int .i64 a, .int .i64 b, .slice (some ⟨g, 0, none⟩) 0 c] 35)).alloc (.cells #[.string ⟨#[]⟩, .int .i64 0, .int .i64 0, .slice none 0 0] 35)) (W.heap.size + 1) 35 [.string ⟨#[]⟩, .int .i64 0, .int .i64 0, .slice none 0 0]) := by
     have := Bk.new (W.alloc (.cells #[.string op, .int .i64 a, .int .i64 b, .slice (some ⟨g, 0, none⟩) 0 c] 35)) 35 [.string ⟨#[]⟩, .int .i64 0, .int .i64 0, .slice none 0 0]
     rw [World.size_alloc] at this
     exact Lib.hid this
    have H := Lib.hid h
    have HF := Lib.hid hfan
    have hn := h.small
    have HN := Lib.hid h.len
    have HX := Lib.hid hx
    have HS := Lib.hid hsz
    generalize he : (MkM.core ⟨op, a, b, l, ⟨some ⟨g, 0, none⟩, 0, c⟩⟩).size = sz at *
    have HE := Lib.hid he
    clear he
    have KA := Lib.hid (fun w => around_any at_ sz w hat.1 hat.2 hs1 (by omega))
    rw [hx] at KA
    clear h y hfan hx hsz
    dsimp only at hn HN
    go_enter Tryz.func17, Tryz.ntmps17
    go_wp2_with fail
    refine KS.out.mono ?_
    rintro e w1 ⟨rfl, hb⟩
    have HB1 := Lib.hid (Y.out.trans (hb.mono Y.out.size))
    have HX1 := Lib.hid (BX.out.below hb BX.out.lt)
    have HR1 := Lib.hid (BR.out.below hb BR.out.lt)
    have hs1' := HB1.out.size
    have hxl := HX1.out.lt
    have hrl := HR1.out.lt
    clear KS hb Y BX BR
    go_wp2_with fail
    refine (KA.out _).mono ?_
    rintro e w2 ⟨rfl, rfl⟩
    clear KA
    have x0 : w1.cell? ⟨W.heap.size, 0, none⟩ = some (.string op) := HX1.out.cell 0
    have g0 := HX1.out.frozen 0
    have r0 : w1.cell? ⟨W.heap.size + 1, 0, none⟩ = some (.string ⟨#[]⟩) := HR1.out.cell 0
    have f0 := HR1.out.frozen 0
    have x1 : w1.cell? ⟨W.heap.size, 1, none⟩ = some (.int .i64 a) := HX1.out.cell 1
    have g1 := HX1.out.frozen 1
    have r1 : w1.cell? ⟨W.heap.size + 1, 1, none⟩ = some (.int .i64 0) := HR1.out.cell 1
    have f1 := HR1.out.frozen 1
    have x2 : w1.cell? ⟨W.heap.size, 2, none⟩ = some (.int .i64 b) := HX1.out.cell 2
    have g2 := HX1.out.frozen 2
    have r2 : w1.cell? ⟨W.heap.size + 1, 2, none⟩ = some (.int .i64 0) := HR1.out.cell 2
    have f2 := HR1.out.frozen 2
    have x3 : w1.cell? ⟨W.heap.size, 3, none⟩ = some (.slice (some ⟨g, 0, none⟩) 0 c) := HX1.out.cell 3
    have g3 := HX1.out.frozen 3
    have r3 : w1.cell? ⟨W.heap.size + 1, 3, none⟩ = some (.slice none 0 0) := HR1.out.cell 3
    have f3 := HR1.out.frozen 3
    go_wp2_with fail
    refine (KD.out _).mono ?_
    rintro e w3 ⟨rfl, rfl⟩
    clear KD
    go_wp2
    have hr2 := HR1.out.setOther (b := W.heap.size) (k := 3) (u := .slice (some ⟨g, 0, none⟩) 0 c) (by omega)
    have hb2 : Below W.heap.size W (w1.setCell ⟨W.heap.size, 3, none⟩ (.slice (some ⟨g, 0, none⟩) 0 c)) := HB1.out.setCell (Nat.le_refl _) _
    have ok2 : MkM.Ok (w1.setCell ⟨W.heap.size, 3, none⟩ (.slice (some ⟨g, 0, none⟩) 0 c)) 35 (fun b => (P b ∨ W.heap.size ≤ b) ∧ b ≠ W.heap.size + 1) ⟨op, a, b, l.take 0, ⟨(some ⟨g, 0, none⟩), 0, c⟩⟩ := by
     have h2 := (H.out.bel hb2).mono (Q := fun b => (P b ∨ W.heap.size ≤ b) ∧ b ≠ W.heap.size + 1) fun b _ hb => ⟨.inl hb, by have := HPP.out b hb; omega⟩
     exact .mk _ _ _ _ _ (h2.row.take 0) (by have := HN.out; rw [List.length_take]; show 0 = _; omega) (by show 0 ≤ 100000; omega) h2.hop h2.ha h2.hb fun t ht => h2.each t (List.mem_of_mem_take ht)
    have hL := lay_any (M := ⟨op, a, b, l.take 0, ⟨(some ⟨g, 0, none⟩), 0, c⟩⟩) (g := W.heap.size + 1) (by omega) hr2 (ok2) (hb2)
    dsimp only at hL
    generalize (((((w1.setCell ⟨W.heap.size, 3, none⟩ (.slice (some ⟨g, 0, none⟩) 0 c)).setCell ⟨W.heap.size + 1, 0, none⟩ (.string op)).setCell ⟨W.heap.size + 1, 1, none⟩ (.int .i64 a)).setCell ⟨W.heap.size + 1, 2, none⟩ (.int .i64 b)).setCell ⟨W.heap.size + 1, 3, none⟩ (.slice (some ⟨g, 0, none⟩) 0 c)) = X at *
    have xx0 : X.cell? ⟨W.heap.size + 1, 0, none⟩ = some (.string op) := hL.2.2.cell 0
    have xx1 : X.cell? ⟨W.heap.size + 1, 1, none⟩ = some (.int .i64 a) := hL.2.2.cell 1
    have xx2 : X.cell? ⟨W.heap.size + 1, 2, none⟩ = some (.int .i64 b) := hL.2.2.cell 2
    have xx3 : X.cell? ⟨W.heap.size + 1, 3, none⟩ = some (.slice (some ⟨g, 0, none⟩) 0 c) := hL.2.2.cell 3
    refine bodyPost_ret (v := .agg #[.string op, .int .i64 a, .int .i64 b, .slice (some ⟨g, 0, none⟩) 0 c]) (by simp [results, Tryz.results17, go_sem, xx0, xx1, xx2, xx3]) rfl ?_
    exact ⟨⟨op, a, b, l.take 0, ⟨(some ⟨g, 0, none⟩), 0, c⟩⟩, rfl, hL.1, (by have h1 := core_size ⟨op, a, b, l.take 0, ⟨(some ⟨g, 0, none⟩), 0, c⟩⟩; have h2 := HSZ.out; have h3 := HE.out; dsimp only at h1 h2; have h4 := sizeL_le (l.map MkM.core) 0; rw [← List.map_take] at h4; omega), (.mk _ _ _ _ _ (by have := HF.out.len; rw [List.length_take]; dsimp only at this; omega) (.inr ⟨g, rfl, Nat.zero_le _⟩) fun t ht => (HF.out.kid t (List.mem_of_mem_take ht)).mono (Nat.le_succ _)), hL.2.1⟩
  | succ m =>
    have hwm : IntKind.i64.wrap (((m + 1 : Nat) : Int) - 1) = (m : Int) := by have := h.small; dsimp only at this; simp [IntKind.wrap_i64]; omega
    have hmx : max (0 : Int) (m : Int) = (m : Int) := by omega
    have y : Below W.heap.size W ((W.alloc (.cells #[.string op, .int .i64 a, .int .i64 b, .slice (some ⟨g, 0, none⟩) (m + 1) c] 35)).alloc (.cells #[.string ⟨#[]⟩, .int .i64 0, .int .i64 0, .slice none 0 0] 35)) := ((Below.refl _ _).alloc (Nat.le_refl _) _).alloc (by simp) _
    have KS := Lib.hid (size_any ⟨op, a, b, l, ⟨some ⟨g, 0, none⟩, m + 1, c⟩⟩ ((W.alloc (.cells #[.string op, .int .i64 a, .int .i64 b, .slice (some ⟨g, 0, none⟩) (m + 1) c] 35)).alloc (.cells #[.string ⟨#[]⟩, .int .i64 0, .int .i64 0, .slice none 0 0] 35)) P (h.bel y) (by omega))
    have Y := Lib.hid y
    have BX := Lib.hid ((Bk.new W 35 [.string op, .int .i64 a, .int .i64 b, .slice (some ⟨g, 0, none⟩) (m + 1) c]).alloc (.cells #[.string ⟨#[]⟩, .int .i64 0, .int .i64 0, .slice none 0 0] 35))
    have BR : Hid (Bk ((W.alloc (.cells #[.string op, .int .i64 a, .int .i64 b, .slice (some ⟨g, 0, none⟩) (m + 1) c] 35)).alloc (.cells #[.string ⟨#[]⟩, .int .i64 0, .int .i64 0, .slice none 0 0] 35)) (W.heap.size + 1) 35 [.string ⟨#[]⟩, .int .i64 0, .int .i64 0, .slice none 0 0]) := by
     have := Bk.new (W.alloc (.cells #[.string op, .int .i64 a, .int .i64 b, .slice (some ⟨g, 0, none⟩) (m + 1) c] 35)) 35 [.string ⟨#[]⟩, .int .i64 0, .int .i64 0, .slice none 0 0]
     rw [World.size_alloc] at this
     exact Lib.hid this
    have H := Lib.hid h
    have HF := Lib.hid hfan
    have hn := h.small
    have HN := Lib.hid h.len
    have HX := Lib.hid hx
    have HS := Lib.hid hsz
    generalize he : (MkM.core ⟨op, a, b, l, ⟨some ⟨g, 0, none⟩, m + 1, c⟩⟩).size = sz at *
    have HE := Lib.hid he
    clear he
    have KA := Lib.hid (fun w => around_any at_ sz w hat.1 hat.2 hs1 (by omega))
    rw [hx] at KA
    clear h y hfan hx hsz
    dsimp only at hn HN
    go_enter Tryz.func17, Tryz.ntmps17
    go_wp2_with fail
    refine KS.out.mono ?_
    rintro e w1 ⟨rfl, hb⟩
    have HB1 := Lib.hid (Y.out.trans (hb.mono Y.out.size))
    have HX1 := Lib.hid (BX.out.below hb BX.out.lt)
    have HR1 := Lib.hid (BR.out.below hb BR.out.lt)
    have hs1' := HB1.out.size
    have hxl := HX1.out.lt
    have hrl := HR1.out.lt
    clear KS hb Y BX BR
    go_wp2_with fail
    refine (KA.out _).mono ?_
    rintro e w2 ⟨rfl, rfl⟩
    clear KA
    have x0 : w1.cell? ⟨W.heap.size, 0, none⟩ = some (.string op) := HX1.out.cell 0
    have g0 := HX1.out.frozen 0
    have r0 : w1.cell? ⟨W.heap.size + 1, 0, none⟩ = some (.string ⟨#[]⟩) := HR1.out.cell 0
    have f0 := HR1.out.frozen 0
    have x1 : w1.cell? ⟨W.heap.size, 1, none⟩ = some (.int .i64 a) := HX1.out.cell 1
    have g1 := HX1.out.frozen 1
    have r1 : w1.cell? ⟨W.heap.size + 1, 1, none⟩ = some (.int .i64 0) := HR1.out.cell 1
    have f1 := HR1.out.frozen 1
    have x2 : w1.cell? ⟨W.heap.size, 2, none⟩ = some (.int .i64 b) := HX1.out.cell 2
    have g2 := HX1.out.frozen 2
    have r2 : w1.cell? ⟨W.heap.size + 1, 2, none⟩ = some (.int .i64 0) := HR1.out.cell 2
    have f2 := HR1.out.frozen 2
    have x3 : w1.cell? ⟨W.heap.size, 3, none⟩ = some (.slice (some ⟨g, 0, none⟩) (m + 1) c) := HX1.out.cell 3
    have g3 := HX1.out.frozen 3
    have r3 : w1.cell? ⟨W.heap.size + 1, 3, none⟩ = some (.slice none 0 0) := HR1.out.cell 3
    have f3 := HR1.out.frozen 3
    go_wp2_with fail
    refine (KD.out _).mono ?_
    rintro e w3 ⟨rfl, rfl⟩
    clear KD
    go_wp2
    have hr2 := HR1.out.setOther (b := W.heap.size) (k := 3) (u := .slice (some ⟨g, 0, none⟩) m c) (by omega)
    have hb2 : Below W.heap.size W (w1.setCell ⟨W.heap.size, 3, none⟩ (.slice (some ⟨g, 0, none⟩) m c)) := HB1.out.setCell (Nat.le_refl _) _
    have ok2 : MkM.Ok (w1.setCell ⟨W.heap.size, 3, none⟩ (.slice (some ⟨g, 0, none⟩) m c)) 35 (fun b => (P b ∨ W.heap.size ≤ b) ∧ b ≠ W.heap.size + 1) ⟨op, a, b, l.take m, ⟨(some ⟨g, 0, none⟩), m, c⟩⟩ := by
     have h2 := (H.out.bel hb2).mono (Q := fun b => (P b ∨ W.heap.size ≤ b) ∧ b ≠ W.heap.size + 1) fun b _ hb => ⟨.inl hb, by have := HPP.out b hb; omega⟩
     exact .mk _ _ _ _ _ (h2.row.take m) (by have := HN.out; rw [List.length_take]; show m = _; omega) (by show m ≤ 100000; omega) h2.hop h2.ha h2.hb fun t ht => h2.each t (List.mem_of_mem_take ht)
    have hL := lay_any (M := ⟨op, a, b, l.take m, ⟨(some ⟨g, 0, none⟩), m, c⟩⟩) (g := W.heap.size + 1) (by omega) hr2 (ok2) (hb2)
    dsimp only at hL
    generalize (((((w1.setCell ⟨W.heap.size, 3, none⟩ (.slice (some ⟨g, 0, none⟩) m c)).setCell ⟨W.heap.size + 1, 0, none⟩ (.string op)).setCell ⟨W.heap.size + 1, 1, none⟩ (.int .i64 a)).setCell ⟨W.heap.size + 1, 2, none⟩ (.int .i64 b)).setCell ⟨W.heap.size + 1, 3, none⟩ (.slice (some ⟨g, 0, none⟩) m c)) = X at *
    have xx0 : X.cell? ⟨W.heap.size + 1, 0, none⟩ = some (.string op) := hL.2.2.cell 0
    have xx1 : X.cell? ⟨W.heap.size + 1, 1, none⟩ = some (.int .i64 a) := hL.2.2.cell 1
    have xx2 : X.cell? ⟨W.heap.size + 1, 2, none⟩ = some (.int .i64 b) := hL.2.2.cell 2
    have xx3 : X.cell? ⟨W.heap.size + 1, 3, none⟩ = some (.slice (some ⟨g, 0, none⟩) m c) := hL.2.2.cell 3
    refine bodyPost_ret (v := .agg #[.string op, .int .i64 a, .int .i64 b, .slice (some ⟨g, 0, none⟩) m c]) (by simp [results, Tryz.results17, go_sem, xx0, xx1, xx2, xx3]) rfl ?_
    exact ⟨⟨op, a, b, l.take m, ⟨(some ⟨g, 0, none⟩), m, c⟩⟩, rfl, hL.1, (by have h1 := core_size ⟨op, a, b, l.take m, ⟨(some ⟨g, 0, none⟩), m, c⟩⟩; have h2 := HSZ.out; have h3 := HE.out; dsimp only at h1 h2; have h4 := sizeL_le (l.map MkM.core) m; rw [← List.map_take] at h4; omega), (.mk _ _ _ _ _ (by have := HF.out.len; rw [List.length_take]; dsimp only at this; omega) (.inr ⟨g, rfl, by show m ≤ c; omega⟩) fun t ht => (HF.out.kid t (List.mem_of_mem_take ht)).mono (Nat.le_succ _)), hL.2.1⟩
theorem own_empty (w : World) (t : TypeId) (size : Nat) : (w.alloc (.cells #[] t)).ownsRow w.heap.size t size (.slice (some ⟨w.heap.size, 0, none⟩) 0 0) 0 [] :=
 ⟨by simp, .inr ⟨w.heap.size, 0, #[], rfl, Nat.le_refl _, heap_alloc_new w _, Nat.le_refl _, Nat.zero_le _, by simp, by simp⟩⟩
theorem addr_add (b j : Nat) : (⟨b, 0, none⟩ : Addr).add j = ⟨b, j, none⟩ := by
 unfold Addr.add; split
 ·subst_vars; rfl
 ·simp
def actorM : MkM := ⟨⟨#[97, 99, 116, 111, 114]⟩, 1, 0, [], ⟨none, 0, 0⟩⟩
theorem actor_ok (w : World) (P : Nat → Prop) : actorM.Ok w 35 P := .mk _ _ _ _ _ (.inl rfl) rfl (show (0 : Nat) ≤ 100000 by decide) (by decide) ⟨by decide, by decide⟩ ⟨by decide, by decide⟩ (fun _ h => absurd h List.not_mem_nil)
theorem actor_fan (n : Nat) : actorM.Fan n := .mk _ _ _ _ _ (Nat.zero_le _) (.inl rfl) (fun _ h => absurd h List.not_mem_nil)
set_option maxRecDepth 100000 in
set_option maxHeartbeats 2000000 in
theorem bent_4 {W : World} {P : Nat → Prop} {op : ByteArray} {a b : Int} {l : List MkM} {A : Option Addr} {n c : Nat} {at_ which v : Int} {q : Nat} (h : MkM.Ok W 35 P ⟨op, a, b, l, ⟨A, n, c⟩⟩) (hP : ∀ q, P q → q < W.heap.size) (hfan : MkM.Fan q ⟨op, a, b, l, ⟨A, n, c⟩⟩) (hq : 1 ≤ q ∧ q ≤ 1000) (hsz : (MkM.core ⟨op, a, b, l, ⟨A, n, c⟩⟩).size ≤ 1000000) (hat : In64 at_) (hw : In64 which) (hv : In64 v) (hx : around at_ ((MkM.core ⟨op, a, b, l, ⟨A, n, c⟩⟩).size : Nat) = 0) (hd : around which 6 = 4) :
 Calls Tryz.prog 17 #[.agg #[.string op, .int .i64 a, .int .i64 b, .slice A n c], .int .i64 at_, .int .i64 which, .int .i64 v] W (BentM W P q ⟨op, a, b, l, ⟨A, n, c⟩⟩) := by
 have hs1 : (1 : Int) ≤ ((MkM.core ⟨op, a, b, l, ⟨A, n, c⟩⟩).size : Nat) := by have := core_size ⟨op, a, b, l, ⟨A, n, c⟩⟩; omega
 have HSZ := Lib.hid (core_size ⟨op, a, b, l, ⟨A, n, c⟩⟩)
 have HPP := Lib.hid hP
 have KD := Lib.hid (fun w => around_any which 6 w hw.1 hw.2 (by decide) (by decide))
 rw [hd] at KD
 have HV := Lib.hid hv
 have HQ := Lib.hid hq
 clear hP hd hw hv hq
 obtain ⟨i0, hi, hz0, hz1, hz2⟩ := info_parts info35
 rcases hfan.cap with hc | ⟨g, hg, hcap⟩
 ·obtain ⟨rfl, rfl, rfl⟩ : A = none ∧ n = 0 ∧ c = 0 := by simpa using hc
  clear hc
  have y : Below W.heap.size W ((W.alloc (.cells #[.string op, .int .i64 a, .int .i64 b, .slice none 0 0] 35)).alloc (.cells #[.string ⟨#[]⟩, .int .i64 0, .int .i64 0, .slice none 0 0] 35)) := ((Below.refl _ _).alloc (Nat.le_refl _) _).alloc (by simp) _
  have KS := Lib.hid (size_any ⟨op, a, b, l, ⟨none, 0, 0⟩⟩ ((W.alloc (.cells #[.string op, .int .i64 a, .int .i64 b, .slice none 0 0] 35)).alloc (.cells #[.string ⟨#[]⟩, .int .i64 0, .int .i64 0, .slice none 0 0] 35)) P (h.bel y) (by omega))
  have Y := Lib.hid y
  have BX := Lib.hid ((Bk.new W 35 [.string op, .int .i64 a, .int .i64 b, .slice none 0 0]).alloc (.cells #[.string ⟨#[]⟩, .int .i64 0, .int .i64 0, .slice none 0 0] 35))
  have BR : Hid (Bk ((W.alloc (.cells #[.string op, .int .i64 a, .int .i64 b, .slice none 0 0] 35)).alloc (.cells #[.string ⟨#[]⟩, .int .i64 0, .int .i64 0, .slice none 0 0] 35)) (W.heap.size + 1) 35 [.string ⟨#[]⟩, .int .i64 0, .int .i64 0, .slice none 0 0]) := by
   have := Bk.new (W.alloc (.cells #[.string op, .int .i64 a, .int .i64 b, .slice none 0 0] 35)) 35 [.string ⟨#[]⟩, .int .i64 0, .int .i64 0, .slice none 0 0]
   rw [World.size_alloc] at this
   exact Lib.hid this
  have H := Lib.hid h
  have HF := Lib.hid hfan
  have hn := h.small
  have HN := Lib.hid h.len
  have HX := Lib.hid hx
  have HS := Lib.hid hsz
  generalize he : (MkM.core ⟨op, a, b, l, ⟨none, 0, 0⟩⟩).size = sz at *
  have HE := Lib.hid he
  clear he
  have KA := Lib.hid (fun w => around_any at_ sz w hat.1 hat.2 hs1 (by omega))
  rw [hx] at KA
  clear h y hfan hx hsz
  dsimp only at hn HN
  go_enter Tryz.func17, Tryz.ntmps17
  go_wp2_with fail
  refine KS.out.mono ?_
  rintro e w1 ⟨rfl, hb⟩
  have HB1 := Lib.hid (Y.out.trans (hb.mono Y.out.size))
  have HX1 := Lib.hid (BX.out.below hb BX.out.lt)
  have HR1 := Lib.hid (BR.out.below hb BR.out.lt)
  have hs1' := HB1.out.size
  have hxl := HX1.out.lt
  have hrl := HR1.out.lt
  clear KS hb Y BX BR
  go_wp2_with fail
  refine (KA.out _).mono ?_
  rintro e w2 ⟨rfl, rfl⟩
  clear KA
  have x0 : w1.cell? ⟨W.heap.size, 0, none⟩ = some (.string op) := HX1.out.cell 0
  have g0 := HX1.out.frozen 0
  have r0 : w1.cell? ⟨W.heap.size + 1, 0, none⟩ = some (.string ⟨#[]⟩) := HR1.out.cell 0
  have f0 := HR1.out.frozen 0
  have x1 : w1.cell? ⟨W.heap.size, 1, none⟩ = some (.int .i64 a) := HX1.out.cell 1
  have g1 := HX1.out.frozen 1
  have r1 : w1.cell? ⟨W.heap.size + 1, 1, none⟩ = some (.int .i64 0) := HR1.out.cell 1
  have f1 := HR1.out.frozen 1
  have x2 : w1.cell? ⟨W.heap.size, 2, none⟩ = some (.int .i64 b) := HX1.out.cell 2
  have g2 := HX1.out.frozen 2
  have r2 : w1.cell? ⟨W.heap.size + 1, 2, none⟩ = some (.int .i64 0) := HR1.out.cell 2
  have f2 := HR1.out.frozen 2
  have x3 : w1.cell? ⟨W.heap.size, 3, none⟩ = some (.slice none 0 0) := HX1.out.cell 3
  have g3 := HX1.out.frozen 3
  have r3 : w1.cell? ⟨W.heap.size + 1, 3, none⟩ = some (.slice none 0 0) := HR1.out.cell 3
  have f3 := HR1.out.frozen 3
  go_wp2_with fail
  refine (KD.out _).mono ?_
  rintro e w3 ⟨rfl, rfl⟩
  clear KD
  have HX4 := Lib.hid (HX1.out.alloc (.cells #[] 35))
  have HR4 := Lib.hid (HR1.out.alloc (.cells #[] 35))
  have HB14 := Lib.hid ((Below.refl w1.heap.size w1).alloc (Nat.le_refl _) (.cells #[] 35))
  have hl0 : mcells l = [] := by
   have h1 := HN.out
   have h2 : l = [] := List.eq_nil_of_length_eq_zero h1.symm
   rw [h2]; rfl
  have HO4 : Hid ((w1.alloc (.cells #[] 35)).ownsRow w1.heap.size 35 4 (.slice (some ⟨w1.heap.size, 0, none⟩) 0 0) 0 (mcells l)) := by rw [hl0]; exact Lib.hid (own_empty w1 35 4)
  clear hl0
  go_wp2_with (at_builtin; first | (refine wpList_append_own_none rfl _ _ 33 rfl w1.heap.size 35 i0 4 Tryz.underlying33 hi _ 0 [] rfl (own_empty w1 35 4) rfl ?_) | (refine wpList_append_own_at _ rfl _ _ 33 rfl w1.heap.size 35 i0 (.agg #[.string ⟨#[]⟩, .int .i64 0, .int .i64 0, .slice none 0 0]) 4 56 Tryz.underlying33 hi hz0 hz1 hz2 rfl (by decide) _ 0 (mcells l) rfl (HO4.out.alloc _) ⟨w1.heap.size + 1, 0, none⟩ 1 1 [.string ⟨#[97, 99, 116, 111, 114]⟩, .int .i64 1, .int .i64 0, .slice none 0 0] rfl rfl ?d1 (one4m actorM) ?d3 ?d4 ?d5 ?_))
  case d1 => simpa using new4 (w1.alloc (.cells #[] 35)) 35 (.string ⟨#[97, 99, 116, 111, 114]⟩) (.int .i64 1) (.int .i64 0) (.slice none 0 0)
  case d3 => unfold maxLen; omega
  case d4 => omega
  case d5 => have := HB14.out.size; simp; omega
  intro v6 w6 hown6 hgrow6 _ _
  have HX6 := Lib.hid ((HX4.out.alloc (.cells #[.string ⟨#[97, 99, 116, 111, 114]⟩, .int .i64 1, .int .i64 0, .slice none 0 0] 35)).grown hgrow6 (fun e => by have := row_base HO4.out _ e.symm; omega))
  have HR6 := Lib.hid ((HR4.out.alloc (.cells #[.string ⟨#[97, 99, 116, 111, 114]⟩, .int .i64 1, .int .i64 0, .slice none 0 0] 35)).grown hgrow6 (fun e => by have := row_base HO4.out _ e.symm; omega))
  have HB16 := Lib.hid ((HB14.out.alloc HB14.out.size (.cells #[.string ⟨#[97, 99, 116, 111, 114]⟩, .int .i64 1, .int .i64 0, .slice none 0 0] 35)).grown hgrow6 (by simp; have := HB14.out.size; omega) (row_base HO4.out))
  obtain ⟨A6, c6, rfl, hr6⟩ := row_of_owns hown6
  have hcap6 := own_cap (s := ⟨A6, 0 + 1, c6⟩) hown6
  have hrow6 := (PRow.of_own hown6)
  have HB6 := Lib.hid (HB1.out.trans (HB16.out.mono HB1.out.size))
  clear hr6 hgrow6 HO4 HX4 HR4 HB14
  have x0 : w6.cell? ⟨W.heap.size, 0, none⟩ = some (.string op) := HX6.out.cell 0
  have x1 : w6.cell? ⟨W.heap.size, 1, none⟩ = some (.int .i64 a) := HX6.out.cell 1
  have x2 : w6.cell? ⟨W.heap.size, 2, none⟩ = some (.int .i64 b) := HX6.out.cell 2
  have x3 : w6.cell? ⟨W.heap.size, 3, none⟩ = some (.slice none 0 0) := HX6.out.cell 3
  have g3 := HX6.out.frozen 3
  have r0 : w6.cell? ⟨W.heap.size + 1, 0, none⟩ = some (.string ⟨#[]⟩) := HR6.out.cell 0
  have r1 : w6.cell? ⟨W.heap.size + 1, 1, none⟩ = some (.int .i64 0) := HR6.out.cell 1
  have r2 : w6.cell? ⟨W.heap.size + 1, 2, none⟩ = some (.int .i64 0) := HR6.out.cell 2
  have r3 : w6.cell? ⟨W.heap.size + 1, 3, none⟩ = some (.slice none 0 0) := HR6.out.cell 3
  have f0 := HR6.out.frozen 0
  have f1 := HR6.out.frozen 1
  have f2 := HR6.out.frozen 2
  have f3 := HR6.out.frozen 3
  have hxl6 := HX6.out.lt
  have hrl6 := HR6.out.lt
  have HCAP6 := Lib.hid hcap6
  have HROW6 := Lib.hid hrow6
  have HOWN6 := Lib.hid hown6
  clear hcap6 hrow6 hown6
  go_wp2
  have hr2 := HR6.out.setOther (b := W.heap.size) (k := 3) (u := .slice A6 (0 + 1) c6) (by omega)
  have hb2 : Below W.heap.size W (w6.setCell ⟨W.heap.size, 3, none⟩ (.slice A6 (0 + 1) c6)) := HB6.out.setCell (Nat.le_refl _) _
  have ok2 : MkM.Ok (w6.setCell ⟨W.heap.size, 3, none⟩ (.slice A6 (0 + 1) c6)) 35 (fun b => (P b ∨ W.heap.size ≤ b) ∧ b ≠ W.heap.size + 1) ⟨op, a, b, l ++ [actorM], ⟨A6, 0 + 1, c6⟩⟩ := by
   have h2 := (H.out.bel hb2).mono (Q := fun b => (P b ∨ W.heap.size ≤ b) ∧ b ≠ W.heap.size + 1) fun b _ hb => ⟨.inl hb, by have := HPP.out b hb; omega⟩
   have hrw := HROW6.out.grown (grown_setCell w6 W.heap.size 3 (.slice A6 (0 + 1) c6)) (fun b hb => by simp; intro e; have := hb.2; omega)
   refine .mk _ _ _ _ _ ?_ (by have h7 := HN.out; rw [List.length_append]; show _ = l.length + 1; rw [← h7]) (by show 0 + 1 ≤ 100000; have := HF.out.len; have := HQ.out; have := HN.out; dsimp only at *; omega) h2.hop h2.ha h2.hb fun t ht => ?_
   ·rw [mcells_snoc]
    exact hrw.mono fun b _ hb => ⟨.inr (by have := hb.2; omega), by have := hb.2; omega⟩
   ·rcases List.mem_append.1 ht with ht | ht
    ·exact h2.each t ht
    ·rw [List.mem_singleton.1 ht]; exact actor_ok _ _
  have hL := lay_any (M := ⟨op, a, b, l ++ [actorM], ⟨A6, 0 + 1, c6⟩⟩) (g := W.heap.size + 1) (by omega) hr2 (ok2) (hb2)
  dsimp only at hL
  generalize (((((w6.setCell ⟨W.heap.size, 3, none⟩ (.slice A6 (0 + 1) c6)).setCell ⟨W.heap.size + 1, 0, none⟩ (.string op)).setCell ⟨W.heap.size + 1, 1, none⟩ (.int .i64 a)).setCell ⟨W.heap.size + 1, 2, none⟩ (.int .i64 b)).setCell ⟨W.heap.size + 1, 3, none⟩ (.slice A6 (0 + 1) c6)) = X at *
  have xx0 : X.cell? ⟨W.heap.size + 1, 0, none⟩ = some (.string op) := hL.2.2.cell 0
  have xx1 : X.cell? ⟨W.heap.size + 1, 1, none⟩ = some (.int .i64 a) := hL.2.2.cell 1
  have xx2 : X.cell? ⟨W.heap.size + 1, 2, none⟩ = some (.int .i64 b) := hL.2.2.cell 2
  have xx3 : X.cell? ⟨W.heap.size + 1, 3, none⟩ = some (.slice A6 (0 + 1) c6) := hL.2.2.cell 3
  refine bodyPost_ret (v := .agg #[.string op, .int .i64 a, .int .i64 b, .slice A6 (0 + 1) c6]) (by simp [results, Tryz.results17, go_sem, xx0, xx1, xx2, xx3]) rfl ?_
  exact ⟨⟨op, a, b, l ++ [actorM], ⟨A6, 0 + 1, c6⟩⟩, rfl, hL.1, (by have h1 := core_size ⟨op, a, b, l ++ [actorM], ⟨A6, 0 + 1, c6⟩⟩; have h2 := HSZ.out; have h3 := HE.out; dsimp only at h1 h2; rw [List.map_append, List.map_cons, List.map_nil, sizeL_app] at h1; have h4 : actorM.core.size = 1 := rfl; omega), (.mk _ _ _ _ _ (by have := HF.out.len; simp; exact this) HCAP6.out fun t ht => by
   rcases List.mem_append.1 ht with ht | ht
   ·exact (HF.out.kid t ht).mono (Nat.le_succ _)
   ·rw [List.mem_singleton.1 ht]; exact actor_fan _), hL.2.1⟩
 ·dsimp only at hg hcap
  subst hg
  have y : Below W.heap.size W ((W.alloc (.cells #[.string op, .int .i64 a, .int .i64 b, .slice (some ⟨g, 0, none⟩) n c] 35)).alloc (.cells #[.string ⟨#[]⟩, .int .i64 0, .int .i64 0, .slice none 0 0] 35)) := ((Below.refl _ _).alloc (Nat.le_refl _) _).alloc (by simp) _
  have KS := Lib.hid (size_any ⟨op, a, b, l, ⟨some ⟨g, 0, none⟩, n, c⟩⟩ ((W.alloc (.cells #[.string op, .int .i64 a, .int .i64 b, .slice (some ⟨g, 0, none⟩) n c] 35)).alloc (.cells #[.string ⟨#[]⟩, .int .i64 0, .int .i64 0, .slice none 0 0] 35)) P (h.bel y) (by omega))
  have Y := Lib.hid y
  have BX := Lib.hid ((Bk.new W 35 [.string op, .int .i64 a, .int .i64 b, .slice (some ⟨g, 0, none⟩) n c]).alloc (.cells #[.string ⟨#[]⟩, .int .i64 0, .int .i64 0, .slice none 0 0] 35))
  have BR : Hid (Bk ((W.alloc (.cells #[.string op, .int .i64 a, .int .i64 b, .slice (some ⟨g, 0, none⟩) n c] 35)).alloc (.cells #[.string ⟨#[]⟩, .int .i64 0, .int .i64 0, .slice none 0 0] 35)) (W.heap.size + 1) 35 [.string ⟨#[]⟩, .int .i64 0, .int .i64 0, .slice none 0 0]) := by
   have := Bk.new (W.alloc (.cells #[.string op, .int .i64 a, .int .i64 b, .slice (some ⟨g, 0, none⟩) n c] 35)) 35 [.string ⟨#[]⟩, .int .i64 0, .int .i64 0, .slice none 0 0]
   rw [World.size_alloc] at this
   exact Lib.hid this
  have H := Lib.hid h
  have HF := Lib.hid hfan
  have hn := h.small
  have HN := Lib.hid h.len
  have HX := Lib.hid hx
  have HS := Lib.hid hsz
  generalize he : (MkM.core ⟨op, a, b, l, ⟨some ⟨g, 0, none⟩, n, c⟩⟩).size = sz at *
  have HE := Lib.hid he
  clear he
  have KA := Lib.hid (fun w => around_any at_ sz w hat.1 hat.2 hs1 (by omega))
  rw [hx] at KA
  clear h y hfan hx hsz
  dsimp only at hn HN
  go_enter Tryz.func17, Tryz.ntmps17
  go_wp2_with fail
  refine KS.out.mono ?_
  rintro e w1 ⟨rfl, hb⟩
  have HB1 := Lib.hid (Y.out.trans (hb.mono Y.out.size))
  have HX1 := Lib.hid (BX.out.below hb BX.out.lt)
  have HR1 := Lib.hid (BR.out.below hb BR.out.lt)
  have hs1' := HB1.out.size
  have hxl := HX1.out.lt
  have hrl := HR1.out.lt
  clear KS hb Y BX BR
  go_wp2_with fail
  refine (KA.out _).mono ?_
  rintro e w2 ⟨rfl, rfl⟩
  clear KA
  have x0 : w1.cell? ⟨W.heap.size, 0, none⟩ = some (.string op) := HX1.out.cell 0
  have g0 := HX1.out.frozen 0
  have r0 : w1.cell? ⟨W.heap.size + 1, 0, none⟩ = some (.string ⟨#[]⟩) := HR1.out.cell 0
  have f0 := HR1.out.frozen 0
  have x1 : w1.cell? ⟨W.heap.size, 1, none⟩ = some (.int .i64 a) := HX1.out.cell 1
  have g1 := HX1.out.frozen 1
  have r1 : w1.cell? ⟨W.heap.size + 1, 1, none⟩ = some (.int .i64 0) := HR1.out.cell 1
  have f1 := HR1.out.frozen 1
  have x2 : w1.cell? ⟨W.heap.size, 2, none⟩ = some (.int .i64 b) := HX1.out.cell 2
  have g2 := HX1.out.frozen 2
  have r2 : w1.cell? ⟨W.heap.size + 1, 2, none⟩ = some (.int .i64 0) := HR1.out.cell 2
  have f2 := HR1.out.frozen 2
  have x3 : w1.cell? ⟨W.heap.size, 3, none⟩ = some (.slice (some ⟨g, 0, none⟩) n c) := HX1.out.cell 3
  have g3 := HX1.out.frozen 3
  have r3 : w1.cell? ⟨W.heap.size + 1, 3, none⟩ = some (.slice none 0 0) := HR1.out.cell 3
  have f3 := HR1.out.frozen 3
  go_wp2_with fail
  refine (KD.out _).mono ?_
  rintro e w3 ⟨rfl, rfl⟩
  clear KD
  have hrow1 : ∀ j u, (mcells l)[j]? = some u → (w1.alloc (.cells #[] 35)).cell? ((⟨g, 0, none⟩ : Addr).add j) = some u := fun j u hu => by
   have y8 : Below w1.heap.size w1 (w1.alloc (.cells #[] 35)) := (Below.refl _ _).alloc (Nat.le_refl _) _
   rcases (H.out.bel (HB1.out.trans (y8.mono HB1.out.size))).row.trow.row with h0 | ⟨b9, off, hA, hb, hc⟩
   ·dsimp only at h0; rw [h0] at hu; simp at hu
   ·cases hA
    rw [addr_add]
    have := hc j u hu
    rwa [Nat.zero_add] at this
  have HROW1 := Lib.hid hrow1
  have OE := Lib.hid (own_empty w1 35 4)
  clear hrow1
  go_wp2_with (at_builtin; refine wpList_append_own_at _ rfl _ _ 33 rfl w1.heap.size 35 i0 (.agg #[.string ⟨#[]⟩, .int .i64 0, .int .i64 0, .slice none 0 0]) 4 56 Tryz.underlying33 hi hz0 hz1 hz2 rfl (by decide) _ 0 [] rfl OE.out ⟨g, 0, none⟩ n c (mcells l) rfl ?c0 ?c1 (mcells_one l) ?c3 ?c4 ?c5 ?_)
  case c0 => rw [mcells_len, ← HN.out]
  case c1 => exact HROW1.out
  case c3 => unfold maxLen; omega
  case c4 => omega
  case c5 => simp
  intro v4 w4 hown4 hgrow4 _ _
  have HO4 : Hid (w4.ownsRow w1.heap.size 35 4 v4 n (mcells l)) := Lib.hid (by simpa using hown4)
  have HX4 := Lib.hid ((HX1.out.alloc (.cells #[] 35)).grown hgrow4 (fun e => by have := Option.some.inj (show some (W.heap.size) = some w1.heap.size from e); omega))
  have HR4 := Lib.hid ((HR1.out.alloc (.cells #[] 35)).grown hgrow4 (fun e => by have := Option.some.inj (show some (W.heap.size + 1) = some w1.heap.size from e); omega))
  have HB14 := Lib.hid (((Below.refl w1.heap.size w1).alloc (Nat.le_refl _) (.cells #[] 35)).grown hgrow4 (by simp) (fun g hg => by cases hg; exact Nat.le_refl _))
  clear hown4 hgrow4 HROW1 OE
  try rw [Nat.zero_add]
  go_wp2_with (at_builtin; refine wpList_append_own_at _ rfl _ _ 33 rfl w1.heap.size 35 i0 (.agg #[.string ⟨#[]⟩, .int .i64 0, .int .i64 0, .slice none 0 0]) 4 56 Tryz.underlying33 hi hz0 hz1 hz2 rfl (by decide) _ n (mcells l) rfl (HO4.out.alloc _) ⟨w4.heap.size, 0, none⟩ 1 1 [.string ⟨#[97, 99, 116, 111, 114]⟩, .int .i64 1, .int .i64 0, .slice none 0 0] rfl rfl ?d1 (one4m actorM) ?d3 ?d4 ?d5 ?_)
  case d1 => exact new4 w4 35 _ _ _ _
  case d3 => unfold maxLen; omega
  case d4 => omega
  case d5 => have := HB14.out.size; simp; omega
  intro v6 w6 hown6 hgrow6 _ _
  have HX6 := Lib.hid ((HX4.out.alloc (.cells #[.string ⟨#[97, 99, 116, 111, 114]⟩, .int .i64 1, .int .i64 0, .slice none 0 0] 35)).grown hgrow6 (fun e => by have := row_base HO4.out _ e.symm; omega))
  have HR6 := Lib.hid ((HR4.out.alloc (.cells #[.string ⟨#[97, 99, 116, 111, 114]⟩, .int .i64 1, .int .i64 0, .slice none 0 0] 35)).grown hgrow6 (fun e => by have := row_base HO4.out _ e.symm; omega))
  have HB16 := Lib.hid ((HB14.out.alloc HB14.out.size (.cells #[.string ⟨#[97, 99, 116, 111, 114]⟩, .int .i64 1, .int .i64 0, .slice none 0 0] 35)).grown hgrow6 (by simp; have := HB14.out.size; omega) (row_base HO4.out))
  obtain ⟨A6, c6, rfl, hr6⟩ := row_of_owns hown6
  have hcap6 := own_cap (s := ⟨A6, n + 1, c6⟩) hown6
  have hrow6 := (PRow.of_own hown6)
  have HB6 := Lib.hid (HB1.out.trans (HB16.out.mono HB1.out.size))
  clear hr6 hgrow6 HO4 HX4 HR4 HB14
  have x0 : w6.cell? ⟨W.heap.size, 0, none⟩ = some (.string op) := HX6.out.cell 0
  have x1 : w6.cell? ⟨W.heap.size, 1, none⟩ = some (.int .i64 a) := HX6.out.cell 1
  have x2 : w6.cell? ⟨W.heap.size, 2, none⟩ = some (.int .i64 b) := HX6.out.cell 2
  have x3 : w6.cell? ⟨W.heap.size, 3, none⟩ = some (.slice (some ⟨g, 0, none⟩) n c) := HX6.out.cell 3
  have g3 := HX6.out.frozen 3
  have r0 : w6.cell? ⟨W.heap.size + 1, 0, none⟩ = some (.string ⟨#[]⟩) := HR6.out.cell 0
  have r1 : w6.cell? ⟨W.heap.size + 1, 1, none⟩ = some (.int .i64 0) := HR6.out.cell 1
  have r2 : w6.cell? ⟨W.heap.size + 1, 2, none⟩ = some (.int .i64 0) := HR6.out.cell 2
  have r3 : w6.cell? ⟨W.heap.size + 1, 3, none⟩ = some (.slice none 0 0) := HR6.out.cell 3
  have f0 := HR6.out.frozen 0
  have f1 := HR6.out.frozen 1
  have f2 := HR6.out.frozen 2
  have f3 := HR6.out.frozen 3
  have hxl6 := HX6.out.lt
  have hrl6 := HR6.out.lt
  have HCAP6 := Lib.hid hcap6
  have HROW6 := Lib.hid hrow6
  have HOWN6 := Lib.hid hown6
  clear hcap6 hrow6 hown6
  go_wp2
  have hr2 := HR6.out.setOther (b := W.heap.size) (k := 3) (u := .slice A6 (n + 1) c6) (by omega)
  have hb2 : Below W.heap.size W (w6.setCell ⟨W.heap.size, 3, none⟩ (.slice A6 (n + 1) c6)) := HB6.out.setCell (Nat.le_refl _) _
  have ok2 : MkM.Ok (w6.setCell ⟨W.heap.size, 3, none⟩ (.slice A6 (n + 1) c6)) 35 (fun b => (P b ∨ W.heap.size ≤ b) ∧ b ≠ W.heap.size + 1) ⟨op, a, b, l ++ [actorM], ⟨A6, n + 1, c6⟩⟩ := by
   have h2 := (H.out.bel hb2).mono (Q := fun b => (P b ∨ W.heap.size ≤ b) ∧ b ≠ W.heap.size + 1) fun b _ hb => ⟨.inl hb, by have := HPP.out b hb; omega⟩
   have hrw := HROW6.out.grown (grown_setCell w6 W.heap.size 3 (.slice A6 (n + 1) c6)) (fun b hb => by simp; intro e; have := hb.2; omega)
   refine .mk _ _ _ _ _ ?_ (by have h7 := HN.out; rw [List.length_append]; show _ = l.length + 1; rw [← h7]) (by show n + 1 ≤ 100000; have := HF.out.len; have := HQ.out; have := HN.out; dsimp only at *; omega) h2.hop h2.ha h2.hb fun t ht => ?_
   ·rw [mcells_snoc]
    exact hrw.mono fun b _ hb => ⟨.inr (by have := hb.2; omega), by have := hb.2; omega⟩
   ·rcases List.mem_append.1 ht with ht | ht
    ·exact h2.each t ht
    ·rw [List.mem_singleton.1 ht]; exact actor_ok _ _
  have hL := lay_any (M := ⟨op, a, b, l ++ [actorM], ⟨A6, n + 1, c6⟩⟩) (g := W.heap.size + 1) (by omega) hr2 (ok2) (hb2)
  dsimp only at hL
  generalize (((((w6.setCell ⟨W.heap.size, 3, none⟩ (.slice A6 (n + 1) c6)).setCell ⟨W.heap.size + 1, 0, none⟩ (.string op)).setCell ⟨W.heap.size + 1, 1, none⟩ (.int .i64 a)).setCell ⟨W.heap.size + 1, 2, none⟩ (.int .i64 b)).setCell ⟨W.heap.size + 1, 3, none⟩ (.slice A6 (n + 1) c6)) = X at *
  have xx0 : X.cell? ⟨W.heap.size + 1, 0, none⟩ = some (.string op) := hL.2.2.cell 0
  have xx1 : X.cell? ⟨W.heap.size + 1, 1, none⟩ = some (.int .i64 a) := hL.2.2.cell 1
  have xx2 : X.cell? ⟨W.heap.size + 1, 2, none⟩ = some (.int .i64 b) := hL.2.2.cell 2
  have xx3 : X.cell? ⟨W.heap.size + 1, 3, none⟩ = some (.slice A6 (n + 1) c6) := hL.2.2.cell 3
  refine bodyPost_ret (v := .agg #[.string op, .int .i64 a, .int .i64 b, .slice A6 (n + 1) c6]) (by simp [results, Tryz.results17, go_sem, xx0, xx1, xx2, xx3]) rfl ?_
  exact ⟨⟨op, a, b, l ++ [actorM], ⟨A6, n + 1, c6⟩⟩, rfl, hL.1, (by have h1 := core_size ⟨op, a, b, l ++ [actorM], ⟨A6, n + 1, c6⟩⟩; have h2 := HSZ.out; have h3 := HE.out; dsimp only at h1 h2; rw [List.map_append, List.map_cons, List.map_nil, sizeL_app] at h1; have h4 : actorM.core.size = 1 := rfl; omega), (.mk _ _ _ _ _ (by have := HF.out.len; simp; exact this) HCAP6.out fun t ht => by
   rcases List.mem_append.1 ht with ht | ht
   ·exact (HF.out.kid t ht).mono (Nat.le_succ _)
   ·rw [List.mem_singleton.1 ht]; exact actor_fan _), hL.2.1⟩
theorem neg35_ok {w : World} {M : MkM} {P : Nat → Prop} (h : M.Ok w 35 P) (hP : P w.heap.size) : MkM.Ok (w.alloc (.cells #[.string M.op, .int .i64 M.a, .int .i64 M.b, .slice M.s.A M.s.n M.s.c] 35)) 35 P ⟨⟨#[110, 111, 116]⟩, 0, 0, [M], ⟨some ⟨w.heap.size, 0, none⟩, 1, 1⟩⟩ := by
 have y : Below w.heap.size w (w.alloc (.cells #[.string M.op, .int .i64 M.a, .int .i64 M.b, .slice M.s.A M.s.n M.s.c] 35)) := (Below.refl _ _).alloc (Nat.le_refl _) _
 refine .mk _ _ _ _ _ (.inr ⟨w.heap.size, 0, _, _, rfl, hP, heap_alloc_new w _, fun j u hu => by
  rw [Nat.zero_add]
  have e : mcells [M] = [.string M.op, .int .i64 M.a, .int .i64 M.b, .slice M.s.A M.s.n M.s.c] := rfl
  rw [e] at hu
  simpa using hu⟩) rfl (show (1 : Nat) ≤ 100000 by decide) (by decide) ⟨by decide, by decide⟩ ⟨by decide, by decide⟩ fun k hk => ?_
 rw [List.mem_singleton.1 hk]; exact h.bel y
/-- The mark in its box, while it is negated. -/
structure NgAt (W : World) (P : Nat → Prop) (q sz r : Nat) (wr : World) (M : MkM) : Prop where
 bel : Below W.heap.size W wr
 bk : Bk wr W.heap.size 35 [.string M.op, .int .i64 M.a, .int .i64 M.b, .slice M.s.A M.s.n M.s.c]
 res : Bk wr (W.heap.size + 1) 35 [.string ⟨#[]⟩, .int .i64 0, .int .i64 0, .slice none 0 0]
 ok : M.Ok wr 35 (fun b => ((P b ∨ W.heap.size ≤ b) ∧ b ≠ W.heap.size) ∧ b ≠ W.heap.size + 1)
 fan : M.Fan (q + 1)
 size : M.core.size + r ≤ sz + 20
theorem NgAt.step {W : World} {P : Nat → Prop} {q sz r : Nat} {wr : World} {M : MkM} (h : NgAt W P q sz (r + 1) wr M) :
 NgAt W P q sz r (((((wr.alloc (.cells #[.string M.op, .int .i64 M.a, .int .i64 M.b, .slice M.s.A M.s.n M.s.c] 35)).setCell ⟨W.heap.size, 0, none⟩ (.string ⟨#[110, 111, 116]⟩)).setCell ⟨W.heap.size, 1, none⟩ (.int .i64 0)).setCell ⟨W.heap.size, 2, none⟩ (.int .i64 0)).setCell ⟨W.heap.size, 3, none⟩ (.slice (some ⟨wr.heap.size, 0, none⟩) 1 1)) ⟨⟨#[110, 111, 116]⟩, 0, 0, [M], ⟨some ⟨wr.heap.size, 0, none⟩, 1, 1⟩⟩ := by
 have l1 := h.res.lt
 have o := neg35_ok h.ok ⟨⟨.inr (by omega), by omega⟩, by omega⟩
 refine ⟨(h.bel.alloc h.bel.size _).trans (four_below (Nat.le_refl _) _ _ _ _), four_laid (h.bk.alloc _) _ _ _ _, ?_, o.grown (four_self _ _ _ _ _ _) fun b hb => by simp; exact hb.1.2, ?_, ?_⟩
 ·exact (h.res.alloc _).grown (four_self _ _ _ _ _ _) (by simp)
 ·exact .mk _ _ _ _ _ (by simp) (.inr ⟨_, rfl, Nat.le_refl _⟩) fun k hk => by rw [List.mem_singleton.1 hk]; exact h.fan
 ·have h1 := core_size ⟨⟨#[110, 111, 116]⟩, 0, 0, [M], ⟨some ⟨wr.heap.size, 0, none⟩, 1, 1⟩⟩
  have h2 := h.size
  have h3 : Mk.sizeL (([M] : List MkM).map MkM.core) = M.core.size := by simp [Mk.sizeL]
  dsimp only at h1; omega
set_option maxRecDepth 100000 in
set_option maxHeartbeats 2000000 in
theorem bent_5 {W : World} {P : Nat → Prop} {op : ByteArray} {a b : Int} {l : List MkM} {A : Option Addr} {n c : Nat} {at_ which v : Int} {q : Nat} (h : MkM.Ok W 35 P ⟨op, a, b, l, ⟨A, n, c⟩⟩) (hP : ∀ q, P q → q < W.heap.size) (hfan : MkM.Fan q ⟨op, a, b, l, ⟨A, n, c⟩⟩) (hq : 1 ≤ q ∧ q ≤ 1000) (hsz : (MkM.core ⟨op, a, b, l, ⟨A, n, c⟩⟩).size ≤ 1000000) (hat : In64 at_) (hw : In64 which) (hv : In64 v) (hx : around at_ ((MkM.core ⟨op, a, b, l, ⟨A, n, c⟩⟩).size : Nat) = 0) (hd : around which 6 = 5) :
 Calls Tryz.prog 17 #[.agg #[.string op, .int .i64 a, .int .i64 b, .slice A n c], .int .i64 at_, .int .i64 which, .int .i64 v] W (BentM W P q ⟨op, a, b, l, ⟨A, n, c⟩⟩) := by
 have hs1 : (1 : Int) ≤ ((MkM.core ⟨op, a, b, l, ⟨A, n, c⟩⟩).size : Nat) := by have := core_size ⟨op, a, b, l, ⟨A, n, c⟩⟩; omega
 have HSZ := Lib.hid (core_size ⟨op, a, b, l, ⟨A, n, c⟩⟩)
 have HPP := Lib.hid hP
 have KD := Lib.hid (fun w => around_any which 6 w hw.1 hw.2 (by decide) (by decide))
 rw [hd] at KD
 have KV := Lib.hid (fun w => around_any v 20 w hv.1 hv.2 (by decide) (by decide))
 have j0 := around_lo v 20 (by decide)
 have j1 := around_hi v 20 (by decide)
 generalize around v 20 = jj at *
 obtain ⟨j, rfl⟩ := Int.eq_ofNat_of_zero_le j0
 have HQ := Lib.hid hq
 clear hP hd hw hv hq
 have y : Below W.heap.size W ((W.alloc (.cells #[.string op, .int .i64 a, .int .i64 b, .slice A n c] 35)).alloc (.cells #[.string ⟨#[]⟩, .int .i64 0, .int .i64 0, .slice none 0 0] 35)) := ((Below.refl _ _).alloc (Nat.le_refl _) _).alloc (by simp) _
 have KS := Lib.hid (size_any ⟨op, a, b, l, ⟨A, n, c⟩⟩ ((W.alloc (.cells #[.string op, .int .i64 a, .int .i64 b, .slice A n c] 35)).alloc (.cells #[.string ⟨#[]⟩, .int .i64 0, .int .i64 0, .slice none 0 0] 35)) P (h.bel y) (by omega))
 have Y := Lib.hid y
 have BX := Lib.hid ((Bk.new W 35 [.string op, .int .i64 a, .int .i64 b, .slice A n c]).alloc (.cells #[.string ⟨#[]⟩, .int .i64 0, .int .i64 0, .slice none 0 0] 35))
 have BR : Hid (Bk ((W.alloc (.cells #[.string op, .int .i64 a, .int .i64 b, .slice A n c] 35)).alloc (.cells #[.string ⟨#[]⟩, .int .i64 0, .int .i64 0, .slice none 0 0] 35)) (W.heap.size + 1) 35 [.string ⟨#[]⟩, .int .i64 0, .int .i64 0, .slice none 0 0]) := by
  have := Bk.new (W.alloc (.cells #[.string op, .int .i64 a, .int .i64 b, .slice A n c] 35)) 35 [.string ⟨#[]⟩, .int .i64 0, .int .i64 0, .slice none 0 0]
  rw [World.size_alloc] at this
  exact Lib.hid this
 have H := Lib.hid h
 have HF := Lib.hid hfan
 have hn := h.small
 have HN := Lib.hid h.len
 have HX := Lib.hid hx
 have HS := Lib.hid hsz
 generalize he : (MkM.core ⟨op, a, b, l, ⟨A, n, c⟩⟩).size = sz at *
 have HE := Lib.hid he
 clear he
 have KA := Lib.hid (fun w => around_any at_ sz w hat.1 hat.2 hs1 (by omega))
 rw [hx] at KA
 clear h y hfan hx hsz
 dsimp only at hn HN
 go_enter Tryz.func17, Tryz.ntmps17
 go_wp2_with fail
 refine KS.out.mono ?_
 rintro e w1 ⟨rfl, hb⟩
 have HB1 := Lib.hid (Y.out.trans (hb.mono Y.out.size))
 have HX1 := Lib.hid (BX.out.below hb BX.out.lt)
 have HR1 := Lib.hid (BR.out.below hb BR.out.lt)
 have hs1' := HB1.out.size
 have hxl := HX1.out.lt
 have hrl := HR1.out.lt
 clear KS hb Y BX BR
 go_wp2_with fail
 refine (KA.out _).mono ?_
 rintro e w2 ⟨rfl, rfl⟩
 clear KA
 go_wp2_with fail
 refine (KD.out _).mono ?_
 rintro e w3 ⟨rfl, rfl⟩
 clear KD
 go_wp2_with fail
 refine (KV.out _).mono ?_
 rintro e w4 ⟨rfl, rfl⟩
 clear KV
 go_wp2_with fail
 go_loopw [10] (fun i wr => ∃ (r : Nat) (M : MkM), r ≤ 20 ∧ i = .int .i64 r ∧ NgAt W P q sz r wr M) (fun i _ => (intOf i).toNat)
 case atStart =>
  refine ⟨j, ⟨op, a, b, l, ⟨A, n, c⟩⟩, by omega, rfl, HB1.out, HX1.out, HR1.out, ?_, HF.out.mono (Nat.le_succ _), by rw [HE.out]; omega⟩
  exact (H.out.bel HB1.out).mono fun b _ hb => ⟨⟨.inl hb, by have := HPP.out b hb; omega⟩, by have := HPP.out b hb; omega⟩
 case round =>
  obtain ⟨r, M, hr, rfl, hng⟩ := hrel
  have HG := Lib.hid hng
  have hxl2 := hng.bk.lt
  have hrl2 := hng.res.lt
  have x0 : wr.cell? ⟨W.heap.size, 0, none⟩ = some (.string M.op) := hng.bk.cell 0
  have x1 : wr.cell? ⟨W.heap.size, 1, none⟩ = some (.int .i64 M.a) := hng.bk.cell 1
  have x2 : wr.cell? ⟨W.heap.size, 2, none⟩ = some (.int .i64 M.b) := hng.bk.cell 2
  have x3 : wr.cell? ⟨W.heap.size, 3, none⟩ = some (.slice M.s.A M.s.n M.s.c) := hng.bk.cell 3
  have g0 := hng.bk.frozen 0
  have g1 := hng.bk.frozen 1
  have g2 := hng.bk.frozen 2
  have g3 := hng.bk.frozen 3
  have r0 : wr.cell? ⟨W.heap.size + 1, 0, none⟩ = some (.string ⟨#[]⟩) := hng.res.cell 0
  have r1 : wr.cell? ⟨W.heap.size + 1, 1, none⟩ = some (.int .i64 0) := hng.res.cell 1
  have r2 : wr.cell? ⟨W.heap.size + 1, 2, none⟩ = some (.int .i64 0) := hng.res.cell 2
  have r3 : wr.cell? ⟨W.heap.size + 1, 3, none⟩ = some (.slice none 0 0) := hng.res.cell 3
  have f0 := hng.res.frozen 0
  have f1 := hng.res.frozen 1
  have f2 := hng.res.frozen 2
  have f3 := hng.res.frozen 3
  clear hng
  cases r with
  | zero =>
    go_wp2
    have hG := HG.out
    have hL := lay_any (M := M) (g := W.heap.size + 1) (by omega) hG.res (hG.ok.mono fun b _ hb => ⟨hb.1.1, hb.2⟩) (hG.bel)
    try dsimp only at hL
    generalize ((((wr.setCell ⟨W.heap.size + 1, 0, none⟩ (.string M.op)).setCell ⟨W.heap.size + 1, 1, none⟩ (.int .i64 M.a)).setCell ⟨W.heap.size + 1, 2, none⟩ (.int .i64 M.b)).setCell ⟨W.heap.size + 1, 3, none⟩ (.slice M.s.A M.s.n M.s.c)) = X at *
    have xx0 : X.cell? ⟨W.heap.size + 1, 0, none⟩ = some (.string M.op) := hL.2.2.cell 0
    have xx1 : X.cell? ⟨W.heap.size + 1, 1, none⟩ = some (.int .i64 M.a) := hL.2.2.cell 1
    have xx2 : X.cell? ⟨W.heap.size + 1, 2, none⟩ = some (.int .i64 M.b) := hL.2.2.cell 2
    have xx3 : X.cell? ⟨W.heap.size + 1, 3, none⟩ = some (.slice M.s.A M.s.n M.s.c) := hL.2.2.cell 3
    refine bodyPost_ret (v := .agg #[.string M.op, .int .i64 M.a, .int .i64 M.b, .slice M.s.A M.s.n M.s.c]) (by simp [results, Tryz.results17, go_sem, xx0, xx1, xx2, xx3]) rfl ?_
    exact ⟨M, rfl, hL.1, (by have := hG.size; have h2 := HSZ.out; have h3 := HE.out; omega), hG.fan, hL.2.1⟩
  | succ r =>
    have hwr : IntKind.i64.wrap (((r + 1 : Nat) : Int) - 1) = (r : Int) := by simp [IntKind.wrap_i64]; omega
    have hS := HG.out.step
    rw [alloc_four wr _ HG.out.bk.lt] at hS
    have HS1 := Lib.hid hS
    clear HG hS
    go_wp2
    go_roundw
    case rel => exact ⟨r, _, by omega, by go_num, HS1.out⟩
    case measure => simp [intOf]
end Go.Proofs.YtocodlpgaamblaaGreatDoor
