/- The reference's Matches, Steps. The reference's Matches on any mark. The parser joins facts. The parser reads a mark. The parser reads a fact; Parse's reading whole. -/
import Derived.Test.YtocodlpgaamblaaGreatDoorM6
import Derived.Test.YtocodlpgaamblaaGreatDoorM7
set_option linter.unusedVariables false
set_option linter.unusedSimpArgs false
open Go.RowKit
namespace Go.Proofs.YtocodlpgaamblaaGreatDoor
theorem any_take_succ {α : Type} (l : List α) (f : α → Bool) (k : Nat) (h : k < l.length) (h1 : (l.take k).any f = false) (h2 : f l[k] = false) : (l.take (k + 1)).any f = false := by
 rw [List.take_succ_eq_append_getElem h, List.any_append, h1]; simp [h2]
/-- What a move says of a condition. -/
def mvB (op : ByteArray) (a b : Int) (v : MvM) : Bool := if op = sItem then v.item == a else if op = sMore then v.item == b && decide (a < v.n) else if op = sAccount then v.from_ == a || v.to_ == a else false
theorem In64.le {x : Int} (h : In64 x) : -9223372036854775808 ≤ x ∧ x ≤ 9223372036854775807 := h
set_option maxRecDepth 100000 in
set_option maxHeartbeats 2000000 in
theorem moved_any (s : StepM) (op : ByteArray) (a b : Int) (A : Option Addr) (n c : Nat) (w : World) (hs : s.Ok w) :
 Calls Tryz.prog 61 #[.agg #[.string op, .int .i64 a, .int .i64 b, .slice A n c], .agg #[.int .i64 s.id, .int .i64 s.kind, .int .i64 s.actor, .int .i64 s.tick, .int .i64 s.rule, .int .i64 s.times, .slice s.sm.A s.sm.n s.sm.c]] w fun e w' => e = .returned (.bool (s.moves.any (mvB op a b))) ∧ Below w.heap.size w w' := by
 have y : Below w.heap.size w ((w.alloc (.cells #[.string op, .int .i64 a, .int .i64 b, .slice A n c] 35)).alloc (.cells #[.int .i64 s.id, .int .i64 s.kind, .int .i64 s.actor, .int .i64 s.tick, .int .i64 s.rule, .int .i64 s.times, .slice s.sm.A s.sm.n s.sm.c] 59)) := ((Below.refl _ _).alloc (Nat.le_refl _) _).alloc (by simp) _
 have Y := Lib.hid y
 have B35 := Lib.hid ((Bk.new w 35 [.string op, .int .i64 a, .int .i64 b, .slice A n c]).alloc (.cells #[.int .i64 s.id, .int .i64 s.kind, .int .i64 s.actor, .int .i64 s.tick, .int .i64 s.rule, .int .i64 s.times, .slice s.sm.A s.sm.n s.sm.c] 59))
 have B59 : Hid (Bk ((w.alloc (.cells #[.string op, .int .i64 a, .int .i64 b, .slice A n c] 35)).alloc (.cells #[.int .i64 s.id, .int .i64 s.kind, .int .i64 s.actor, .int .i64 s.tick, .int .i64 s.rule, .int .i64 s.times, .slice s.sm.A s.sm.n s.sm.c] 59)) (w.heap.size + 1) 59 s.cells) := by
  have := Bk.new (w.alloc (.cells #[.string op, .int .i64 a, .int .i64 b, .slice A n c] 35)) 59 s.cells
  rw [World.size_alloc] at this
  exact Lib.hid this
 have Hm := Lib.hid hs.moves
 have q1 : (op.toList == [105, 116, 101, 109]) = decide (op = sItem) := by rw [← (show sItem.toList = [105, 116, 101, 109] by decide +kernel)]; exact eqL _ _
 have q2 : (op.toList == [109, 111, 114, 101]) = decide (op = sMore) := by rw [← (show sMore.toList = [109, 111, 114, 101] by decide +kernel)]; exact eqL _ _
 have q3 : (op.toList == [97, 99, 99, 111, 117, 110, 116]) = decide (op = sAccount) := by rw [← (show sAccount.toList = [97, 99, 99, 111, 117, 110, 116] by decide +kernel)]; exact eqL _ _
 clear y hs
 by_cases e1 : op = sItem
 ·rw [decide_eq_true e1] at q1
  rw [decide_eq_false (by rw [e1]; decide)] at q2 q3
  have HE := Lib.hid e1
  clear e1
  have hs2 := Hm.out.small
  have Hsl := Lib.hid Hm.out.len
  go_enter Tryz.func61, Tryz.ntmps61
  go_wp2_with fail
  go_loopw [5] (fun i wr => ∃ k : Nat, k ≤ s.sm.n ∧ i = .int .i64 k ∧ (s.moves.take k).any (mvB op a b) = false ∧ Below w.heap.size w wr ∧ Bk wr w.heap.size 35 [.string op, .int .i64 a, .int .i64 b, .slice A n c] ∧ Bk wr (w.heap.size + 1) 59 s.cells) (fun i _ => s.sm.n - (intOf i).toNat)
  case atStart => exact ⟨0, Nat.zero_le _, rfl, by simp, Y.out, B35.out, B59.out⟩
  case round =>
   obtain ⟨k, hk, rfl, hno, hb, hx, hz⟩ := hrel
   have HB := Lib.hid hb
   have HX := Lib.hid hx
   have HZ := Lib.hid hz
   have hsz := hb.size
   have hxl := hx.lt
   have hzl := hz.lt
   have x0 : wr.cell? ⟨w.heap.size, 0, none⟩ = some (.string op) := hx.cell 0
   have x1 : wr.cell? ⟨w.heap.size, 1, none⟩ = some (.int .i64 a) := hx.cell 1
   have x2 : wr.cell? ⟨w.heap.size, 2, none⟩ = some (.int .i64 b) := hx.cell 2
   have z6 : wr.cell? ⟨w.heap.size + 1, 6, none⟩ = some (.slice s.sm.A s.sm.n s.sm.c) := hz.cell 6
   have HNO := Lib.hid hno
   clear hno
   by_cases hlt : k < s.sm.n
   ·have hkl : k < s.moves.length := by have := Hsl.out; omega
    obtain ⟨bb, off, hA, hbb, c0, c1, c2, c3, c4⟩ := (Hm.out.below hb).at_ k hkl
    have HF : Hid (mvB op a b s.moves[k] = false → (s.moves.take (k + 1)).any (mvB op a b) = false) := Lib.hid fun h => any_take_succ _ _ k hkl HNO.out h
    have HG : Hid (mvB op a b s.moves[k] = true → s.moves.any (mvB op a b) = true) := Lib.hid fun h => List.any_eq_true.2 ⟨_, List.getElem_mem hkl, h⟩
    generalize s.moves[k] = v at *
    rw [hA] at z6
    have yv : Below wr.heap.size wr (wr.alloc (.cells #[.int .i64 v.from_, .int .i64 v.to_, .int .i64 v.item, .int .i64 v.n, .slice v.sp.A v.sp.n v.sp.c] 125)) := (Below.refl _ _).alloc (Nat.le_refl _) _
    have HBv := Lib.hid (HB.out.trans (yv.mono HB.out.size))
    have HXv := Lib.hid (HX.out.below yv HX.out.lt)
    have HZv := Lib.hid (HZ.out.below yv HZ.out.lt)
    clear hb hx hz yv hkl
    have hk0 : (k : Int) < (s.sm.n : Int) := by omega
    cases g1 : (v.item == a)
    ·have g1' : (v.item == a) = false := g1
     have HV := Lib.hid (HF.out (by unfold mvB; rw [if_pos HE.out]; exact g1))
     clear HG HF
     go_wp2
     go_roundw
     case rel => exact ⟨k + 1, by omega, by go_num, HV.out, HBv.out, HXv.out, HZv.out⟩
     case measure => simp [intOf]; omega
    ·have g1' : (v.item == a) = true := g1
     have HV := Lib.hid (HG.out (by unfold mvB; rw [if_pos HE.out]; exact g1))
     clear HG HF
     go_wp2
     go_ret
     exact ⟨by rw [HV.out]; rfl, HBv.out⟩
   ·obtain rfl : k = s.sm.n := by omega
    have HV : Hid (s.moves.any (mvB op a b) = false) := by
     have h := HNO.out
     rw [List.take_of_length_le (by have := Hsl.out; omega)] at h
     exact Lib.hid h
    clear hb hx hz
    go_wp2
    go_ret
    exact ⟨by rw [HV.out]; rfl, HB.out⟩
 rw [decide_eq_false e1] at q1
 have HE1 := Lib.hid e1
 by_cases e2 : op = sMore
 ·rw [decide_eq_true e2] at q2
  rw [decide_eq_false (by rw [e2]; decide)] at q3
  have HE := Lib.hid e2
  clear e2 e1
  have hs2 := Hm.out.small
  have Hsl := Lib.hid Hm.out.len
  go_enter Tryz.func61, Tryz.ntmps61
  go_wp2_with fail
  go_loopw [5] (fun i wr => ∃ k : Nat, k ≤ s.sm.n ∧ i = .int .i64 k ∧ (s.moves.take k).any (mvB op a b) = false ∧ Below w.heap.size w wr ∧ Bk wr w.heap.size 35 [.string op, .int .i64 a, .int .i64 b, .slice A n c] ∧ Bk wr (w.heap.size + 1) 59 s.cells) (fun i _ => s.sm.n - (intOf i).toNat)
  case atStart => exact ⟨0, Nat.zero_le _, rfl, by simp, Y.out, B35.out, B59.out⟩
  case round =>
   obtain ⟨k, hk, rfl, hno, hb, hx, hz⟩ := hrel
   have HB := Lib.hid hb
   have HX := Lib.hid hx
   have HZ := Lib.hid hz
   have hsz := hb.size
   have hxl := hx.lt
   have hzl := hz.lt
   have x0 : wr.cell? ⟨w.heap.size, 0, none⟩ = some (.string op) := hx.cell 0
   have x1 : wr.cell? ⟨w.heap.size, 1, none⟩ = some (.int .i64 a) := hx.cell 1
   have x2 : wr.cell? ⟨w.heap.size, 2, none⟩ = some (.int .i64 b) := hx.cell 2
   have z6 : wr.cell? ⟨w.heap.size + 1, 6, none⟩ = some (.slice s.sm.A s.sm.n s.sm.c) := hz.cell 6
   have HNO := Lib.hid hno
   clear hno
   by_cases hlt : k < s.sm.n
   ·have hkl : k < s.moves.length := by have := Hsl.out; omega
    obtain ⟨bb, off, hA, hbb, c0, c1, c2, c3, c4⟩ := (Hm.out.below hb).at_ k hkl
    have HF : Hid (mvB op a b s.moves[k] = false → (s.moves.take (k + 1)).any (mvB op a b) = false) := Lib.hid fun h => any_take_succ _ _ k hkl HNO.out h
    have HG : Hid (mvB op a b s.moves[k] = true → s.moves.any (mvB op a b) = true) := Lib.hid fun h => List.any_eq_true.2 ⟨_, List.getElem_mem hkl, h⟩
    generalize s.moves[k] = v at *
    rw [hA] at z6
    have yv : Below wr.heap.size wr (wr.alloc (.cells #[.int .i64 v.from_, .int .i64 v.to_, .int .i64 v.item, .int .i64 v.n, .slice v.sp.A v.sp.n v.sp.c] 125)) := (Below.refl _ _).alloc (Nat.le_refl _) _
    have HBv := Lib.hid (HB.out.trans (yv.mono HB.out.size))
    have HXv := Lib.hid (HX.out.below yv HX.out.lt)
    have HZv := Lib.hid (HZ.out.below yv HZ.out.lt)
    clear hb hx hz yv hkl
    have hk0 : (k : Int) < (s.sm.n : Int) := by omega
    cases g1 : (v.item == b)
    ·have g1' : (v.item == b) = false := g1
     have HV := Lib.hid (HF.out (by unfold mvB; rw [if_neg HE1.out, if_pos HE.out]; simp [g1]))
     clear HG HF
     go_wp2
     go_roundw
     case rel => exact ⟨k + 1, by omega, by go_num, HV.out, HBv.out, HXv.out, HZv.out⟩
     case measure => simp [intOf]; omega
    ·have g1' : (v.item == b) = true := g1
     cases g2 : decide (a < v.n)
     ·have g2' : decide (a < v.n) = false := g2
      have HV := Lib.hid (HF.out (by unfold mvB; rw [if_neg HE1.out, if_pos HE.out]; simp only [g1, g2]; rfl))
      clear HG HF
      go_wp2
      go_roundw
      case rel => exact ⟨k + 1, by omega, by go_num, HV.out, HBv.out, HXv.out, HZv.out⟩
      case measure => simp [intOf]; omega
     ·have g2' : decide (a < v.n) = true := g2
      have HV := Lib.hid (HG.out (by unfold mvB; rw [if_neg HE1.out, if_pos HE.out]; simp only [g1, g2]; rfl))
      clear HG HF
      go_wp2
      go_ret
      exact ⟨by rw [HV.out]; rfl, HBv.out⟩
   ·obtain rfl : k = s.sm.n := by omega
    have HV : Hid (s.moves.any (mvB op a b) = false) := by
     have h := HNO.out
     rw [List.take_of_length_le (by have := Hsl.out; omega)] at h
     exact Lib.hid h
    clear hb hx hz
    go_wp2
    go_ret
    exact ⟨by rw [HV.out]; rfl, HB.out⟩
 rw [decide_eq_false e2] at q2
 have HE2 := Lib.hid e2
 by_cases e3 : op = sAccount
 ·rw [decide_eq_true e3] at q3
  have HE := Lib.hid e3
  clear e3 e2 e1
  have hs2 := Hm.out.small
  have Hsl := Lib.hid Hm.out.len
  go_enter Tryz.func61, Tryz.ntmps61
  go_wp2_with fail
  go_loopw [5] (fun i wr => ∃ k : Nat, k ≤ s.sm.n ∧ i = .int .i64 k ∧ (s.moves.take k).any (mvB op a b) = false ∧ Below w.heap.size w wr ∧ Bk wr w.heap.size 35 [.string op, .int .i64 a, .int .i64 b, .slice A n c] ∧ Bk wr (w.heap.size + 1) 59 s.cells) (fun i _ => s.sm.n - (intOf i).toNat)
  case atStart => exact ⟨0, Nat.zero_le _, rfl, by simp, Y.out, B35.out, B59.out⟩
  case round =>
   obtain ⟨k, hk, rfl, hno, hb, hx, hz⟩ := hrel
   have HB := Lib.hid hb
   have HX := Lib.hid hx
   have HZ := Lib.hid hz
   have hsz := hb.size
   have hxl := hx.lt
   have hzl := hz.lt
   have x0 : wr.cell? ⟨w.heap.size, 0, none⟩ = some (.string op) := hx.cell 0
   have x1 : wr.cell? ⟨w.heap.size, 1, none⟩ = some (.int .i64 a) := hx.cell 1
   have x2 : wr.cell? ⟨w.heap.size, 2, none⟩ = some (.int .i64 b) := hx.cell 2
   have z6 : wr.cell? ⟨w.heap.size + 1, 6, none⟩ = some (.slice s.sm.A s.sm.n s.sm.c) := hz.cell 6
   have HNO := Lib.hid hno
   clear hno
   by_cases hlt : k < s.sm.n
   ·have hkl : k < s.moves.length := by have := Hsl.out; omega
    obtain ⟨bb, off, hA, hbb, c0, c1, c2, c3, c4⟩ := (Hm.out.below hb).at_ k hkl
    have HF : Hid (mvB op a b s.moves[k] = false → (s.moves.take (k + 1)).any (mvB op a b) = false) := Lib.hid fun h => any_take_succ _ _ k hkl HNO.out h
    have HG : Hid (mvB op a b s.moves[k] = true → s.moves.any (mvB op a b) = true) := Lib.hid fun h => List.any_eq_true.2 ⟨_, List.getElem_mem hkl, h⟩
    generalize s.moves[k] = v at *
    rw [hA] at z6
    have yv : Below wr.heap.size wr (wr.alloc (.cells #[.int .i64 v.from_, .int .i64 v.to_, .int .i64 v.item, .int .i64 v.n, .slice v.sp.A v.sp.n v.sp.c] 125)) := (Below.refl _ _).alloc (Nat.le_refl _) _
    have HBv := Lib.hid (HB.out.trans (yv.mono HB.out.size))
    have HXv := Lib.hid (HX.out.below yv HX.out.lt)
    have HZv := Lib.hid (HZ.out.below yv HZ.out.lt)
    clear hb hx hz yv hkl
    have hk0 : (k : Int) < (s.sm.n : Int) := by omega
    cases g1 : (v.from_ == a)
    ·have g1' : (v.from_ == a) = false := g1
     cases g2 : (v.to_ == a)
     ·have g2' : (v.to_ == a) = false := g2
      have HV := Lib.hid (HF.out (by unfold mvB; rw [if_neg HE1.out, if_neg HE2.out, if_pos HE.out]; simp only [g1, g2]; rfl))
      clear HG HF
      go_wp2
      go_roundw
      case rel => exact ⟨k + 1, by omega, by go_num, HV.out, HBv.out, HXv.out, HZv.out⟩
      case measure => simp [intOf]; omega
     ·have g2' : (v.to_ == a) = true := g2
      have HV := Lib.hid (HG.out (by unfold mvB; rw [if_neg HE1.out, if_neg HE2.out, if_pos HE.out]; simp only [g1, g2]; rfl))
      clear HG HF
      go_wp2
      go_ret
      exact ⟨by rw [HV.out]; rfl, HBv.out⟩
    ·have g1' : (v.from_ == a) = true := g1
     have HV := Lib.hid (HG.out (by unfold mvB; rw [if_neg HE1.out, if_neg HE2.out, if_pos HE.out]; simp only [g1]; rfl))
     clear HG HF
     go_wp2
     go_ret
     exact ⟨by rw [HV.out]; rfl, HBv.out⟩
   ·obtain rfl : k = s.sm.n := by omega
    have HV : Hid (s.moves.any (mvB op a b) = false) := by
     have h := HNO.out
     rw [List.take_of_length_le (by have := Hsl.out; omega)] at h
     exact Lib.hid h
    clear hb hx hz
    go_wp2
    go_ret
    exact ⟨by rw [HV.out]; rfl, HB.out⟩
 rw [decide_eq_false e3] at q3
 have HE3 := Lib.hid e3
 clear e1 e2 e3
 have hs2 := Hm.out.small
 have Hsl := Lib.hid Hm.out.len
 go_enter Tryz.func61, Tryz.ntmps61
 go_wp2_with fail
 go_loopw [5] (fun i wr => ∃ k : Nat, k ≤ s.sm.n ∧ i = .int .i64 k ∧ (s.moves.take k).any (mvB op a b) = false ∧ Below w.heap.size w wr ∧ Bk wr w.heap.size 35 [.string op, .int .i64 a, .int .i64 b, .slice A n c] ∧ Bk wr (w.heap.size + 1) 59 s.cells) (fun i _ => s.sm.n - (intOf i).toNat)
 case atStart => exact ⟨0, Nat.zero_le _, rfl, by simp, Y.out, B35.out, B59.out⟩
 case round =>
  obtain ⟨k, hk, rfl, hno, hb, hx, hz⟩ := hrel
  have HB := Lib.hid hb
  have HX := Lib.hid hx
  have HZ := Lib.hid hz
  have hsz := hb.size
  have hxl := hx.lt
  have hzl := hz.lt
  have x0 : wr.cell? ⟨w.heap.size, 0, none⟩ = some (.string op) := hx.cell 0
  have x1 : wr.cell? ⟨w.heap.size, 1, none⟩ = some (.int .i64 a) := hx.cell 1
  have x2 : wr.cell? ⟨w.heap.size, 2, none⟩ = some (.int .i64 b) := hx.cell 2
  have z6 : wr.cell? ⟨w.heap.size + 1, 6, none⟩ = some (.slice s.sm.A s.sm.n s.sm.c) := hz.cell 6
  have HNO := Lib.hid hno
  clear hno
  by_cases hlt : k < s.sm.n
  ·have hkl : k < s.moves.length := by have := Hsl.out; omega
   obtain ⟨bb, off, hA, hbb, c0, c1, c2, c3, c4⟩ := (Hm.out.below hb).at_ k hkl
   have HF : Hid (mvB op a b s.moves[k] = false → (s.moves.take (k + 1)).any (mvB op a b) = false) := Lib.hid fun h => any_take_succ _ _ k hkl HNO.out h
   have HG : Hid (mvB op a b s.moves[k] = true → s.moves.any (mvB op a b) = true) := Lib.hid fun h => List.any_eq_true.2 ⟨_, List.getElem_mem hkl, h⟩
   generalize s.moves[k] = v at *
   rw [hA] at z6
   have yv : Below wr.heap.size wr (wr.alloc (.cells #[.int .i64 v.from_, .int .i64 v.to_, .int .i64 v.item, .int .i64 v.n, .slice v.sp.A v.sp.n v.sp.c] 125)) := (Below.refl _ _).alloc (Nat.le_refl _) _
   have HBv := Lib.hid (HB.out.trans (yv.mono HB.out.size))
   have HXv := Lib.hid (HX.out.below yv HX.out.lt)
   have HZv := Lib.hid (HZ.out.below yv HZ.out.lt)
   clear hb hx hz yv hkl
   have hk0 : (k : Int) < (s.sm.n : Int) := by omega
   have HV := Lib.hid (HF.out (by unfold mvB; rw [if_neg HE1.out, if_neg HE2.out, if_neg HE3.out]))
   clear HG HF
   go_wp2
   go_roundw
   case rel => exact ⟨k + 1, by omega, by go_num, HV.out, HBv.out, HXv.out, HZv.out⟩
   case measure => simp [intOf]; omega
  ·obtain rfl : k = s.sm.n := by omega
   have HV : Hid (s.moves.any (mvB op a b) = false) := by
    have h := HNO.out
    rw [List.take_of_length_le (by have := Hsl.out; omega)] at h
    exact Lib.hid h
   clear hb hx hz
   go_wp2
   go_ret
   exact ⟨by rw [HV.out]; rfl, HB.out⟩
theorem cnt_all {α : Type} (l : List α) (p : α → Bool) : (!l.any (fun t => !p t)) = decide (l.countP p = l.length) := by
 induction l with
 | nil => rfl
 | cons x xs ih =>
   have hle := List.countP_le_length (p := p) (l := xs)
   cases hp : p x
   ·simp [List.countP_cons, hp]; omega
   ·have ih' := ih
    simp only [List.any_cons, hp, Bool.not_true, Bool.false_or, ih', List.countP_cons, if_true, List.length_cons]
    congr 1; simp
theorem cnt_any {α : Type} (l : List α) (p : α → Bool) : l.any p = decide (0 < l.countP p) := by
 rw [Bool.eq_iff_iff]; simp [List.countP_pos_iff]
theorem cnt_none {α : Type} (l : List α) (p : α → Bool) : (!l.any p) = decide (l.countP p = 0) := by
 rw [Bool.eq_iff_iff]; simp [List.countP_eq_zero]
theorem cnt_succ {α : Type} (l : List α) (p : α → Bool) (k : Nat) (h : k < l.length) : (l.take (k + 1)).countP p = (l.take k).countP p + if p l[k] then 1 else 0 := by
 rw [List.take_succ_eq_append_getElem h, List.countP_append]; simp [List.countP_cons]
def RMatchS (s : StepM) (M : MkM) : Prop := ∀ (w : World) (P : Nat → Prop), M.Ok w 35 P → s.Ok w → Calls Tryz.prog 27 #[.agg #[.string M.op, .int .i64 M.a, .int .i64 M.b, .slice M.s.A M.s.n M.s.c], .agg #[.int .i64 s.id, .int .i64 s.kind, .int .i64 s.actor, .int .i64 s.tick, .int .i64 s.rule, .int .i64 s.times, .slice s.sm.A s.sm.n s.sm.c]] w fun e w' => e = .returned (.bool (M.core.val (condV s))) ∧ Below w.heap.size w w'
theorem condV_moved {s : StepM} {op : ByteArray} {a b : Int} (h1 : op ≠ sKind) (h2 : op ≠ sActor) (h3 : op ≠ sRule) (h4 : op ≠ sTick) (h5 : op ≠ sStep) : condV s op a b = s.moves.any (mvB op a b) := by
 by_cases e1 : op = sItem
 ·rw [e1, condV_sItem]; congr 1
 by_cases e2 : op = sMore
 ·rw [e2, condV_sMore]; congr 1
 by_cases e3 : op = sAccount
 ·rw [e3, condV_sAccount]; congr 1
 have : mvB op a b = fun _ => false := by funext v; unfold mvB; rw [if_neg e1, if_neg e2, if_neg e3]
 rw [this]
 unfold condV
 rw [if_neg h1, if_neg h2, if_neg h3, if_neg h4, if_neg e1, if_neg e2, if_neg h5, if_neg e3]
 simp
set_option maxRecDepth 100000 in
set_option maxHeartbeats 4000000 in
theorem rmatches_any (s : StepM) : ∀ M : MkM, RMatchS s M := by
 intro M
 induction M using MkM.ind with
 | h M ih =>
   intro w P h hs
   have y : Below w.heap.size w ((w.alloc (.cells #[.string M.op, .int .i64 M.a, .int .i64 M.b, .slice M.s.A M.s.n M.s.c] 35)).alloc (.cells #[.int .i64 s.id, .int .i64 s.kind, .int .i64 s.actor, .int .i64 s.tick, .int .i64 s.rule, .int .i64 s.times, .slice s.sm.A s.sm.n s.sm.c] 59)) := ((Below.refl _ _).alloc (Nat.le_refl _) _).alloc (by simp) _
   have Y := Lib.hid y
   have Hn := Lib.hid h.len
   have H := Lib.hid h
   have hs0 := h.small
   have HI := Lib.hid ih
   have HSS : Hid (∀ X, Below w.heap.size w X → s.Ok X) := Lib.hid fun X hX => hs.below hX
   obtain ⟨p, hp⟩ : ∃ p : MkM → Bool, p = fun t => t.core.val (condV s) := ⟨_, rfl⟩
   have hV : M.core.val (condV s) = if M.op = sAnd then !M.ks.any (fun t => !p t) else if M.op = sOr then M.ks.any p else if M.op = sNot then !M.ks.any p else condV s M.op M.a M.b := by subst hp; exact val_core M (condV s)
   obtain ⟨op, a, b, l, s0⟩ := M
   dsimp only [MkM.ks, MkM.s, MkM.op, MkM.a, MkM.b] at *
   obtain ⟨A, n, c⟩ := s0
   dsimp only at *
   generalize hVV : (MkM.core ⟨op, a, b, l, ⟨A, n, c⟩⟩).val (condV s) = VV at *
   have HVC := Lib.hid hV
   have HP := Lib.hid hp
   have B35 := Lib.hid ((Bk.new w 35 [.string op, .int .i64 a, .int .i64 b, .slice A n c]).alloc (.cells #[.int .i64 s.id, .int .i64 s.kind, .int .i64 s.actor, .int .i64 s.tick, .int .i64 s.rule, .int .i64 s.times, .slice s.sm.A s.sm.n s.sm.c] 59))
   have B59 : Hid (Bk ((w.alloc (.cells #[.string op, .int .i64 a, .int .i64 b, .slice A n c] 35)).alloc (.cells #[.int .i64 s.id, .int .i64 s.kind, .int .i64 s.actor, .int .i64 s.tick, .int .i64 s.rule, .int .i64 s.times, .slice s.sm.A s.sm.n s.sm.c] 59)) (w.heap.size + 1) 59 s.cells) := by
    have := Bk.new (w.alloc (.cells #[.string op, .int .i64 a, .int .i64 b, .slice A n c] 35)) 59 s.cells
    rw [World.size_alloc] at this
    exact Lib.hid this
   have q1 : (op.toList == [97, 110, 100]) = decide (op = sAnd) := by rw [← (show sAnd.toList = [97, 110, 100] by decide +kernel)]; exact eqL _ _
   have q2 : (op.toList == [111, 114]) = decide (op = sOr) := by rw [← (show sOr.toList = [111, 114] by decide +kernel)]; exact eqL _ _
   have q3 : (op.toList == [110, 111, 116]) = decide (op = sNot) := by rw [← (show sNot.toList = [110, 111, 116] by decide +kernel)]; exact eqL _ _
   have q4 : (op.toList == [107, 105, 110, 100]) = decide (op = sKind) := by rw [← (show sKind.toList = [107, 105, 110, 100] by decide +kernel)]; exact eqL _ _
   have q5 : (op.toList == [97, 99, 116, 111, 114]) = decide (op = sActor) := by rw [← (show sActor.toList = [97, 99, 116, 111, 114] by decide +kernel)]; exact eqL _ _
   have q6 : (op.toList == [114, 117, 108, 101]) = decide (op = sRule) := by rw [← (show sRule.toList = [114, 117, 108, 101] by decide +kernel)]; exact eqL _ _
   have q7 : (op.toList == [116, 105, 99, 107]) = decide (op = sTick) := by rw [← (show sTick.toList = [116, 105, 99, 107] by decide +kernel)]; exact eqL _ _
   have q8 : (op.toList == [115, 116, 101, 112]) = decide (op = sStep) := by rw [← (show sStep.toList = [115, 116, 101, 112] by decide +kernel)]; exact eqL _ _
   clear h hs ih y hVV hV hp
   go_enter Tryz.func27, Tryz.ntmps27
   go_wp2_with fail
   go_loopw [5, 6] (fun v i wr => ∃ k x : Nat, k ≤ n ∧ i = .int .i64 k ∧ x ≤ k ∧ x = (l.take k).countP p ∧ v = .int .i64 x ∧ Below w.heap.size w wr ∧ Bk wr w.heap.size 35 [.string op, .int .i64 a, .int .i64 b, .slice A n c] ∧ Bk wr (w.heap.size + 1) 59 s.cells) (fun _ i _ => n - (intOf i).toNat)
   case atStart => exact ⟨0, 0, Nat.zero_le _, rfl, Nat.le_refl _, by simp, rfl, Y.out, B35.out, B59.out⟩
   case round =>
    obtain ⟨k, x, hk, rfl, hxk, hxx, rfl, hb, hx, hz⟩ := hrel
    have HB := Lib.hid hb
    have HX := Lib.hid hx
    have HZ := Lib.hid hz
    have HXX := Lib.hid hxx
    have hsz := hb.size
    have hxl := hx.lt
    have hzl := hz.lt
    have y0 : wr.cell? ⟨w.heap.size, 0, none⟩ = some (.string op) := hx.cell 0
    have y1 : wr.cell? ⟨w.heap.size, 1, none⟩ = some (.int .i64 a) := hx.cell 1
    have y2 : wr.cell? ⟨w.heap.size, 2, none⟩ = some (.int .i64 b) := hx.cell 2
    have y3 : wr.cell? ⟨w.heap.size, 3, none⟩ = some (.slice A n c) := hx.cell 3
    have z0 : wr.cell? ⟨w.heap.size + 1, 0, none⟩ = some (.int .i64 s.id) := hz.cell 0
    have z1 : wr.cell? ⟨w.heap.size + 1, 1, none⟩ = some (.int .i64 s.kind) := hz.cell 1
    have z2 : wr.cell? ⟨w.heap.size + 1, 2, none⟩ = some (.int .i64 s.actor) := hz.cell 2
    have z3 : wr.cell? ⟨w.heap.size + 1, 3, none⟩ = some (.int .i64 s.tick) := hz.cell 3
    have z4 : wr.cell? ⟨w.heap.size + 1, 4, none⟩ = some (.int .i64 s.rule) := hz.cell 4
    have z5 : wr.cell? ⟨w.heap.size + 1, 5, none⟩ = some (.int .i64 s.times) := hz.cell 5
    have z6 : wr.cell? ⟨w.heap.size + 1, 6, none⟩ = some (.slice s.sm.A s.sm.n s.sm.c) := hz.cell 6
    clear hb hx hz hxx
    by_cases hlt : k < n
    ·have hkl : k < l.length := by have := Hn.out; omega
     obtain ⟨bb, off, hA, hbb, c0, c1, c2, c3⟩ := H.out.at_ k hkl
     dsimp only [MkM.ks, MkM.s] at hA c0 c1 c2 c3
     subst hA
     have hmem := List.getElem_mem hkl
     have HKC : Hid (∀ U, Below w.heap.size w U → (U.cell? ⟨bb, off + k * 4, none⟩ = some (.string l[k].op) ∧ U.cell? ⟨bb, off + k * 4 + 1, none⟩ = some (.int .i64 l[k].a) ∧ U.cell? ⟨bb, off + k * 4 + 2, none⟩ = some (.int .i64 l[k].b) ∧ U.cell? ⟨bb, off + k * 4 + 3, none⟩ = some (.slice l[k].s.A l[k].s.n l[k].s.c)) ∧ bb < U.heap.size) := Lib.hid fun U hU =>
      ⟨⟨(hU.cell (p := ⟨bb, off + k * 4, none⟩) hbb).trans c0, (hU.cell (p := ⟨bb, off + k * 4 + 1, none⟩) hbb).trans c1, (hU.cell (p := ⟨bb, off + k * 4 + 2, none⟩) hbb).trans c2, (hU.cell (p := ⟨bb, off + k * 4 + 3, none⟩) hbb).trans c3⟩, Nat.lt_of_lt_of_le hbb hU.size⟩
     have HC := Lib.hid (HI.out l[k] hmem wr.drew P ((H.out.bel HB.out.drew).each l[k] hmem) (HSS.out _ HB.out.drew))
     have HCT := Lib.hid (cnt_succ l p k hkl)
     rw [← HXX.out] at HCT
     have hpk : p l[k] = l[k].core.val (condV s) := by rw [HP.out]
     rw [hpk] at HCT
     clear hmem c0 c1 c2 c3 hpk
     generalize l[k] = t at *
     clear hkl
     have hxw : IntKind.i64.wrap ((x : Int) + 1) = ((x + 1 : Nat) : Int) := by simp [IntKind.wrap_i64]; omega
     generalize t.core.val (condV s) = bv at *
     have bv' := bv
     cases bv
     ·have HN : Hid (x = (l.take (k + 1)).countP p) := by
       have := HCT.out; exact Lib.hid (by rw [this]; rfl)
      clear HCT
      go_wp2
      refine wp_region_X (fun w' => (Bk w' w.heap.size 35 [.string op, .int .i64 a, .int .i64 b, .slice (some ⟨bb, off, none⟩) n c] ∧ Bk w' (w.heap.size + 1) 59 s.cells) ∧ ((w'.cell? ⟨bb, off + k * 4, none⟩ = some (.string t.op) ∧ w'.cell? ⟨bb, off + k * 4 + 1, none⟩ = some (.int .i64 t.a) ∧ w'.cell? ⟨bb, off + k * 4 + 2, none⟩ = some (.int .i64 t.b) ∧ w'.cell? ⟨bb, off + k * 4 + 3, none⟩ = some (.slice t.s.A t.s.n t.s.c)) ∧ bb < w'.heap.size)) 7 (n := 7) rfl (by kernel_rfl) (⟨⟨HX.out.drew, HZ.out.drew⟩, HKC.out _ HB.out.drew⟩) (fun hS => ?_)
      refine X_takeU 0 (some 14) (v := ?_) (listed' := #[true, false, false, false, false, false, false]) rfl rfl rfl (by kernel_rfl) rfl (fun _ _ _ h => h) ⟨rfl, ?_⟩ hS ?_
      rotate_left
      ·intro w' hS'
       (go_simp; try with_reducible rfl)
      simp only [Act.put, List.setIfInBounds_toArray, List.set_cons_zero, List.set_cons_succ]
      refine X_takeU 1 (some 15) (v := ?_) (listed' := #[true, true, false, false, false, false, false]) rfl rfl rfl (by kernel_rfl) rfl (fun _ _ _ h => h) ⟨rfl, ?_⟩ hS ?_
      rotate_left
      ·intro w' hS'
       have e3 : w'.cell? ⟨w.heap.size, 3, none⟩ = some (.slice (some ⟨bb, off, none⟩) n c) := hS'.1.1.cell 3
       have el := hS'.1.1.lt
       (go_simp; try with_reducible rfl)
      simp only [Act.put, List.setIfInBounds_toArray, List.set_cons_zero, List.set_cons_succ]
      refine X_takeU 2 (some 16) (v := ?_) (listed' := #[true, true, true, false, false, false, false]) rfl rfl rfl (by kernel_rfl) rfl (fun _ _ _ h => h) ⟨rfl, ?_⟩ hS ?_
      rotate_left
      ·intro w' hS'
       (go_simp; try with_reducible rfl)
      simp only [Act.put, List.setIfInBounds_toArray, List.set_cons_zero, List.set_cons_succ]
      refine X_takeU 3 (some 17) (v := ?_) (listed' := #[true, true, true, true, false, false, false]) rfl rfl rfl (by kernel_rfl) rfl (fun _ _ _ h => h) ⟨rfl, ?_⟩ hS ?_
      rotate_left
      ·intro w' hS'
       (go_simp; try with_reducible rfl)
      simp only [Act.put, List.setIfInBounds_toArray, List.set_cons_zero, List.set_cons_succ]
      refine X_takeU 4 (some 18) (v := ?_) (listed' := #[true, true, true, true, true, false, false]) rfl rfl rfl (by kernel_rfl) rfl (fun _ _ _ h => h) ⟨rfl, ?_⟩ hS ?_
      rotate_left
      ·intro w' hS'
       have e0 := hS'.2.1.1
       have e1 := hS'.2.1.2.1
       have e2 := hS'.2.1.2.2.1
       have e3 := hS'.2.1.2.2.2
       have el := hS'.2.2
       (go_simp; try with_reducible rfl)
      simp only [Act.put, List.setIfInBounds_toArray, List.set_cons_zero, List.set_cons_succ]
      refine X_takeU 5 (some 19) (v := ?_) (listed' := #[true, true, true, true, true, true, false]) rfl rfl rfl (by kernel_rfl) rfl (fun _ _ _ h => h) ⟨rfl, ?_⟩ hS ?_
      rotate_left
      ·intro w' hS'
       have e0 : w'.cell? ⟨w.heap.size + 1, 0, none⟩ = some (.int .i64 s.id) := hS'.1.2.cell 0
       have e1 : w'.cell? ⟨w.heap.size + 1, 1, none⟩ = some (.int .i64 s.kind) := hS'.1.2.cell 1
       have e2 : w'.cell? ⟨w.heap.size + 1, 2, none⟩ = some (.int .i64 s.actor) := hS'.1.2.cell 2
       have e3 : w'.cell? ⟨w.heap.size + 1, 3, none⟩ = some (.int .i64 s.tick) := hS'.1.2.cell 3
       have e4 : w'.cell? ⟨w.heap.size + 1, 4, none⟩ = some (.int .i64 s.rule) := hS'.1.2.cell 4
       have e5 : w'.cell? ⟨w.heap.size + 1, 5, none⟩ = some (.int .i64 s.times) := hS'.1.2.cell 5
       have e6 : w'.cell? ⟨w.heap.size + 1, 6, none⟩ = some (.slice s.sm.A s.sm.n s.sm.c) := hS'.1.2.cell 6
       have el := hS'.1.2.lt
       (go_simp; try with_reducible rfl)
      simp only [Act.put, List.setIfInBounds_toArray, List.set_cons_zero, List.set_cons_succ]
      refine X_one 6 (listed' := #[true, true, true, true, true, true, true]) (by kernel_rfl) rfl rfl (fun K hK => ?_)
      go_simp
      (with_reducible refine HC.out.mono ?_)
      rintro e w1 ⟨rfl, hb⟩
      have hd := (Below.refl wr.heap.size wr).drew.trans hb
      have HB1 := Lib.hid (HB.out.trans (hd.mono HB.out.size))
      have HX1 := Lib.hid (HX.out.below hd HX.out.lt)
      have HZ1 := Lib.hid (HZ.out.below hd HZ.out.lt)
      refine hK _ _ ⟨⟨HX1.out, HZ1.out⟩, HKC.out _ HB1.out⟩ ?_
      clear hK HC hb hd
      refine X_done (by kernel_rfl) ?_
      clear hS
      go_wp2
      go_roundw
      case rel => exact ⟨k + 1, x, by omega, by go_num, by omega, HN.out, rfl, HB1.out, HX1.out, HZ1.out⟩
      case measure => simp [intOf]; omega
     ·have HN : Hid (x + 1 = (l.take (k + 1)).countP p) := by
       have := HCT.out; exact Lib.hid (by rw [this]; rfl)
      clear HCT
      go_wp2
      refine wp_region_X (fun w' => (Bk w' w.heap.size 35 [.string op, .int .i64 a, .int .i64 b, .slice (some ⟨bb, off, none⟩) n c] ∧ Bk w' (w.heap.size + 1) 59 s.cells) ∧ ((w'.cell? ⟨bb, off + k * 4, none⟩ = some (.string t.op) ∧ w'.cell? ⟨bb, off + k * 4 + 1, none⟩ = some (.int .i64 t.a) ∧ w'.cell? ⟨bb, off + k * 4 + 2, none⟩ = some (.int .i64 t.b) ∧ w'.cell? ⟨bb, off + k * 4 + 3, none⟩ = some (.slice t.s.A t.s.n t.s.c)) ∧ bb < w'.heap.size)) 7 (n := 7) rfl (by kernel_rfl) (⟨⟨HX.out.drew, HZ.out.drew⟩, HKC.out _ HB.out.drew⟩) (fun hS => ?_)
      refine X_takeU 0 (some 14) (v := ?_) (listed' := #[true, false, false, false, false, false, false]) rfl rfl rfl (by kernel_rfl) rfl (fun _ _ _ h => h) ⟨rfl, ?_⟩ hS ?_
      rotate_left
      ·intro w' hS'
       (go_simp; try with_reducible rfl)
      simp only [Act.put, List.setIfInBounds_toArray, List.set_cons_zero, List.set_cons_succ]
      refine X_takeU 1 (some 15) (v := ?_) (listed' := #[true, true, false, false, false, false, false]) rfl rfl rfl (by kernel_rfl) rfl (fun _ _ _ h => h) ⟨rfl, ?_⟩ hS ?_
      rotate_left
      ·intro w' hS'
       have e3 : w'.cell? ⟨w.heap.size, 3, none⟩ = some (.slice (some ⟨bb, off, none⟩) n c) := hS'.1.1.cell 3
       have el := hS'.1.1.lt
       (go_simp; try with_reducible rfl)
      simp only [Act.put, List.setIfInBounds_toArray, List.set_cons_zero, List.set_cons_succ]
      refine X_takeU 2 (some 16) (v := ?_) (listed' := #[true, true, true, false, false, false, false]) rfl rfl rfl (by kernel_rfl) rfl (fun _ _ _ h => h) ⟨rfl, ?_⟩ hS ?_
      rotate_left
      ·intro w' hS'
       (go_simp; try with_reducible rfl)
      simp only [Act.put, List.setIfInBounds_toArray, List.set_cons_zero, List.set_cons_succ]
      refine X_takeU 3 (some 17) (v := ?_) (listed' := #[true, true, true, true, false, false, false]) rfl rfl rfl (by kernel_rfl) rfl (fun _ _ _ h => h) ⟨rfl, ?_⟩ hS ?_
      rotate_left
      ·intro w' hS'
       (go_simp; try with_reducible rfl)
      simp only [Act.put, List.setIfInBounds_toArray, List.set_cons_zero, List.set_cons_succ]
      refine X_takeU 4 (some 18) (v := ?_) (listed' := #[true, true, true, true, true, false, false]) rfl rfl rfl (by kernel_rfl) rfl (fun _ _ _ h => h) ⟨rfl, ?_⟩ hS ?_
      rotate_left
      ·intro w' hS'
       have e0 := hS'.2.1.1
       have e1 := hS'.2.1.2.1
       have e2 := hS'.2.1.2.2.1
       have e3 := hS'.2.1.2.2.2
       have el := hS'.2.2
       (go_simp; try with_reducible rfl)
      simp only [Act.put, List.setIfInBounds_toArray, List.set_cons_zero, List.set_cons_succ]
      refine X_takeU 5 (some 19) (v := ?_) (listed' := #[true, true, true, true, true, true, false]) rfl rfl rfl (by kernel_rfl) rfl (fun _ _ _ h => h) ⟨rfl, ?_⟩ hS ?_
      rotate_left
      ·intro w' hS'
       have e0 : w'.cell? ⟨w.heap.size + 1, 0, none⟩ = some (.int .i64 s.id) := hS'.1.2.cell 0
       have e1 : w'.cell? ⟨w.heap.size + 1, 1, none⟩ = some (.int .i64 s.kind) := hS'.1.2.cell 1
       have e2 : w'.cell? ⟨w.heap.size + 1, 2, none⟩ = some (.int .i64 s.actor) := hS'.1.2.cell 2
       have e3 : w'.cell? ⟨w.heap.size + 1, 3, none⟩ = some (.int .i64 s.tick) := hS'.1.2.cell 3
       have e4 : w'.cell? ⟨w.heap.size + 1, 4, none⟩ = some (.int .i64 s.rule) := hS'.1.2.cell 4
       have e5 : w'.cell? ⟨w.heap.size + 1, 5, none⟩ = some (.int .i64 s.times) := hS'.1.2.cell 5
       have e6 : w'.cell? ⟨w.heap.size + 1, 6, none⟩ = some (.slice s.sm.A s.sm.n s.sm.c) := hS'.1.2.cell 6
       have el := hS'.1.2.lt
       (go_simp; try with_reducible rfl)
      simp only [Act.put, List.setIfInBounds_toArray, List.set_cons_zero, List.set_cons_succ]
      refine X_one 6 (listed' := #[true, true, true, true, true, true, true]) (by kernel_rfl) rfl rfl (fun K hK => ?_)
      go_simp
      (with_reducible refine HC.out.mono ?_)
      rintro e w1 ⟨rfl, hb⟩
      have hd := (Below.refl wr.heap.size wr).drew.trans hb
      have HB1 := Lib.hid (HB.out.trans (hd.mono HB.out.size))
      have HX1 := Lib.hid (HX.out.below hd HX.out.lt)
      have HZ1 := Lib.hid (HZ.out.below hd HZ.out.lt)
      refine hK _ _ ⟨⟨HX1.out, HZ1.out⟩, HKC.out _ HB1.out⟩ ?_
      clear hK HC hb hd
      refine X_done (by kernel_rfl) ?_
      clear hS
      go_wp2
      go_roundw
      case rel => exact ⟨k + 1, x + 1, by omega, by go_num, by omega, HN.out, by go_num, HB1.out, HX1.out, HZ1.out⟩
      case measure => simp [intOf]; omega
    ·have hkn : k = n := by omega
     have hln : n = l.length := Hn.out
     have hx : x = l.countP p := by rw [HXX.out, hkn, List.take_of_length_le (by omega)]
     have hV := HVC.out
     clear hkn
     by_cases e1 : op = sAnd
     ·rw [decide_eq_true e1] at q1
      rw [if_pos e1, cnt_all, ← hx, ← hln] at hV
      have HV := Lib.hid hV
      have hz : ((x : Int) == (n : Int)) = decide (x = n) := by rw [Bool.eq_iff_iff]; simp; try omega
      clear hx hln hV e1
      go_wp2
      go_ret
      exact ⟨by rw [HV.out]; rfl, HB.out⟩
     rw [decide_eq_false e1] at q1
     by_cases e2 : op = sOr
     ·rw [decide_eq_true e2] at q2
      rw [if_neg e1, if_pos e2, cnt_any, ← hx] at hV
      have HV := Lib.hid hV
      have hz : decide ((0 : Int) < (x : Int)) = decide (0 < x) := by rw [Bool.eq_iff_iff]; simp; try omega
      clear hx hln hV e1 e2
      go_wp2
      go_ret
      exact ⟨by rw [HV.out]; rfl, HB.out⟩
     rw [decide_eq_false e2] at q2
     by_cases e3 : op = sNot
     ·rw [decide_eq_true e3] at q3
      rw [if_neg e1, if_neg e2, if_pos e3, cnt_none, ← hx] at hV
      have HV := Lib.hid hV
      have hz : ((x : Int) == (0 : Int)) = decide (x = 0) := by rw [Bool.eq_iff_iff]; simp; try omega
      clear hx hln hV e1 e2 e3
      go_wp2
      go_ret
      exact ⟨by rw [HV.out]; rfl, HB.out⟩
     rw [decide_eq_false e3] at q3
     by_cases e4 : op = sKind
     ·rw [decide_eq_true e4] at q4
      rw [if_neg e1, if_neg e2, if_neg e3, e4, condV_sKind] at hV
      have HV := Lib.hid hV
      clear hx hln hV e1 e2 e3 e4
      go_wp2
      go_ret
      exact ⟨by rw [HV.out]; rfl, HB.out⟩
     rw [decide_eq_false e4] at q4
     by_cases e5 : op = sActor
     ·rw [decide_eq_true e5] at q5
      rw [if_neg e1, if_neg e2, if_neg e3, e5, condV_sActor] at hV
      have HV := Lib.hid hV
      clear hx hln hV e1 e2 e3 e4 e5
      go_wp2
      go_ret
      exact ⟨by rw [HV.out]; rfl, HB.out⟩
     rw [decide_eq_false e5] at q5
     by_cases e6 : op = sRule
     ·rw [decide_eq_true e6] at q6
      rw [if_neg e1, if_neg e2, if_neg e3, e6, condV_sRule] at hV
      have HV := Lib.hid hV
      clear hx hln hV e1 e2 e3 e4 e5 e6
      cases g1 : (s.rule == a)
      ·have g1' : (s.rule == a) = false := g1
       go_wp2
       go_ret
       exact ⟨by rw [HV.out]; simp [g1], HB.out⟩
      ·have g1' : (s.rule == a) = true := g1
       go_wp2
       go_ret
       exact ⟨by rw [HV.out]; simp [g1], HB.out⟩
     rw [decide_eq_false e6] at q6
     by_cases e7 : op = sTick
     ·rw [decide_eq_true e7] at q7
      rw [if_neg e1, if_neg e2, if_neg e3, e7, condV_sTick] at hV
      have HV := Lib.hid hV
      clear hx hln hV e1 e2 e3 e4 e5 e6 e7
      cases g1 : decide (a ≤ s.tick)
      ·have g1' : decide (a ≤ s.tick) = false := g1
       go_wp2
       go_ret
       exact ⟨by rw [HV.out]; simp [g1], HB.out⟩
      ·have g1' : decide (a ≤ s.tick) = true := g1
       go_wp2
       go_ret
       exact ⟨by rw [HV.out]; simp [g1], HB.out⟩
     rw [decide_eq_false e7] at q7
     by_cases e8 : op = sStep
     ·rw [decide_eq_true e8] at q8
      rw [if_neg e1, if_neg e2, if_neg e3, e8, condV_sStep] at hV
      have HV := Lib.hid hV
      clear hx hln hV e1 e2 e3 e4 e5 e6 e7 e8
      cases g1 : decide (a ≤ s.id)
      ·have g1' : decide (a ≤ s.id) = false := g1
       go_wp2
       go_ret
       exact ⟨by rw [HV.out]; simp [g1], HB.out⟩
      ·have g1' : decide (a ≤ s.id) = true := g1
       go_wp2
       go_ret
       exact ⟨by rw [HV.out]; simp [g1], HB.out⟩
     rw [decide_eq_false e8] at q8
     rw [if_neg e1, if_neg e2, if_neg e3, condV_moved e4 e5 e6 e7 e8] at hV
     have HV := Lib.hid hV
     have KM := Lib.hid (moved_any s op a b A n c wr (HSS.out _ HB.out))
     clear hx hln hV e1 e2 e3 e4 e5 e6 e7 e8
     go_wp2_with fail
     refine KM.out.mono ?_
     rintro e w1 ⟨rfl, hb⟩
     have HB1 := Lib.hid (HB.out.trans (hb.mono HB.out.size))
     clear KM hb
     go_wp2
     go_ret
     exact ⟨by rw [HV.out]; rfl, HB1.out⟩
abbrev fP (m : CatM) := factP kindNs (m.rules.map RuM.name) (m.items.map It.name)
abbrev jP (m : CatM) := joinP kindNs (m.rules.map RuM.name) (m.items.map It.name)
abbrev lP (m : CatM) := listP kindNs (m.rules.map RuM.name) (m.items.map It.name)
def elemP (m : CatM) (o : Bool) (n : Nat) (ts : List Tok) (st : PSt) : PR Mk := if o then jP m n false ts st else fP m n ts st
def moreL (m : CatM) (o : Bool) (n : Nat) (ks : List Mk) (r : List Tok) (st : PSt) : PR (List Mk) :=
 if headB r 0 (jOp o) then (match lP m n o r.tail st with | .bad x => .bad x | .ok ms r' st'' => .ok (ks ++ ms) r' st'') else .ok ks r st
theorem list_bad {m : CatM} {o : Bool} {n : Nat} {ts x : List Tok} {st : PSt} (h : elemP m o n ts st = .bad x) : lP m (n + 1) o ts st = .bad x := by
 unfold elemP at h
 simp only [lP, listP]
 rw [h]
theorem list_ok {m : CatM} {o : Bool} {n : Nat} {ts r : List Tok} {st st' : PSt} {k : Mk} (h : elemP m o n ts st = .ok k r st') : lP m (n + 1) o ts st = moreL m o n [k] r st' := by
 unfold elemP at h
 simp only [lP, listP, moreL]
 rw [h]
 dsimp only
 split
 ·cases listP kindNs (m.rules.map RuM.name) (m.items.map It.name) n o r.tail st' <;> rfl
 ·rfl
theorem more_end {m : CatM} {o : Bool} {n : Nat} {ks : List Mk} {r : List Tok} {st : PSt} (h : headB r 0 (jOp o) = false) : moreL m o n ks r st = .ok ks r st := by
 unfold moreL
 rw [if_neg (by simp [h])]
theorem more_bad {m : CatM} {o : Bool} {n : Nat} {ks : List Mk} {r x : List Tok} {st : PSt} (h : headB r 0 (jOp o) = true) (he : elemP m o n r.tail st = .bad x) : moreL m o (n + 1) ks r st = .bad x := by
 unfold moreL
 rw [if_pos h, list_bad he]
theorem more_ok {m : CatM} {o : Bool} {n : Nat} {ks : List Mk} {k : Mk} {r r2 : List Tok} {st st2 : PSt} (h : headB r 0 (jOp o) = true) (he : elemP m o n r.tail st = .ok k r2 st2) : moreL m o (n + 1) ks r st = moreL m o n (ks ++ [k]) r2 st2 := by
 have e1 : moreL m o (n + 1) ks r st = match lP m (n + 1) o r.tail st with | .bad x => .bad x | .ok ms r' st'' => .ok (ks ++ ms) r' st'' := by
  unfold moreL; rw [if_pos h]
 rw [e1, list_ok he]
 by_cases hh : headB r2 0 (jOp o) = true
 ·have e2 : ∀ l, moreL m o n l r2 st2 = match lP m n o r2.tail st2 with | .bad x => .bad x | .ok ms r' st'' => .ok (l ++ ms) r' st'' := fun l => by
   unfold moreL; rw [if_pos hh]
  rw [e2, e2]
  cases lP m n o r2.tail st2 <;> simp
 ·have e2 : ∀ l, moreL m o n l r2 st2 = .ok l r2 st2 := fun l => by
   unfold moreL; rw [if_neg hh]
  rw [e2, e2]
theorem elem_good (m : CatM) (o : Bool) (n : Nat) (ts : List Tok) (st : PSt) : (elemP m o n ts st).good ts st := by
 unfold elemP
 split
 ·exact (good_all _ _ _ n).2.1 false ts st
 ·exact (good_all _ _ _ n).1 ts st
def rdLeft (w : World) (rb : Nat) : Nat := match w.cell? ⟨rb, 0, none⟩ with | some (.slice _ n _) => n | _ => 0
theorem RdAt.left {W : World} {rb : Nat} {ts : List Tok} {len : Int} (h : RdAt W rb ts len) : rdLeft W rb = ts.length := by
 obtain ⟨A, c, h1, _⟩ := h
 have : W.cell? ⟨rb, 0, none⟩ = some (.slice A ts.length c) := h1.cell 0
 simp [rdLeft, this]
theorem head_cons {ts : List Tok} {k : Int} {s : ByteArray} (h : headB ts k s = true) : ∃ t r, ts = t :: r := by
 cases ts with
 | nil => cases h
 | cons t r => exact ⟨t, r, rfl⟩
theorem RdAt.few {W : World} {rb : Nat} {ts : List Tok} {len : Int} (h : RdAt W rb ts len) : ts.length ≤ 8192 := by
 obtain ⟨A, c, _, _, _, h4, _⟩ := h; exact h4
theorem info49 : (Tryz.prog.info? 49).map (fun i => (i.zero, i.size, i.bytes)) = some (some (.agg #[.string ⟨#[]⟩, .int .i64 0, .int .i64 0, .slice none 0 0]), 4, 56) := by kernel_rfl
theorem own_block {w : World} {base e size n g cap : Nat} {xs : List Value} (h : w.ownsRow base e size (.slice (some ⟨g, 0, none⟩) n cap) n xs) : base ≤ g ∧ g < w.heap.size ∧ ∃ cur, w.heap[g]? = some (.cells cur e (0, 0)) := by
 rcases h.2 with ⟨h', _⟩ | ⟨g', cap', cur, h', hb, hg, _⟩
 ·simp at h'
 ·simp only [Value.slice.injEq, Option.some.injEq, Addr.mk.injEq, and_true, true_and] at h'
  obtain ⟨rfl, rfl⟩ := h'
  exact ⟨hb, (Array.getElem?_eq_some_iff.1 hg).1, cur, hg⟩
theorem own_gr2 {w w' : World} {base e size n g cap r p : Nat} {xs : List Value} (h : w.ownsRow base e size (.slice (some ⟨g, 0, none⟩) n cap) n xs) (hg : Gr2 r p w w') (h1 : g ≠ r) (h2 : g ≠ p) : w'.ownsRow base e size (.slice (some ⟨g, 0, none⟩) n cap) n xs := by
 refine ⟨h.1, ?_⟩
 rcases h.2 with ⟨h', _⟩ | ⟨g', cap', cur, h', hb, hc, rest⟩
 ·simp at h'
 ·simp only [Value.slice.injEq, Option.some.injEq, Addr.mk.injEq, and_true, true_and] at h'
  obtain ⟨rfl, rfl⟩ := h'
  exact .inr ⟨g, cap, cur, rfl, hb, (hg.block g (Array.getElem?_eq_some_iff.1 hc).1 h1 h2).trans hc, rest⟩
theorem own_not {w : World} {base e size n g cap : Nat} {xs : List Value} (h : w.ownsRow base e size (.slice (some ⟨g, 0, none⟩) n cap) n xs) {t' : TypeId} (hne : e ≠ t') : ∀ cur fl, w.heap[g]? ≠ some (.cells cur t' fl) := by
 obtain ⟨_, _, cur, hg⟩ := own_block h
 intro c f e'
 rw [hg] at e'
 cases e'
 exact hne rfl
/-- The kids that have been read. -/
structure Kids (wr : World) (B g : Nat) (ks : List MkM) : Prop where
 each : ∀ k ∈ ks, k.Ok wr 49 (fun b => B < b ∧ b ≠ g)
theorem Kids.far {w w' : World} {B g : Nat} {ks : List MkM} (h : Kids w B g ks) (hg : w.grownBy w' (some B)) : Kids w' B g ks := ⟨fun k hk => (h.each k hk).grown hg fun b hb => by simp; omega⟩
theorem Kids.gr2 {w w' : World} {r p B g : Nat} {ks : List MkM} (h : Kids w B g ks) (hg : Gr2 r p w w') (hr : r < B) (hp : p < B) : Kids w' B g ks := ⟨fun k hk => (h.each k hk).gr2 hg fun b hb => ⟨by omega, by omega⟩⟩
theorem Kids.below {w w' : World} {B g : Nat} {ks : List MkM} (h : Kids w B g ks) (hb : Below w.heap.size w w') : Kids w' B g ks := ⟨fun k hk => (h.each k hk).bel hb⟩
theorem Kids.next {w w' : World} {B g g' : Nat} {ks : List MkM} {M : MkM} (h : Kids w B g ks) (hM : M.Ok w 49 (fun b => B < b ∧ b ≠ g)) (hg : w.grownBy w' (some g)) (hat : g' = g ∨ g' = w.heap.size) : Kids w' B g' (ks ++ [M]) := ⟨fun k hk => by
 have hk' : k.Ok w 49 (fun b => B < b ∧ b ≠ g) := by
  rcases List.mem_append.1 hk with hk | hk
  ·exact h.each k hk
  ·obtain rfl : k = M := by simpa using hk
   exact hM
 exact (hk'.lt.grown hg fun b hb => by simp; omega).mono fun b _ hb => by
  rcases hat with rfl | rfl
  ·exact hb.1
  ·exact ⟨hb.1.1, by omega⟩⟩
theorem Gr2.own {r p g : Nat} {a b c : World} (h : Gr2 r p a b) (hg : b.grownBy c (some g)) (hq : a.heap.size ≤ g) : Gr2 r p a c :=
 ⟨hg.os.trans h.os, hg.tape.trans h.tape, hg.output.trans h.output, Nat.le_trans h.size hg.size, fun i hi h1 h2 => (hg.block i (Nat.lt_of_lt_of_le hi h.size) (by simp; omega)).trans (h.block i hi h1 h2)⟩
theorem one4m (M : MkM) : ∀ u ∈ ([.string M.op, .int .i64 M.a, .int .i64 M.b, .slice M.s.A M.s.n M.s.c] : List Value), u.oneCell' = true := by
 intro u hu
 simp only [List.mem_cons, List.not_mem_nil, or_false] at hu
 rcases hu with rfl | rfl | rfl | rfl <;> rfl
theorem enters115 : ∀ (args : Array Value) (W : World), (callFunc 115 args).run Tryz.prog W = .ok (.enter 115 args) W := enter_of Tryz.func115 (by kernel_rfl) rfl
theorem enters114 : ∀ (args : Array Value) (W : World), (callFunc 114 args).run Tryz.prog W = .ok (.enter 114 args) W := enter_of Tryz.func114 (by kernel_rfl) rfl
theorem PR.joined_more {op : ByteArray} {ks : List Mk} {r : List Tok} {st : PSt} (h : ks.length ≠ 1) : (PR.ok ks r st).joined op = .ok (.node op 0 0 ks) r st := by
 simp only [PR.joined]
 split
 ·simp at h
 ·rfl
set_option maxRecDepth 100000 in
set_option maxHeartbeats 4000000 in
theorem join_and {W : World} {rb pb : Nat} {m : CatM} {len : Int} (N : Nat)
 (hR : Hid (∀ n, n < N → ∀ W' ts st, Gr2 rb pb W W' → PAt W' rb pb m ts len st → 5 * ts.length + 1 ≤ n → Calls Tryz.prog 115 #[.pointer (some ⟨pb, 0, none⟩)] W' (PPost W' rb pb m len (elemP m false n ts st))))
 {ts : List Tok} {st : PSt} (h : PAt W rb pb m ts len st) (hN : 5 * ts.length + 3 ≤ N) :
 Calls Tryz.prog 113 #[.pointer (some ⟨pb, 0, none⟩), .string ⟨#[97, 110, 100]⟩, .func (.func 115) #[.pointer (some ⟨pb, 0, none⟩)] #[]] W (PPost W rb pb m len (jP m N false ts st)) := by
 obtain ⟨N1, rfl⟩ : ∃ N1, N = N1 + 2 := ⟨N - 2, by omega⟩
 have HJ : Hid (jP m (N1 + 2) false ts st = (lP m (N1 + 1) false ts st).joined sAnd) := rfl
 have y : Below W.heap.size W (W.alloc (.cells #[.string ⟨#[]⟩, .int .i64 0, .int .i64 0, .slice none 0 0] 49)) := (Below.refl _ _).alloc (Nat.le_refl _) _
 have HB0 := Lib.hid (Bk.new W 49 [.string ⟨#[]⟩, .int .i64 0, .int .i64 0, .slice none 0 0])
 have K0 := Lib.hid (hR.out N1 (by omega) _ ts st (.of_below y) (h.below y) (by omega))
 have hg0 := elem_good m false N1 ts st
 have hfew := h.rd.few
 have hpl := h.plt
 have hlt := h.lt
 have hq := enters115
 obtain ⟨i0, hi, hz0, hz1, hz2⟩ := info_parts info49
 clear h
 cases he : elemP m false N1 ts st with
 | bad x =>
   rw [list_bad he] at HJ
   rw [he] at K0
   have HQ : Hid (jP m (N1 + 2) false ts st = .bad x) := HJ.out
   clear HJ he hg0 hR
   go_enter Tryz.func113, Tryz.ntmps113
   go_wp2_with fail
   refine K0.out.mono ?_
   rintro e wz ⟨rfl, hgz⟩
   refine ⟨rfl, ?_⟩
   rw [HQ.out]
   exact ⟨rfl, (Gr2.of_below y).trans hgz⟩
 | ok k0 r0 st0 =>
   have HL := Lib.hid (list_ok he)
   rw [he] at K0 hg0
   clear he
   have hr0 := hg0.1
   go_enter Tryz.func113, Tryz.ntmps113
   go_wp2_with fail
   refine K0.out.mono ?_
   rintro e w1 ⟨M, rfl, hMc, hMo, hP1, hG1⟩
   have hs1 := hG1.size
   rw [World.size_alloc] at hs1
   have y1 : Below w1.heap.size w1 (w1.alloc (.cells #[.string M.op, .int .i64 M.a, .int .i64 M.b, .slice M.s.A M.s.n M.s.c] 49)) := (Below.refl _ _).alloc (Nat.le_refl _) _
   have HP1 := Lib.hid (hP1.below y1)
   have HG1 := Lib.hid (((Gr2.of_below (r := rb) (p := pb) y).trans hG1).trans (.of_below y1))
   have HB1 := Lib.hid ((HB0.out.gr2 hG1 (by omega) (by omega)).alloc (.cells #[.string M.op, .int .i64 M.a, .int .i64 M.b, .slice M.s.A M.s.n M.s.c] 49))
   have HM1 := Lib.hid ((hMo.lt.bel y1).mono fun b _ hb => show W.heap.size < b ∧ b ≠ w1.heap.size from ⟨by have := hb.1; rw [World.size_alloc] at this; omega, by omega⟩)
   have HO1 : Hid ((w1.alloc (.cells #[.string M.op, .int .i64 M.a, .int .i64 M.b, .slice M.s.A M.s.n M.s.c] 49)).ownsRow W.heap.size 49 4 (.slice (some ⟨w1.heap.size, 0, none⟩) 1 1) 1 (mcells [M])) := Lib.hid (by
    have := World.ownsRow_lit (base := W.heap.size) (e := 49) (size := 4) w1 #[.string M.op, .int .i64 M.a, .int .i64 M.b, .slice M.s.A M.s.n M.s.c] 1 (by omega) (by decide) rfl
    exact this)
   have HMc := Lib.hid hMc
   clear hMc hMo hP1 hG1 K0 hg0 HB0 y1
   go_wp2_with fail
   go_loopw [7] (fun v wr => ∃ (ks : List MkM) (g cap n : Nat) (r : List Tok) (s : PSt), v = .slice (some ⟨g, 0, none⟩) ks.length cap ∧ wr.ownsRow W.heap.size 49 4 (.slice (some ⟨g, 0, none⟩) ks.length cap) ks.length (mcells ks) ∧ Kids wr W.heap.size g ks ∧ PAt wr rb pb m r len s ∧ Gr2 rb pb W wr ∧ Bk wr W.heap.size 49 [.string ⟨#[]⟩, .int .i64 0, .int .i64 0, .slice none 0 0] ∧ n ≤ N1 ∧ 5 * r.length + 1 ≤ n ∧ moreL m false n (MkM.coreL ks) r s = lP m (N1 + 1) false ts st ∧ ks.length + r.length ≤ 8192 ∧ 1 ≤ ks.length ∧ W.heap.size < g) (fun _ wr => rdLeft wr rb)
   case atStart => exact ⟨[M], _, 1, N1, r0, st0, rfl, HO1.out, ⟨fun k hk => by
    obtain rfl : k = M := by simpa using hk
    exact HM1.out⟩, HP1.out, HG1.out, HB1.out, Nat.le_refl _, by omega, by
    show moreL m false N1 [M.core] r0 st0 = _
    rw [HMc.out]
    exact HL.out.symm, by simp; omega, by simp, by omega⟩
   case round =>
    obtain ⟨ks, g, cap, n, r, s, rfl, hown, hkids, hP, hG, hB, hn, hfuel, hmore, hcnt, hone, hgs⟩ := hrel
    have hlen := hP.rd.left
    have HO := Lib.hid hown
    have HK := Lib.hid hkids
    have HP := Lib.hid hP
    have HG := Lib.hid hG
    have HB := Lib.hid hB
    have HM := Lib.hid hmore
    have hpl2 := hP.plt
    have p0 := hP.r0
    have hsz := hG.size
    obtain ⟨hgW, hgl, _⟩ := own_block hown
    cases hh : headB r 0 sAnd
    ·-- the end
     have KA := Lib.hid (accept_no 0 sAnd hP.rd (by rw [isB_word _ _ (by decide)]; exact hh))
     have HE : Hid (lP m (N1 + 1) false ts st = .ok (MkM.coreL ks) r s) := hmore.symm.trans (more_end hh)
     clear hown hkids hP hG hB hmore hh HM HO1 HM1 HP1 HG1 HB1 HL hR HMc
     go_wp2_with fail
     refine KA.out.mono ?_
     rintro e w5 ⟨rfl, rfl⟩
     clear KA
     have z0 : w5.cell? ⟨W.heap.size, 0, none⟩ = some (.string ⟨#[]⟩) := HB.out.cell 0
     have z1 : w5.cell? ⟨W.heap.size, 1, none⟩ = some (.int .i64 0) := HB.out.cell 1
     have z2 : w5.cell? ⟨W.heap.size, 2, none⟩ = some (.int .i64 0) := HB.out.cell 2
     have z3 : w5.cell? ⟨W.heap.size, 3, none⟩ = some (.slice none 0 0) := HB.out.cell 3
     have fz0 := HB.out.frozen 0
     have fz1 := HB.out.frozen 1
     have fz2 := HB.out.frozen 2
     have fz3 := HB.out.frozen 3
     have hrl := HB.out.lt
     have hgne : W.heap.size ≠ g := by omega
     by_cases h1 : ks.length = 1
     ·obtain ⟨k, rfl⟩ := List.length_eq_one_iff.1 h1
      have g0 : w5.cell? ⟨g, 0, none⟩ = some (.string k.op) := HO.out.cellAt 0 (by simp)
      have g1 : w5.cell? ⟨g, 1, none⟩ = some (.int .i64 k.a) := HO.out.cellAt 1 (by simp)
      have g2 : w5.cell? ⟨g, 2, none⟩ = some (.int .i64 k.b) := HO.out.cellAt 2 (by simp)
      have g3 : w5.cell? ⟨g, 3, none⟩ = some (.slice k.s.A k.s.n k.s.c) := HO.out.cellAt 3 (by simp)
      have HQ : Hid (jP m (N1 + 2) false ts st = .ok k.core r s) := by
       show _ = _
       rw [HJ.out, HE.out]
       rfl
      clear HJ HE
      dsimp only [List.length_cons, List.length_nil, Nat.zero_add] at *
      go_wp2
      have HX := four_laid HB.out (.string k.op) (.int .i64 k.a) (.int .i64 k.b) (.slice k.s.A k.s.n k.s.c)
      have PX := HP.out.four HB.out hpl (.string k.op) (.int .i64 k.a) (.int .i64 k.b) (.slice k.s.A k.s.n k.s.c)
      have GX := HG.out.four (Nat.le_refl _) (.string k.op) (.int .i64 k.a) (.int .i64 k.b) (.slice k.s.A k.s.n k.s.c)
      have KX := HK.out.far (four_self w5 W.heap.size (.string k.op) (.int .i64 k.a) (.int .i64 k.b) (.slice k.s.A k.s.n k.s.c))
      generalize (((w5.setCell ⟨W.heap.size, 0, none⟩ (.string k.op)).setCell ⟨W.heap.size, 1, none⟩ (.int .i64 k.a)).setCell ⟨W.heap.size, 2, none⟩ (.int .i64 k.b)).setCell ⟨W.heap.size, 3, none⟩ (.slice k.s.A k.s.n k.s.c) = X at *
      have x0 : X.cell? ⟨W.heap.size, 0, none⟩ = some (.string k.op) := HX.cell 0
      have x1 : X.cell? ⟨W.heap.size, 1, none⟩ = some (.int .i64 k.a) := HX.cell 1
      have x2 : X.cell? ⟨W.heap.size, 2, none⟩ = some (.int .i64 k.b) := HX.cell 2
      have x3 : X.cell? ⟨W.heap.size, 3, none⟩ = some (.slice k.s.A k.s.n k.s.c) := HX.cell 3
      refine bodyPost_ret (v := .agg #[.string k.op, .int .i64 k.a, .int .i64 k.b, .slice k.s.A k.s.n k.s.c]) (by simp [results, Tryz.results113, go_sem, x0, x1, x2, x3]) rfl ?_
      rw [HQ.out]
      exact ⟨k, rfl, rfl, (KX.each k (List.mem_cons_self ..)).mono fun b _ hb => Nat.le_of_lt hb.1, PX, GX⟩
     ·have HQ : Hid (jP m (N1 + 2) false ts st = .ok (.node sAnd 0 0 (MkM.coreL ks)) r s) := by
       show _ = _
       rw [HJ.out, HE.out]
       exact PR.joined_more (by rw [coreL_len]; exact h1)
      have hL8 : ks.length ≤ 8192 := by omega
      have hne1 : ((ks.length : Int) == 1) = false := by simp; omega
      clear HJ HE
      have HL9 := Lib.hid (rfl : ks.length = ks.length)
      generalize hkl : ks.length = kl at *
      go_wp2
      have HX := four_laid HB.out (.string ⟨#[97, 110, 100]⟩) (.int .i64 0) (.int .i64 0) (.slice (some ⟨g, 0, none⟩) kl cap)
      have PX := HP.out.four HB.out hpl (.string ⟨#[97, 110, 100]⟩) (.int .i64 0) (.int .i64 0) (.slice (some ⟨g, 0, none⟩) kl cap)
      have GX := HG.out.four (Nat.le_refl _) (.string ⟨#[97, 110, 100]⟩) (.int .i64 0) (.int .i64 0) (.slice (some ⟨g, 0, none⟩) kl cap)
      have KX := HK.out.far (four_self w5 W.heap.size (.string ⟨#[97, 110, 100]⟩) (.int .i64 0) (.int .i64 0) (.slice (some ⟨g, 0, none⟩) kl cap))
      have OX := HO.out.kept (four_self w5 W.heap.size (.string ⟨#[97, 110, 100]⟩) (.int .i64 0) (.int .i64 0) (.slice (some ⟨g, 0, none⟩) kl cap)) (.inr (by simpa [Value.ownBlock] using Ne.symm hgne))
      generalize (((w5.setCell ⟨W.heap.size, 0, none⟩ (.string ⟨#[97, 110, 100]⟩)).setCell ⟨W.heap.size, 1, none⟩ (.int .i64 0)).setCell ⟨W.heap.size, 2, none⟩ (.int .i64 0)).setCell ⟨W.heap.size, 3, none⟩ (.slice (some ⟨g, 0, none⟩) kl cap) = X at *
      have x0 : X.cell? ⟨W.heap.size, 0, none⟩ = some (.string ⟨#[97, 110, 100]⟩) := HX.cell 0
      have x1 : X.cell? ⟨W.heap.size, 1, none⟩ = some (.int .i64 0) := HX.cell 1
      have x2 : X.cell? ⟨W.heap.size, 2, none⟩ = some (.int .i64 0) := HX.cell 2
      have x3 : X.cell? ⟨W.heap.size, 3, none⟩ = some (.slice (some ⟨g, 0, none⟩) kl cap) := HX.cell 3
      refine bodyPost_ret (v := .agg #[.string ⟨#[97, 110, 100]⟩, .int .i64 0, .int .i64 0, .slice (some ⟨g, 0, none⟩) kl cap]) (by simp [results, Tryz.results113, go_sem, x0, x1, x2, x3]) rfl ?_
      rw [HQ.out]
      refine ⟨⟨sAnd, 0, 0, ks, ⟨some ⟨g, 0, none⟩, kl, cap⟩⟩, rfl, rfl, .mk _ _ _ _ _ ?_ hkl.symm (by dsimp only; omega) (by decide) ⟨by decide, by decide⟩ ⟨by decide, by decide⟩ fun k hk => (KX.each k hk).mono fun b _ hb => Nat.le_of_lt hb.1, PX, GX⟩
      exact (PRow.of_own OX).mono fun b _ hb => hb.2
    ·obtain ⟨t1, r', rfl⟩ := head_cons hh
     obtain ⟨n', rfl⟩ : ∃ n', n = n' + 1 := ⟨n - 1, by simp at hfuel; omega⟩
     have KA := Lib.hid (accept_yes 0 sAnd hP.rd (by rw [isB_word _ _ (by decide)]; exact hh))
     clear hown hkids hP hG hB HO1 HM1 HP1 HG1 HB1 HL HMc HM
     go_wp2_with fail
     refine KA.out.mono ?_
     rintro e w2 ⟨rfl, hr2, hg2⟩
     rw [List.tail_cons] at hr2
     have hP2 := HP.out.read hg2 hr2 (fun _ ht => List.mem_cons_of_mem _ ht)
     have hG2 := HG.out.trans (.of_r hg2)
     have KR := Lib.hid (hR.out n' (by omega) w2 r' s hG2 hP2 (by simp at hfuel; omega))
     have hgood := elem_good m false n' r' s
     have HO2 := Lib.hid (HO.out.kept hg2 (.inr (by simp [Value.ownBlock]; omega)))
     have HK2 := Lib.hid (HK.out.gr2 (.of_r (p := pb) hg2) (by omega) hpl)
     have HB2 := Lib.hid (HB.out.grown hg2 (by simp; omega))
     have HG2 := Lib.hid hG2
     have hs2 := hg2.size
     clear KA hr2 hg2 hP2 hG2 HP HG HB HO HK hR
     cases he : elemP m false n' r' s with
     | bad x =>
       have HQ : Hid (jP m (N1 + 2) false ts st = .bad x) := by
        show _ = _
        rw [HJ.out, ← hmore, more_bad hh he]
        rfl
       rw [he] at KR
       clear HJ he hmore hgood
       go_wp2_with fail
       refine KR.out.mono ?_
       rintro e wz ⟨rfl, hgz⟩
       refine ⟨rfl, ?_⟩
       rw [HQ.out]
       exact ⟨rfl, HG2.out.trans hgz⟩
     | ok k2 r2 s2 =>
       have HM := Lib.hid ((more_ok (ks := MkM.coreL ks) hh he).symm.trans hmore)
       rw [he] at KR hgood
       have hr2 := hgood.1
       clear he hmore hgood hh
       go_wp2_with fail
       refine KR.out.mono ?_
       rintro e w3 ⟨M2, rfl, hMc, hMo, hP3, hG3⟩
       have hs3 := hG3.size
       have y3 : Below w3.heap.size w3 (w3.alloc (.cells #[.string M2.op, .int .i64 M2.a, .int .i64 M2.b, .slice M2.s.A M2.s.n M2.s.c] 49)) := (Below.refl _ _).alloc (Nat.le_refl _) _
       have HP4 := Lib.hid (hP3.below y3)
       have HG4 := Lib.hid ((HG2.out.trans hG3).trans (.of_below y3))
       have HB4 := Lib.hid ((HB2.out.gr2 hG3 (by omega) (by omega)).alloc (.cells #[.string M2.op, .int .i64 M2.a, .int .i64 M2.b, .slice M2.s.A M2.s.n M2.s.c] 49))
       have HK4 := Lib.hid ((HK2.out.gr2 hG3 (by omega) hpl).below y3)
       have HO4 := Lib.hid ((own_gr2 HO2.out hG3 (by omega) (by omega)).alloc (.cells #[.string M2.op, .int .i64 M2.a, .int .i64 M2.b, .slice M2.s.A M2.s.n M2.s.c] 49))
       have HM4 := Lib.hid ((hMo.mono (Q := fun b => W.heap.size < b ∧ b ≠ g) fun b _ hb => ⟨by omega, by omega⟩).bel y3)
       have HMc := Lib.hid hMc
       have HC : Hid (MkM.coreL (ks ++ [M2]) = MkM.coreL ks ++ [k2]) := by show _ = _; rw [coreL_map, coreL_map, List.map_append, ← hMc]; rfl
       have hlen2 := hP3.rd.left
       clear KR hMc hMo hP3 hG3 HO2 HK2 HB2 HG2 y3
       have hkl : ks.length ≤ 8192 := by omega
       go_wp2_with (at_builtin; refine wpList_append_own_at _ rfl _ _ 47 rfl W.heap.size 49 i0 (.agg #[.string ⟨#[]⟩, .int .i64 0, .int .i64 0, .slice none 0 0]) 4 56 Tryz.underlying47 hi hz0 hz1 hz2 rfl (by decide) _ ks.length (mcells ks) rfl HO4.out ⟨w3.heap.size, 0, none⟩ 1 1 [.string M2.op, .int .i64 M2.a, .int .i64 M2.b, .slice M2.s.A M2.s.n M2.s.c] rfl rfl (new4 _ _ _ _ _ _) (one4m M2) (by unfold maxLen; omega) (by omega) (by simp; omega) ?_)
       intro v' w4 hown' hgrow _ hat
       obtain ⟨g', cap', rfl⟩ := ownsRow_succ hown'
       have hat' : g' = g ∨ g' = (w3.alloc (.cells #[.string M2.op, .int .i64 M2.a, .int .i64 M2.b, .slice M2.s.A M2.s.n M2.s.c] 49)).heap.size := by simpa [Value.ownBlock] using hat
       change World.grownBy _ w4 (some g) at hgrow
       have HK5 := Lib.hid (HK4.out.next HM4.out hgrow hat')
       have HP5 := Lib.hid (HP4.out.far hgrow (by omega) (own_not HO4.out (by decide)) (own_not HO4.out (by decide)) (own_not HO4.out (by decide)))
       have HG5 := Lib.hid (HG4.out.own hgrow hgW)
       have HB5 := Lib.hid (HB4.out.grown hgrow (by simp; omega))
       have HO5 := Lib.hid hown'
       have hlen5 := HP5.out.rd.left
       have hgs5 : W.heap.size < g' := by
        rcases hat' with rfl | h
        ·exact hgs
        ·rw [h, World.size_alloc]; omega
       clear hown' hgrow hat hat' HK4 HP4 HG4 HB4 HO4 HM4
       go_wp2_with fail
       go_roundw
       case rel => exact ⟨ks ++ [M2], g', cap', n', r2, s2, by simp, by rw [mcells_snoc, List.length_append]; exact HO5.out, HK5.out, HP5.out, HG5.out, HB5.out, by omega, by simp at hfuel; omega, by rw [HC.out]; exact HM.out, by simp at hcnt ⊢; omega, by simp, hgs5⟩
       case measure => rw [hlen5, hlen]; simp; omega
set_option maxRecDepth 100000 in
set_option maxHeartbeats 4000000 in
theorem join_or {W : World} {rb pb : Nat} {bx : Nat} {m : CatM} {len : Int} (N : Nat)
 (hR : Hid (∀ n, n < N → ∀ W' ts st, Gr2 rb pb W W' → PAt W' rb pb m ts len st → 5 * ts.length + 3 ≤ n → Calls Tryz.prog 114 #[.pointer (some ⟨bx, 0, none⟩)] W' (PPost W' rb pb m len (elemP m true n ts st))))
 {ts : List Tok} {st : PSt} (h : PAt W rb pb m ts len st) (hN : 5 * ts.length + 5 ≤ N) :
 Calls Tryz.prog 113 #[.pointer (some ⟨pb, 0, none⟩), .string ⟨#[111, 114]⟩, .func (.func 114) #[] #[.pointer (some ⟨bx, 0, none⟩)]] W (PPost W rb pb m len (jP m N true ts st)) := by
 obtain ⟨N1, rfl⟩ : ∃ N1, N = N1 + 2 := ⟨N - 2, by omega⟩
 have HJ : Hid (jP m (N1 + 2) true ts st = (lP m (N1 + 1) true ts st).joined sOr) := rfl
 have y : Below W.heap.size W (W.alloc (.cells #[.string ⟨#[]⟩, .int .i64 0, .int .i64 0, .slice none 0 0] 49)) := (Below.refl _ _).alloc (Nat.le_refl _) _
 have HB0 := Lib.hid (Bk.new W 49 [.string ⟨#[]⟩, .int .i64 0, .int .i64 0, .slice none 0 0])
 have K0 := Lib.hid (hR.out N1 (by omega) _ ts st (.of_below y) (h.below y) (by omega))
 have hg0 := elem_good m true N1 ts st
 have hfew := h.rd.few
 have hpl := h.plt
 have hlt := h.lt
 have hq := enters114
 obtain ⟨i0, hi, hz0, hz1, hz2⟩ := info_parts info49
 clear h
 cases he : elemP m true N1 ts st with
 | bad x =>
   rw [list_bad he] at HJ
   rw [he] at K0
   have HQ : Hid (jP m (N1 + 2) true ts st = .bad x) := HJ.out
   clear HJ he hg0 hR
   go_enter Tryz.func113, Tryz.ntmps113
   go_wp2_with fail
   refine K0.out.mono ?_
   rintro e wz ⟨rfl, hgz⟩
   refine ⟨rfl, ?_⟩
   rw [HQ.out]
   exact ⟨rfl, (Gr2.of_below y).trans hgz⟩
 | ok k0 r0 st0 =>
   have HL := Lib.hid (list_ok he)
   rw [he] at K0 hg0
   clear he
   have hr0 := hg0.1
   go_enter Tryz.func113, Tryz.ntmps113
   go_wp2_with fail
   refine K0.out.mono ?_
   rintro e w1 ⟨M, rfl, hMc, hMo, hP1, hG1⟩
   have hs1 := hG1.size
   rw [World.size_alloc] at hs1
   have y1 : Below w1.heap.size w1 (w1.alloc (.cells #[.string M.op, .int .i64 M.a, .int .i64 M.b, .slice M.s.A M.s.n M.s.c] 49)) := (Below.refl _ _).alloc (Nat.le_refl _) _
   have HP1 := Lib.hid (hP1.below y1)
   have HG1 := Lib.hid (((Gr2.of_below (r := rb) (p := pb) y).trans hG1).trans (.of_below y1))
   have HB1 := Lib.hid ((HB0.out.gr2 hG1 (by omega) (by omega)).alloc (.cells #[.string M.op, .int .i64 M.a, .int .i64 M.b, .slice M.s.A M.s.n M.s.c] 49))
   have HM1 := Lib.hid ((hMo.lt.bel y1).mono fun b _ hb => show W.heap.size < b ∧ b ≠ w1.heap.size from ⟨by have := hb.1; rw [World.size_alloc] at this; omega, by omega⟩)
   have HO1 : Hid ((w1.alloc (.cells #[.string M.op, .int .i64 M.a, .int .i64 M.b, .slice M.s.A M.s.n M.s.c] 49)).ownsRow W.heap.size 49 4 (.slice (some ⟨w1.heap.size, 0, none⟩) 1 1) 1 (mcells [M])) := Lib.hid (by
    have := World.ownsRow_lit (base := W.heap.size) (e := 49) (size := 4) w1 #[.string M.op, .int .i64 M.a, .int .i64 M.b, .slice M.s.A M.s.n M.s.c] 1 (by omega) (by decide) rfl
    exact this)
   have HMc := Lib.hid hMc
   clear hMc hMo hP1 hG1 K0 hg0 HB0 y1
   go_wp2_with fail
   go_loopw [7] (fun v wr => ∃ (ks : List MkM) (g cap n : Nat) (r : List Tok) (s : PSt), v = .slice (some ⟨g, 0, none⟩) ks.length cap ∧ wr.ownsRow W.heap.size 49 4 (.slice (some ⟨g, 0, none⟩) ks.length cap) ks.length (mcells ks) ∧ Kids wr W.heap.size g ks ∧ PAt wr rb pb m r len s ∧ Gr2 rb pb W wr ∧ Bk wr W.heap.size 49 [.string ⟨#[]⟩, .int .i64 0, .int .i64 0, .slice none 0 0] ∧ n ≤ N1 ∧ 5 * r.length + 3 ≤ n ∧ moreL m true n (MkM.coreL ks) r s = lP m (N1 + 1) true ts st ∧ ks.length + r.length ≤ 8192 ∧ 1 ≤ ks.length ∧ W.heap.size < g) (fun _ wr => rdLeft wr rb)
   case atStart => exact ⟨[M], _, 1, N1, r0, st0, rfl, HO1.out, ⟨fun k hk => by
    obtain rfl : k = M := by simpa using hk
    exact HM1.out⟩, HP1.out, HG1.out, HB1.out, Nat.le_refl _, by omega, by
    show moreL m true N1 [M.core] r0 st0 = _
    rw [HMc.out]
    exact HL.out.symm, by simp; omega, by simp, by omega⟩
   case round =>
    obtain ⟨ks, g, cap, n, r, s, rfl, hown, hkids, hP, hG, hB, hn, hfuel, hmore, hcnt, hone, hgs⟩ := hrel
    have hlen := hP.rd.left
    have HO := Lib.hid hown
    have HK := Lib.hid hkids
    have HP := Lib.hid hP
    have HG := Lib.hid hG
    have HB := Lib.hid hB
    have HM := Lib.hid hmore
    have hpl2 := hP.plt
    have p0 := hP.r0
    have hsz := hG.size
    obtain ⟨hgW, hgl, _⟩ := own_block hown
    cases hh : headB r 0 sOr
    ·-- the end
     have KA := Lib.hid (accept_no 0 sOr hP.rd (by rw [isB_word _ _ (by decide)]; exact hh))
     have HE : Hid (lP m (N1 + 1) true ts st = .ok (MkM.coreL ks) r s) := hmore.symm.trans (more_end hh)
     clear hown hkids hP hG hB hmore hh HM HO1 HM1 HP1 HG1 HB1 HL hR HMc
     go_wp2_with fail
     refine KA.out.mono ?_
     rintro e w5 ⟨rfl, rfl⟩
     clear KA
     have z0 : w5.cell? ⟨W.heap.size, 0, none⟩ = some (.string ⟨#[]⟩) := HB.out.cell 0
     have z1 : w5.cell? ⟨W.heap.size, 1, none⟩ = some (.int .i64 0) := HB.out.cell 1
     have z2 : w5.cell? ⟨W.heap.size, 2, none⟩ = some (.int .i64 0) := HB.out.cell 2
     have z3 : w5.cell? ⟨W.heap.size, 3, none⟩ = some (.slice none 0 0) := HB.out.cell 3
     have fz0 := HB.out.frozen 0
     have fz1 := HB.out.frozen 1
     have fz2 := HB.out.frozen 2
     have fz3 := HB.out.frozen 3
     have hrl := HB.out.lt
     have hgne : W.heap.size ≠ g := by omega
     by_cases h1 : ks.length = 1
     ·obtain ⟨k, rfl⟩ := List.length_eq_one_iff.1 h1
      have g0 : w5.cell? ⟨g, 0, none⟩ = some (.string k.op) := HO.out.cellAt 0 (by simp)
      have g1 : w5.cell? ⟨g, 1, none⟩ = some (.int .i64 k.a) := HO.out.cellAt 1 (by simp)
      have g2 : w5.cell? ⟨g, 2, none⟩ = some (.int .i64 k.b) := HO.out.cellAt 2 (by simp)
      have g3 : w5.cell? ⟨g, 3, none⟩ = some (.slice k.s.A k.s.n k.s.c) := HO.out.cellAt 3 (by simp)
      have HQ : Hid (jP m (N1 + 2) true ts st = .ok k.core r s) := by
       show _ = _
       rw [HJ.out, HE.out]
       rfl
      clear HJ HE
      dsimp only [List.length_cons, List.length_nil, Nat.zero_add] at *
      go_wp2
      have HX := four_laid HB.out (.string k.op) (.int .i64 k.a) (.int .i64 k.b) (.slice k.s.A k.s.n k.s.c)
      have PX := HP.out.four HB.out hpl (.string k.op) (.int .i64 k.a) (.int .i64 k.b) (.slice k.s.A k.s.n k.s.c)
      have GX := HG.out.four (Nat.le_refl _) (.string k.op) (.int .i64 k.a) (.int .i64 k.b) (.slice k.s.A k.s.n k.s.c)
      have KX := HK.out.far (four_self w5 W.heap.size (.string k.op) (.int .i64 k.a) (.int .i64 k.b) (.slice k.s.A k.s.n k.s.c))
      generalize (((w5.setCell ⟨W.heap.size, 0, none⟩ (.string k.op)).setCell ⟨W.heap.size, 1, none⟩ (.int .i64 k.a)).setCell ⟨W.heap.size, 2, none⟩ (.int .i64 k.b)).setCell ⟨W.heap.size, 3, none⟩ (.slice k.s.A k.s.n k.s.c) = X at *
      have x0 : X.cell? ⟨W.heap.size, 0, none⟩ = some (.string k.op) := HX.cell 0
      have x1 : X.cell? ⟨W.heap.size, 1, none⟩ = some (.int .i64 k.a) := HX.cell 1
      have x2 : X.cell? ⟨W.heap.size, 2, none⟩ = some (.int .i64 k.b) := HX.cell 2
      have x3 : X.cell? ⟨W.heap.size, 3, none⟩ = some (.slice k.s.A k.s.n k.s.c) := HX.cell 3
      refine bodyPost_ret (v := .agg #[.string k.op, .int .i64 k.a, .int .i64 k.b, .slice k.s.A k.s.n k.s.c]) (by simp [results, Tryz.results113, go_sem, x0, x1, x2, x3]) rfl ?_
      rw [HQ.out]
      exact ⟨k, rfl, rfl, (KX.each k (List.mem_cons_self ..)).mono fun b _ hb => Nat.le_of_lt hb.1, PX, GX⟩
     ·have HQ : Hid (jP m (N1 + 2) true ts st = .ok (.node sOr 0 0 (MkM.coreL ks)) r s) := by
       show _ = _
       rw [HJ.out, HE.out]
       exact PR.joined_more (by rw [coreL_len]; exact h1)
      have hL8 : ks.length ≤ 8192 := by omega
      have hne1 : ((ks.length : Int) == 1) = false := by simp; omega
      clear HJ HE
      have HL9 := Lib.hid (rfl : ks.length = ks.length)
      generalize hkl : ks.length = kl at *
      go_wp2
      have HX := four_laid HB.out (.string ⟨#[111, 114]⟩) (.int .i64 0) (.int .i64 0) (.slice (some ⟨g, 0, none⟩) kl cap)
      have PX := HP.out.four HB.out hpl (.string ⟨#[111, 114]⟩) (.int .i64 0) (.int .i64 0) (.slice (some ⟨g, 0, none⟩) kl cap)
      have GX := HG.out.four (Nat.le_refl _) (.string ⟨#[111, 114]⟩) (.int .i64 0) (.int .i64 0) (.slice (some ⟨g, 0, none⟩) kl cap)
      have KX := HK.out.far (four_self w5 W.heap.size (.string ⟨#[111, 114]⟩) (.int .i64 0) (.int .i64 0) (.slice (some ⟨g, 0, none⟩) kl cap))
      have OX := HO.out.kept (four_self w5 W.heap.size (.string ⟨#[111, 114]⟩) (.int .i64 0) (.int .i64 0) (.slice (some ⟨g, 0, none⟩) kl cap)) (.inr (by simpa [Value.ownBlock] using Ne.symm hgne))
      generalize (((w5.setCell ⟨W.heap.size, 0, none⟩ (.string ⟨#[111, 114]⟩)).setCell ⟨W.heap.size, 1, none⟩ (.int .i64 0)).setCell ⟨W.heap.size, 2, none⟩ (.int .i64 0)).setCell ⟨W.heap.size, 3, none⟩ (.slice (some ⟨g, 0, none⟩) kl cap) = X at *
      have x0 : X.cell? ⟨W.heap.size, 0, none⟩ = some (.string ⟨#[111, 114]⟩) := HX.cell 0
      have x1 : X.cell? ⟨W.heap.size, 1, none⟩ = some (.int .i64 0) := HX.cell 1
      have x2 : X.cell? ⟨W.heap.size, 2, none⟩ = some (.int .i64 0) := HX.cell 2
      have x3 : X.cell? ⟨W.heap.size, 3, none⟩ = some (.slice (some ⟨g, 0, none⟩) kl cap) := HX.cell 3
      refine bodyPost_ret (v := .agg #[.string ⟨#[111, 114]⟩, .int .i64 0, .int .i64 0, .slice (some ⟨g, 0, none⟩) kl cap]) (by simp [results, Tryz.results113, go_sem, x0, x1, x2, x3]) rfl ?_
      rw [HQ.out]
      refine ⟨⟨sOr, 0, 0, ks, ⟨some ⟨g, 0, none⟩, kl, cap⟩⟩, rfl, rfl, .mk _ _ _ _ _ ?_ hkl.symm (by dsimp only; omega) (by decide) ⟨by decide, by decide⟩ ⟨by decide, by decide⟩ fun k hk => (KX.each k hk).mono fun b _ hb => Nat.le_of_lt hb.1, PX, GX⟩
      exact (PRow.of_own OX).mono fun b _ hb => hb.2
    ·obtain ⟨t1, r', rfl⟩ := head_cons hh
     obtain ⟨n', rfl⟩ : ∃ n', n = n' + 1 := ⟨n - 1, by simp at hfuel; omega⟩
     have KA := Lib.hid (accept_yes 0 sOr hP.rd (by rw [isB_word _ _ (by decide)]; exact hh))
     clear hown hkids hP hG hB HO1 HM1 HP1 HG1 HB1 HL HMc HM
     go_wp2_with fail
     refine KA.out.mono ?_
     rintro e w2 ⟨rfl, hr2, hg2⟩
     rw [List.tail_cons] at hr2
     have hP2 := HP.out.read hg2 hr2 (fun _ ht => List.mem_cons_of_mem _ ht)
     have hG2 := HG.out.trans (.of_r hg2)
     have KR := Lib.hid (hR.out n' (by omega) w2 r' s hG2 hP2 (by simp at hfuel; omega))
     have hgood := elem_good m true n' r' s
     have HO2 := Lib.hid (HO.out.kept hg2 (.inr (by simp [Value.ownBlock]; omega)))
     have HK2 := Lib.hid (HK.out.gr2 (.of_r (p := pb) hg2) (by omega) hpl)
     have HB2 := Lib.hid (HB.out.grown hg2 (by simp; omega))
     have HG2 := Lib.hid hG2
     have hs2 := hg2.size
     clear KA hr2 hg2 hP2 hG2 HP HG HB HO HK hR
     cases he : elemP m true n' r' s with
     | bad x =>
       have HQ : Hid (jP m (N1 + 2) true ts st = .bad x) := by
        show _ = _
        rw [HJ.out, ← hmore, more_bad hh he]
        rfl
       rw [he] at KR
       clear HJ he hmore hgood
       go_wp2_with fail
       refine KR.out.mono ?_
       rintro e wz ⟨rfl, hgz⟩
       refine ⟨rfl, ?_⟩
       rw [HQ.out]
       exact ⟨rfl, HG2.out.trans hgz⟩
     | ok k2 r2 s2 =>
       have HM := Lib.hid ((more_ok (ks := MkM.coreL ks) hh he).symm.trans hmore)
       rw [he] at KR hgood
       have hr2 := hgood.1
       clear he hmore hgood hh
       go_wp2_with fail
       refine KR.out.mono ?_
       rintro e w3 ⟨M2, rfl, hMc, hMo, hP3, hG3⟩
       have hs3 := hG3.size
       have y3 : Below w3.heap.size w3 (w3.alloc (.cells #[.string M2.op, .int .i64 M2.a, .int .i64 M2.b, .slice M2.s.A M2.s.n M2.s.c] 49)) := (Below.refl _ _).alloc (Nat.le_refl _) _
       have HP4 := Lib.hid (hP3.below y3)
       have HG4 := Lib.hid ((HG2.out.trans hG3).trans (.of_below y3))
       have HB4 := Lib.hid ((HB2.out.gr2 hG3 (by omega) (by omega)).alloc (.cells #[.string M2.op, .int .i64 M2.a, .int .i64 M2.b, .slice M2.s.A M2.s.n M2.s.c] 49))
       have HK4 := Lib.hid ((HK2.out.gr2 hG3 (by omega) hpl).below y3)
       have HO4 := Lib.hid ((own_gr2 HO2.out hG3 (by omega) (by omega)).alloc (.cells #[.string M2.op, .int .i64 M2.a, .int .i64 M2.b, .slice M2.s.A M2.s.n M2.s.c] 49))
       have HM4 := Lib.hid ((hMo.mono (Q := fun b => W.heap.size < b ∧ b ≠ g) fun b _ hb => ⟨by omega, by omega⟩).bel y3)
       have HMc := Lib.hid hMc
       have HC : Hid (MkM.coreL (ks ++ [M2]) = MkM.coreL ks ++ [k2]) := by show _ = _; rw [coreL_map, coreL_map, List.map_append, ← hMc]; rfl
       have hlen2 := hP3.rd.left
       clear KR hMc hMo hP3 hG3 HO2 HK2 HB2 HG2 y3
       have hkl : ks.length ≤ 8192 := by omega
       go_wp2_with (at_builtin; refine wpList_append_own_at _ rfl _ _ 47 rfl W.heap.size 49 i0 (.agg #[.string ⟨#[]⟩, .int .i64 0, .int .i64 0, .slice none 0 0]) 4 56 Tryz.underlying47 hi hz0 hz1 hz2 rfl (by decide) _ ks.length (mcells ks) rfl HO4.out ⟨w3.heap.size, 0, none⟩ 1 1 [.string M2.op, .int .i64 M2.a, .int .i64 M2.b, .slice M2.s.A M2.s.n M2.s.c] rfl rfl (new4 _ _ _ _ _ _) (one4m M2) (by unfold maxLen; omega) (by omega) (by simp; omega) ?_)
       intro v' w4 hown' hgrow _ hat
       obtain ⟨g', cap', rfl⟩ := ownsRow_succ hown'
       have hat' : g' = g ∨ g' = (w3.alloc (.cells #[.string M2.op, .int .i64 M2.a, .int .i64 M2.b, .slice M2.s.A M2.s.n M2.s.c] 49)).heap.size := by simpa [Value.ownBlock] using hat
       change World.grownBy _ w4 (some g) at hgrow
       have HK5 := Lib.hid (HK4.out.next HM4.out hgrow hat')
       have HP5 := Lib.hid (HP4.out.far hgrow (by omega) (own_not HO4.out (by decide)) (own_not HO4.out (by decide)) (own_not HO4.out (by decide)))
       have HG5 := Lib.hid (HG4.out.own hgrow hgW)
       have HB5 := Lib.hid (HB4.out.grown hgrow (by simp; omega))
       have HO5 := Lib.hid hown'
       have hlen5 := HP5.out.rd.left
       have hgs5 : W.heap.size < g' := by
        rcases hat' with rfl | h
        ·exact hgs
        ·rw [h, World.size_alloc]; omega
       clear hown' hgrow hat hat' HK4 HP4 HG4 HB4 HO4 HM4
       go_wp2_with fail
       go_roundw
       case rel => exact ⟨ks ++ [M2], g', cap', n', r2, s2, by simp, by rw [mcells_snoc, List.length_append]; exact HO5.out, HK5.out, HP5.out, HG5.out, HB5.out, by omega, by simp at hfuel; omega, by rw [HC.out]; exact HM.out, by simp at hcnt ⊢; omega, by simp, hgs5⟩
       case measure => rw [hlen5, hlen]; simp; omega
section
section
variable {W W2 w1 : World} {rb pb : Nat} {m : CatM} {ts : List Tok} {len : Int} {st : PSt} {M : MkM}
/-- A mark is laid into a new block. -/
theorem lay_mark {g : Nat} (hg : g < w1.heap.size) (hW : W.heap.size ≤ g) (hpl : pb < g) (hB : Bk w1 g 49 [.string ⟨#[]⟩, .int .i64 0, .int .i64 0, .slice none 0 0]) (h : M.Ok w1 49 (fun b => W.heap.size ≤ b ∧ b ≠ g)) (hP : PAt w1 rb pb m ts len st) (hG : Gr2 rb pb W w1) :
 M.Ok ((((w1.setCell ⟨g, 0, none⟩ (.string M.op)).setCell ⟨g, 1, none⟩ (.int .i64 M.a)).setCell ⟨g, 2, none⟩ (.int .i64 M.b)).setCell ⟨g, 3, none⟩ (.slice M.s.A M.s.n M.s.c)) 49 (fun b => W.heap.size ≤ b) ∧ PAt ((((w1.setCell ⟨g, 0, none⟩ (.string M.op)).setCell ⟨g, 1, none⟩ (.int .i64 M.a)).setCell ⟨g, 2, none⟩ (.int .i64 M.b)).setCell ⟨g, 3, none⟩ (.slice M.s.A M.s.n M.s.c)) rb pb m ts len st ∧ Gr2 rb pb W ((((w1.setCell ⟨g, 0, none⟩ (.string M.op)).setCell ⟨g, 1, none⟩ (.int .i64 M.a)).setCell ⟨g, 2, none⟩ (.int .i64 M.b)).setCell ⟨g, 3, none⟩ (.slice M.s.A M.s.n M.s.c)) ∧ Bk ((((w1.setCell ⟨g, 0, none⟩ (.string M.op)).setCell ⟨g, 1, none⟩ (.int .i64 M.a)).setCell ⟨g, 2, none⟩ (.int .i64 M.b)).setCell ⟨g, 3, none⟩ (.slice M.s.A M.s.n M.s.c)) g 49 [.string M.op, .int .i64 M.a, .int .i64 M.b, .slice M.s.A M.s.n M.s.c] :=
 ⟨(h.grown (four_self w1 g (.string M.op) (.int .i64 M.a) (.int .i64 M.b) (.slice M.s.A M.s.n M.s.c)) fun b hb => by simp; exact hb.2).mono fun b _ hb => hb.1, hP.four hB hpl (.string M.op) (.int .i64 M.a) (.int .i64 M.b) (.slice M.s.A M.s.n M.s.c), hG.four hW (.string M.op) (.int .i64 M.a) (.int .i64 M.b) (.slice M.s.A M.s.n M.s.c), four_laid hB (.string M.op) (.int .i64 M.a) (.int .i64 M.b) (.slice M.s.A M.s.n M.s.c)⟩
theorem PPost.below {p : PR Mk} {e : Ending} {w' : World} (h : PPost W2 rb pb m len p e w') (y : Below W.heap.size W W2) : PPost W rb pb m len p e w' := by
 cases p with
 | bad x => exact ⟨h.1, (Gr2.of_below y).trans h.2⟩
 | ok k r st =>
   obtain ⟨M, h1, h2, h3, h4, h5⟩ := h
   exact ⟨M, h1, h2, h3.mono fun b _ hb => Nat.le_trans y.size hb, h4, (Gr2.of_below y).trans h5⟩
end
set_option maxRecDepth 100000 in
set_option maxHeartbeats 2000000 in
theorem read1_any {W : World} {rb pb bx : Nat} {m : CatM} {ts : List Tok} {len : Int} {st : PSt} {p : PR Mk} (h : PAt W rb pb m ts len st) (hb : Bk W bx 140 [.pointer (some ⟨pb, 0, none⟩)])
 (hK : Hid (Calls Tryz.prog 113 #[.pointer (some ⟨pb, 0, none⟩), .string ⟨#[97, 110, 100]⟩, .func (.func 115) #[.pointer (some ⟨pb, 0, none⟩)] #[]] (W.alloc (.cells #[.string ⟨#[]⟩, .int .i64 0, .int .i64 0, .slice none 0 0] 49)) (PPost (W.alloc (.cells #[.string ⟨#[]⟩, .int .i64 0, .int .i64 0, .slice none 0 0] 49)) rb pb m len p))) :
 Calls Tryz.prog 114 #[.pointer (some ⟨bx, 0, none⟩)] W (PPost W rb pb m len p) := by
 have hmf := hmfN
 have y : Below W.heap.size W (W.alloc (.cells #[.string ⟨#[]⟩, .int .i64 0, .int .i64 0, .slice none 0 0] 49)) := (Below.refl _ _).alloc (Nat.le_refl _) _
 have B0 := Bk.new W 49 [.string ⟨#[]⟩, .int .i64 0, .int .i64 0, .slice none 0 0]
 have c0 : W.cell? ⟨bx, 0, none⟩ = some (.pointer (some ⟨pb, 0, none⟩)) := hb.cell 0
 have hl := hb.lt
 have hpl := h.plt
 have hlt := h.lt
 clear h hb
 go_enter Tryz.func114, Tryz.ntmps114
 go_wp2_with fail
 refine hK.out.mono ?_
 intro e w1 hpost
 clear hK
 cases p with
 | bad x =>
   obtain ⟨rfl, hg⟩ := hpost
   exact ⟨rfl, rfl, (Gr2.of_below y).trans hg⟩
 | ok k r st1 =>
   obtain ⟨M, rfl, rfl, hM, hP, hG⟩ := hpost
   have B1 := B0.gr2 hG (by omega) (by omega)
   have HB := Lib.hid B1
   have HM := Lib.hid (hM.mono (Q := fun b => W.heap.size ≤ b ∧ b ≠ W.heap.size) fun b _ hb => by rw [World.size_alloc] at hb; exact ⟨by omega, by omega⟩)
   have HP := Lib.hid hP
   have HG := Lib.hid ((Gr2.of_below (r := rb) (p := pb) y).trans hG)
   have z0 : w1.cell? ⟨W.heap.size, 0, none⟩ = some (.string ⟨#[]⟩) := B1.cell 0
   have z1 : w1.cell? ⟨W.heap.size, 1, none⟩ = some (.int .i64 0) := B1.cell 1
   have z2 : w1.cell? ⟨W.heap.size, 2, none⟩ = some (.int .i64 0) := B1.cell 2
   have z3 : w1.cell? ⟨W.heap.size, 3, none⟩ = some (.slice none 0 0) := B1.cell 3
   have fz0 := B1.frozen 0
   have fz1 := B1.frozen 1
   have fz2 := B1.frozen 2
   have fz3 := B1.frozen 3
   have hzl := B1.lt
   clear hM hP hG B1 B0 y c0
   go_wp2
   have hX := lay_mark hzl (Nat.le_refl _) hpl HB.out HM.out HP.out HG.out
   generalize (((w1.setCell ⟨W.heap.size, 0, none⟩ (.string M.op)).setCell ⟨W.heap.size, 1, none⟩ (.int .i64 M.a)).setCell ⟨W.heap.size, 2, none⟩ (.int .i64 M.b)).setCell ⟨W.heap.size, 3, none⟩ (.slice M.s.A M.s.n M.s.c) = X at *
   have x0 : X.cell? ⟨W.heap.size, 0, none⟩ = some (.string M.op) := hX.2.2.2.cell 0
   have x1 : X.cell? ⟨W.heap.size, 1, none⟩ = some (.int .i64 M.a) := hX.2.2.2.cell 1
   have x2 : X.cell? ⟨W.heap.size, 2, none⟩ = some (.int .i64 M.b) := hX.2.2.2.cell 2
   have x3 : X.cell? ⟨W.heap.size, 3, none⟩ = some (.slice M.s.A M.s.n M.s.c) := hX.2.2.2.cell 3
   refine bodyPost_ret (v := .agg #[.string M.op, .int .i64 M.a, .int .i64 M.b, .slice M.s.A M.s.n M.s.c]) (by simp [results, Tryz.results114, go_sem, x0, x1, x2, x3]) rfl ?_
   exact ⟨M, rfl, rfl, hX.1, hX.2.1, hX.2.2.1⟩
set_option maxRecDepth 100000 in
set_option maxHeartbeats 2000000 in
theorem read_any {W : World} {rb pb : Nat} {m : CatM} {ts : List Tok} {len : Int} {st : PSt} {p : PR Mk} (h : PAt W rb pb m ts len st)
 (hK : Hid (Calls Tryz.prog 113 #[.pointer (some ⟨pb, 0, none⟩), .string ⟨#[111, 114]⟩, .func (.func 114) #[] #[.pointer (some ⟨W.heap.size, 0, none⟩)]] ((W.alloc (.cells #[.pointer (some ⟨pb, 0, none⟩)] 140)).alloc (.cells #[.string ⟨#[]⟩, .int .i64 0, .int .i64 0, .slice none 0 0] 49)) (PPost ((W.alloc (.cells #[.pointer (some ⟨pb, 0, none⟩)] 140)).alloc (.cells #[.string ⟨#[]⟩, .int .i64 0, .int .i64 0, .slice none 0 0] 49)) rb pb m len p))) :
 Calls Tryz.prog 74 #[.pointer (some ⟨pb, 0, none⟩)] W (PPost W rb pb m len p) := by
 have hmf := hmfN
 have y : Below W.heap.size W ((W.alloc (.cells #[.pointer (some ⟨pb, 0, none⟩)] 140)).alloc (.cells #[.string ⟨#[]⟩, .int .i64 0, .int .i64 0, .slice none 0 0] 49)) := ((Below.refl _ _).alloc (Nat.le_refl _) _).alloc (by simp) _
 have B0 := Bk.new (W.alloc (.cells #[.pointer (some ⟨pb, 0, none⟩)] 140)) 49 [.string ⟨#[]⟩, .int .i64 0, .int .i64 0, .slice none 0 0]
 rw [World.size_alloc] at B0
 have hpl := h.plt
 have hlt := h.lt
 clear h
 go_enter Tryz.func74, Tryz.ntmps74
 go_wp2_with fail
 refine hK.out.mono ?_
 intro e w1 hpost
 clear hK
 cases p with
 | bad x =>
   obtain ⟨rfl, hg⟩ := hpost
   exact ⟨rfl, rfl, (Gr2.of_below y).trans hg⟩
 | ok k r st1 =>
   obtain ⟨M, rfl, rfl, hM, hP, hG⟩ := hpost
   have B1 := B0.gr2 hG (by omega) (by omega)
   have HB := Lib.hid B1
   have HM := Lib.hid (hM.mono (Q := fun b => W.heap.size ≤ b ∧ b ≠ W.heap.size + 1) fun b _ hb => by rw [World.size_alloc, World.size_alloc] at hb; exact ⟨by omega, by omega⟩)
   have HP := Lib.hid hP
   have HG := Lib.hid ((Gr2.of_below (r := rb) (p := pb) y).trans hG)
   have z0 : w1.cell? ⟨W.heap.size + 1, 0, none⟩ = some (.string ⟨#[]⟩) := B1.cell 0
   have z1 : w1.cell? ⟨W.heap.size + 1, 1, none⟩ = some (.int .i64 0) := B1.cell 1
   have z2 : w1.cell? ⟨W.heap.size + 1, 2, none⟩ = some (.int .i64 0) := B1.cell 2
   have z3 : w1.cell? ⟨W.heap.size + 1, 3, none⟩ = some (.slice none 0 0) := B1.cell 3
   have fz0 := B1.frozen 0
   have fz1 := B1.frozen 1
   have fz2 := B1.frozen 2
   have fz3 := B1.frozen 3
   have hzl := B1.lt
   clear hM hP hG B1 B0 y
   go_wp2
   have hX := lay_mark hzl (Nat.le_succ _) (Nat.lt_succ_of_lt hpl) HB.out HM.out HP.out HG.out
   generalize (((w1.setCell ⟨W.heap.size + 1, 0, none⟩ (.string M.op)).setCell ⟨W.heap.size + 1, 1, none⟩ (.int .i64 M.a)).setCell ⟨W.heap.size + 1, 2, none⟩ (.int .i64 M.b)).setCell ⟨W.heap.size + 1, 3, none⟩ (.slice M.s.A M.s.n M.s.c) = X at *
   have x0 : X.cell? ⟨W.heap.size + 1, 0, none⟩ = some (.string M.op) := hX.2.2.2.cell 0
   have x1 : X.cell? ⟨W.heap.size + 1, 1, none⟩ = some (.int .i64 M.a) := hX.2.2.2.cell 1
   have x2 : X.cell? ⟨W.heap.size + 1, 2, none⟩ = some (.int .i64 M.b) := hX.2.2.2.cell 2
   have x3 : X.cell? ⟨W.heap.size + 1, 3, none⟩ = some (.slice M.s.A M.s.n M.s.c) := hX.2.2.2.cell 3
   refine bodyPost_ret (v := .agg #[.string M.op, .int .i64 M.a, .int .i64 M.b, .slice M.s.A M.s.n M.s.c]) (by simp [results, Tryz.results74, go_sem, x0, x1, x2, x3]) rfl ?_
   exact ⟨M, rfl, rfl, hX.1, hX.2.1, hX.2.2.1⟩
end
def FactS (m : CatM) (len : Int) (rb pb n : Nat) : Prop := ∀ W ts st, PAt W rb pb m ts len st → 5 * ts.length + 1 ≤ n → Calls Tryz.prog 115 #[.pointer (some ⟨pb, 0, none⟩)] W (PPost W rb pb m len (fP m n ts st))
def And1S (m : CatM) (len : Int) (rb pb n : Nat) : Prop := ∀ W bx ts st, PAt W rb pb m ts len st → Bk W bx 140 [.pointer (some ⟨pb, 0, none⟩)] → 5 * ts.length + 3 ≤ n → Calls Tryz.prog 114 #[.pointer (some ⟨bx, 0, none⟩)] W (PPost W rb pb m len (jP m n false ts st))
def ReadS (m : CatM) (len : Int) (rb pb n : Nat) : Prop := ∀ W ts st, PAt W rb pb m ts len st → 5 * ts.length + 5 ≤ n → Calls Tryz.prog 74 #[.pointer (some ⟨pb, 0, none⟩)] W (PPost W rb pb m len (jP m n true ts st))
theorem alloc_four (w : World) (o : Obj) {g : Nat} (hg : g < w.heap.size) (a b c d : Value) : ((((w.alloc o).setCell ⟨g, 0, none⟩ a).setCell ⟨g, 1, none⟩ b).setCell ⟨g, 2, none⟩ c).setCell ⟨g, 3, none⟩ d = ((((w.setCell ⟨g, 0, none⟩ a).setCell ⟨g, 1, none⟩ b).setCell ⟨g, 2, none⟩ c).setCell ⟨g, 3, none⟩ d).alloc o := by
 have e : ∀ (w : World) (k : Nat) (u : Value), (w.setCell ⟨g, k, none⟩ u).heap.size = w.heap.size := fun w k u => by simp [World.setCell]
 rw [World.setCell_alloc_past _ _ _ _ hg, World.setCell_alloc_past _ _ _ _ (by rw [e]; exact hg), World.setCell_alloc_past _ _ _ _ (by rw [e, e]; exact hg), World.setCell_alloc_past _ _ _ _ (by rw [e, e, e]; exact hg)]
theorem condP_bad {kn rn it : List ByteArray} {ts : List Tok} {st : PSt} (h : kindB ts 0 = false) : condP kn rn it ts st = .bad ts := by
 cases ts with
 | nil => rfl
 | cons t r => simp only [condP]; rw [if_pos (.inl (by simpa [kindB] using h))]
theorem PRow.one {w : World} (M : MkM) {P : Nat → Prop} (hP : P w.heap.size) : PRow (w.alloc (.cells #[.string M.op, .int .i64 M.a, .int .i64 M.b, .slice M.s.A M.s.n M.s.c] 49)) 49 P (some ⟨w.heap.size, 0, none⟩) (mcells [M]) :=
 .inr ⟨w.heap.size, 0, _, _, rfl, hP, heap_alloc_new w _, fun j u hu => by
  rw [Nat.zero_add]
  have e : mcells [M] = [.string M.op, .int .i64 M.a, .int .i64 M.b, .slice M.s.A M.s.n M.s.c] := rfl
  rw [e] at hu
  simpa using hu⟩
set_option maxRecDepth 100000 in
set_option maxHeartbeats 4000000 in
theorem fact_any {W : World} {rb pb : Nat} {m : CatM} {ts : List Tok} {len : Int} {st : PSt} {n : Nat} (hF : Hid (FactS m len rb pb n)) (hJ : Hid (ReadS m len rb pb n)) (h : PAt W rb pb m ts len st) (hn : 5 * ts.length + 1 ≤ n + 1) :
 Calls Tryz.prog 115 #[.pointer (some ⟨pb, 0, none⟩)] W (PPost W rb pb m len (fP m (n + 1) ts st)) := by
 have y : Below W.heap.size W (W.alloc (.cells #[.string ⟨#[]⟩, .int .i64 0, .int .i64 0, .slice none 0 0] 49)) := (Below.refl _ _).alloc (Nat.le_refl _) _
 have B0 := Bk.new W 49 [.string ⟨#[]⟩, .int .i64 0, .int .i64 0, .slice none 0 0]
 have hP1 := h.below y
 have HP1 := Lib.hid hP1
 have hpl := h.plt
 have hlt := h.lt
 have p0 := h.r0
 have hpl1 := hP1.plt
 have Hy := Lib.hid y
 have HB0 := Lib.hid B0
 have e1 : fP m (n + 1) ts st = if headB ts 0 sNot then (fP m n ts.tail st).not else if headB ts 2 sOpen then (jP m n true ts.tail st).close else condP kindNs (m.rules.map RuM.name) (m.items.map It.name) ts st := rfl
 have hwo : isB ts 0 sNot = headB ts 0 sNot := isB_word _ _ (by decide)
 have hop : isB ts 2 sOpen = headB ts 2 sOpen := isB_word _ _ (by decide)
 clear h y B0
 cases hnot : headB ts 0 sNot
 ·rw [hnot] at e1 hwo
  have KA := Lib.hid (accept_no 0 sNot hP1.rd hwo)
  simp only [Bool.false_eq_true, if_false] at e1
  cases hopen : headB ts 2 sOpen
  ·rw [hopen] at e1 hop
   simp only [Bool.false_eq_true, if_false] at e1
   have KB := Lib.hid (accept_no 2 sOpen hP1.rd hop)
   have KI := Lib.hid (is_any 0 ⟨#[]⟩ hP1.rd)
   rw [isB_any] at KI
   cases hk : kindB ts 0
   ·rw [condP_bad hk] at e1
    rw [hk] at KI
    have HQ := Lib.hid e1
    have KF := Lib.hid (fail_any hP1.rd)
    clear e1 hk hop hopen hwo hnot hP1 HB0 hF hJ
    go_enter Tryz.func115, Tryz.ntmps115
    go_wp2_with fail
    refine KA.out.mono ?_
    rintro e w2 ⟨rfl, rfl⟩
    go_wp2_with fail
    refine KB.out.mono ?_
    rintro e w2 ⟨rfl, rfl⟩
    go_wp2_with fail
    refine KI.out.mono ?_
    rintro e w2 ⟨rfl, rfl⟩
    go_wp2_with fail
    refine KF.out.mono ?_
    rintro e wz ⟨rfl, rfl⟩
    refine ⟨rfl, ?_⟩
    rw [HQ.out]
    exact ⟨rfl, .of_below Hy.out⟩
   ·obtain ⟨t, r, rfl, ht⟩ := kindB_nil hk
    rw [hk] at KI
    have HQ := Lib.hid e1
    have KC := Lib.hid (cond_any hP1 ht)
    clear e1 hk hop hopen hwo hnot hP1 hF hJ ht
    generalize hcp : condP kindNs (m.rules.map RuM.name) (m.items.map It.name) (t :: r) st = cp at *
    go_enter Tryz.func115, Tryz.ntmps115
    go_wp2_with fail
    refine KA.out.mono ?_
    rintro e w2 ⟨rfl, rfl⟩
    go_wp2_with fail
    refine KB.out.mono ?_
    rintro e w2 ⟨rfl, rfl⟩
    go_wp2_with fail
    refine KI.out.mono ?_
    rintro e w2 ⟨rfl, rfl⟩
    go_wp2_with fail
    refine KC.out.mono ?_
    intro e w1 hpost
    clear KA KB KI KC hcp HP1
    cases cp with
    | bad x =>
      obtain ⟨rfl, hg⟩ := hpost
      refine ⟨rfl, ?_⟩
      rw [HQ.out]
      exact ⟨rfl, (Gr2.of_below Hy.out).trans hg⟩
    | ok k r' st1 =>
      obtain ⟨M, rfl, rfl, hM, hP, hG⟩ := hpost
      have B1 := HB0.out.gr2 hG (by omega) (by omega)
      have HB := Lib.hid B1
      have HM := Lib.hid (hM.mono (Q := fun b => W.heap.size ≤ b ∧ b ≠ W.heap.size) fun b _ hb => by rw [World.size_alloc] at hb; exact ⟨by omega, by omega⟩)
      have HP := Lib.hid hP
      have HG := Lib.hid ((Gr2.of_below (r := rb) (p := pb) Hy.out).trans hG)
      have z0 : w1.cell? ⟨W.heap.size, 0, none⟩ = some (.string ⟨#[]⟩) := B1.cell 0
      have z1 : w1.cell? ⟨W.heap.size, 1, none⟩ = some (.int .i64 0) := B1.cell 1
      have z2 : w1.cell? ⟨W.heap.size, 2, none⟩ = some (.int .i64 0) := B1.cell 2
      have z3 : w1.cell? ⟨W.heap.size, 3, none⟩ = some (.slice none 0 0) := B1.cell 3
      have fz0 := B1.frozen 0
      have fz1 := B1.frozen 1
      have fz2 := B1.frozen 2
      have fz3 := B1.frozen 3
      have hzl := B1.lt
      clear hM hP hG B1 HB0
      go_wp2
      have hX := lay_mark hzl (Nat.le_refl _) hpl HB.out HM.out HP.out HG.out
      generalize (((w1.setCell ⟨W.heap.size, 0, none⟩ (.string M.op)).setCell ⟨W.heap.size, 1, none⟩ (.int .i64 M.a)).setCell ⟨W.heap.size, 2, none⟩ (.int .i64 M.b)).setCell ⟨W.heap.size, 3, none⟩ (.slice M.s.A M.s.n M.s.c) = X at *
      have x0 : X.cell? ⟨W.heap.size, 0, none⟩ = some (.string M.op) := hX.2.2.2.cell 0
      have x1 : X.cell? ⟨W.heap.size, 1, none⟩ = some (.int .i64 M.a) := hX.2.2.2.cell 1
      have x2 : X.cell? ⟨W.heap.size, 2, none⟩ = some (.int .i64 M.b) := hX.2.2.2.cell 2
      have x3 : X.cell? ⟨W.heap.size, 3, none⟩ = some (.slice M.s.A M.s.n M.s.c) := hX.2.2.2.cell 3
      refine bodyPost_ret (v := .agg #[.string M.op, .int .i64 M.a, .int .i64 M.b, .slice M.s.A M.s.n M.s.c]) (by simp [results, Tryz.results115, go_sem, x0, x1, x2, x3]) rfl ?_
      rw [HQ.out]
      exact ⟨M, rfl, rfl, hX.1, hX.2.1, hX.2.2.1⟩
  ·rw [hopen] at e1 hop
   simp only [if_true] at e1
   obtain ⟨t, r, rfl⟩ := head_cons hopen
   have KB := Lib.hid (accept_yes 2 sOpen hP1.rd hop)
   rw [List.tail_cons] at e1 KB
   have E1 := Lib.hid e1
   clear hop hopen hwo hnot hP1 hF e1
   go_enter Tryz.func115, Tryz.ntmps115
   go_wp2_with fail
   refine KA.out.mono ?_
   rintro e w2 ⟨rfl, rfl⟩
   go_wp2_with fail
   refine KB.out.mono ?_
   rintro e w2 ⟨rfl, hr2, hg2⟩
   have hP2 := HP1.out.read hg2 hr2 (fun _ ht => List.mem_cons_of_mem _ ht)
   have KJ := Lib.hid (hJ.out w2 r st hP2 (by simp at hn; omega))
   have HG2 := Lib.hid ((Gr2.of_below (r := rb) (p := pb) Hy.out).trans (.of_r hg2))
   have HB2 := Lib.hid (HB0.out.grown hg2 (by simp; omega))
   have hs2 := hg2.size
   rw [World.size_alloc] at hs2
   clear KA KB hr2 hg2 hP2 HP1 HB0 hJ
   generalize jP m n true r st = cp at *
   go_wp2_with fail
   refine KJ.out.mono ?_
   intro e w3 hpost
   clear KJ
   cases cp with
   | bad x =>
     obtain ⟨rfl, hg⟩ := hpost
     have HQ : Hid (fP m (n + 1) (t :: r) st = .bad x) := E1
     refine ⟨rfl, ?_⟩
     rw [HQ.out]
     exact ⟨rfl, HG2.out.trans hg⟩
   | ok k r' st1 =>
     obtain ⟨M, rfl, rfl, hM, hP, hG⟩ := hpost
     have hs3 := hG.size
     have y3 : Below w3.heap.size w3 (w3.alloc (.cells #[.string M.op, .int .i64 M.a, .int .i64 M.b, .slice M.s.A M.s.n M.s.c] 49)) := (Below.refl _ _).alloc (Nat.le_refl _) _
     have HB4 := Lib.hid ((HB2.out.gr2 hG (by omega) (by omega)).alloc (.cells #[.string M.op, .int .i64 M.a, .int .i64 M.b, .slice M.s.A M.s.n M.s.c] 49))
     have HM4 := Lib.hid ((hM.mono (Q := fun b => W.heap.size ≤ b ∧ b ≠ W.heap.size) fun b _ hb => ⟨by omega, by omega⟩).bel y3)
     have hP4 := hP.below y3
     have HG4 := Lib.hid ((HG2.out.trans hG).trans (.of_below y3))
     have HBm := Lib.hid (Bk.new w3 49 [.string M.op, .int .i64 M.a, .int .i64 M.b, .slice M.s.A M.s.n M.s.c])
     have p04 : w3.cell? ⟨pb, 0, none⟩ = some (.pointer (some ⟨rb, 0, none⟩)) := hP.r0
     have hpl3 := hP.plt
     clear hM hP hG y3 HG2 HB2
     cases hcl : headB r' 2 sClose
     ·have KS := Lib.hid (symbol_no sClose hP4.rd (by rw [isB_word _ _ (by decide)]; exact hcl))
      have HQ : Hid (fP m (n + 1) (t :: r) st = .bad r') := by
       show _ = _
       rw [E1.out]
       simp [PR.close, hcl]
      clear E1 hcl hP4
      go_wp2_with fail
      refine KS.out.mono ?_
      rintro e wz ⟨rfl, hgz⟩
      refine ⟨rfl, ?_⟩
      rw [HQ.out]
      exact ⟨rfl, HG4.out.trans (.of_r hgz)⟩
     ·obtain ⟨c, r3, rfl⟩ := head_cons hcl
      have KS := Lib.hid (symbol_yes sClose hP4.rd (by rw [isB_word _ _ (by decide)]; exact hcl))
      have HQ : Hid (fP m (n + 1) (t :: r) st = .ok M.core r3 st1) := by
       show _ = _
       rw [E1.out]
       simp [PR.close, hcl]
      have HP4 := Lib.hid hP4
      clear E1 hcl hP4
      go_wp2_with fail
      refine KS.out.mono ?_
      rintro e w5 ⟨rfl, hr5, hg5⟩
      have HP := Lib.hid (HP4.out.read hg5 hr5 (fun _ ht => List.mem_cons_of_mem _ ht))
      have B1 := HB4.out.grown hg5 (by simp; omega)
      have HB := Lib.hid B1
      have HM := Lib.hid (HM4.out.grown hg5 fun b hb => by simp; omega)
      have HG := Lib.hid (HG4.out.trans (.of_r hg5))
      have Bm := HBm.out.grown hg5 (by simp; omega)
      have g0 : w5.cell? ⟨w3.heap.size, 0, none⟩ = some (.string M.op) := Bm.cell 0
      have g1 : w5.cell? ⟨w3.heap.size, 1, none⟩ = some (.int .i64 M.a) := Bm.cell 1
      have g2 : w5.cell? ⟨w3.heap.size, 2, none⟩ = some (.int .i64 M.b) := Bm.cell 2
      have g3 : w5.cell? ⟨w3.heap.size, 3, none⟩ = some (.slice M.s.A M.s.n M.s.c) := Bm.cell 3
      have hml := Bm.lt
      have hW3 : W.heap.size < w3.heap.size := by omega
      have z0 : w5.cell? ⟨W.heap.size, 0, none⟩ = some (.string ⟨#[]⟩) := B1.cell 0
      have z1 : w5.cell? ⟨W.heap.size, 1, none⟩ = some (.int .i64 0) := B1.cell 1
      have z2 : w5.cell? ⟨W.heap.size, 2, none⟩ = some (.int .i64 0) := B1.cell 2
      have z3 : w5.cell? ⟨W.heap.size, 3, none⟩ = some (.slice none 0 0) := B1.cell 3
      have fz0 := B1.frozen 0
      have fz1 := B1.frozen 1
      have fz2 := B1.frozen 2
      have fz3 := B1.frozen 3
      have hzl := B1.lt
      clear KS hr5 hg5 HP4 HB4 HM4 HG4 HBm Bm B1
      go_wp2
      have hX := lay_mark hzl (Nat.le_refl _) hpl HB.out HM.out HP.out HG.out
      generalize (((w5.setCell ⟨W.heap.size, 0, none⟩ (.string M.op)).setCell ⟨W.heap.size, 1, none⟩ (.int .i64 M.a)).setCell ⟨W.heap.size, 2, none⟩ (.int .i64 M.b)).setCell ⟨W.heap.size, 3, none⟩ (.slice M.s.A M.s.n M.s.c) = X at *
      have x0 : X.cell? ⟨W.heap.size, 0, none⟩ = some (.string M.op) := hX.2.2.2.cell 0
      have x1 : X.cell? ⟨W.heap.size, 1, none⟩ = some (.int .i64 M.a) := hX.2.2.2.cell 1
      have x2 : X.cell? ⟨W.heap.size, 2, none⟩ = some (.int .i64 M.b) := hX.2.2.2.cell 2
      have x3 : X.cell? ⟨W.heap.size, 3, none⟩ = some (.slice M.s.A M.s.n M.s.c) := hX.2.2.2.cell 3
      refine bodyPost_ret (v := .agg #[.string M.op, .int .i64 M.a, .int .i64 M.b, .slice M.s.A M.s.n M.s.c]) (by simp [results, Tryz.results115, go_sem, x0, x1, x2, x3]) rfl ?_
      rw [HQ.out]
      exact ⟨M, rfl, rfl, hX.1, hX.2.1, hX.2.2.1⟩
 ·rw [hnot] at e1 hwo
  simp only [if_true] at e1
  obtain ⟨t, r, rfl⟩ := head_cons hnot
  have KA := Lib.hid (accept_yes 0 sNot hP1.rd hwo)
  rw [List.tail_cons] at e1 KA
  have E1 := Lib.hid e1
  clear hop hwo hnot hP1 hJ e1
  go_enter Tryz.func115, Tryz.ntmps115
  go_wp2_with fail
  refine KA.out.mono ?_
  rintro e w2 ⟨rfl, hr2, hg2⟩
  have hP2 := HP1.out.read hg2 hr2 (fun _ ht => List.mem_cons_of_mem _ ht)
  have KJ := Lib.hid (hF.out w2 r st hP2 (by simp at hn; omega))
  have HG2 := Lib.hid ((Gr2.of_below (r := rb) (p := pb) Hy.out).trans (.of_r hg2))
  have HB2 := Lib.hid (HB0.out.grown hg2 (by simp; omega))
  have hs2 := hg2.size
  rw [World.size_alloc] at hs2
  clear KA hr2 hg2 hP2 HP1 HB0 hF
  generalize fP m n r st = cp at *
  go_wp2_with fail
  refine KJ.out.mono ?_
  intro e w3 hpost
  clear KJ
  cases cp with
  | bad x =>
    obtain ⟨rfl, hg⟩ := hpost
    have HQ : Hid (fP m (n + 1) (t :: r) st = .bad x) := E1
    refine ⟨rfl, ?_⟩
    rw [HQ.out]
    exact ⟨rfl, HG2.out.trans hg⟩
  | ok k r' st1 =>
    obtain ⟨M, rfl, rfl, hM, hP, hG⟩ := hpost
    have hs3 := hG.size
    have y3 : Below w3.heap.size w3 (w3.alloc (.cells #[.string M.op, .int .i64 M.a, .int .i64 M.b, .slice M.s.A M.s.n M.s.c] 49)) := (Below.refl _ _).alloc (Nat.le_refl _) _
    have B3 := HB2.out.gr2 hG (by omega) (by omega)
    have B4 := B3.alloc (.cells #[.string M.op, .int .i64 M.a, .int .i64 M.b, .slice M.s.A M.s.n M.s.c] 49)
    have HB := Lib.hid B4
    have HM : Hid (MkM.Ok (w3.alloc (.cells #[.string M.op, .int .i64 M.a, .int .i64 M.b, .slice M.s.A M.s.n M.s.c] 49)) 49 (fun b => W.heap.size ≤ b ∧ b ≠ W.heap.size) ⟨⟨#[110, 111, 116]⟩, 0, 0, [M], ⟨some ⟨w3.heap.size, 0, none⟩, 1, 1⟩⟩) :=
     Lib.hid (.mk _ _ _ _ _ (PRow.one M ⟨by omega, by omega⟩) rfl (show (1 : Nat) ≤ 100000 by decide) (by decide) ⟨by decide, by decide⟩ ⟨by decide, by decide⟩ fun k hk => by
      obtain rfl : k = M := by simpa using hk
      exact (hM.mono (Q := fun b => W.heap.size ≤ b ∧ b ≠ W.heap.size) fun b _ hb => ⟨by omega, by omega⟩).bel y3)
    have HP := Lib.hid (hP.below y3)
    have HG := Lib.hid ((HG2.out.trans hG).trans (.of_below y3))
    have HQ : Hid (fP m (n + 1) (t :: r) st = .ok (.node sNot 0 0 [M.core]) r' st1) := E1
    have z0 : w3.cell? ⟨W.heap.size, 0, none⟩ = some (.string ⟨#[]⟩) := B3.cell 0
    have z1 : w3.cell? ⟨W.heap.size, 1, none⟩ = some (.int .i64 0) := B3.cell 1
    have z2 : w3.cell? ⟨W.heap.size, 2, none⟩ = some (.int .i64 0) := B3.cell 2
    have z3 : w3.cell? ⟨W.heap.size, 3, none⟩ = some (.slice none 0 0) := B3.cell 3
    have fz0 := B3.frozen 0
    have fz1 := B3.frozen 1
    have fz2 := B3.frozen 2
    have fz3 := B3.frozen 3
    have hzl := B3.lt
    have hW3 : W.heap.size < w3.heap.size := by omega
    clear hM hP hG B3 B4 y3 HG2 HB2 E1
    go_wp2
    have hX := lay_mark (M := ⟨⟨#[110, 111, 116]⟩, 0, 0, [M], ⟨some ⟨w3.heap.size, 0, none⟩, 1, 1⟩⟩) (w1 := w3.alloc (.cells #[.string M.op, .int .i64 M.a, .int .i64 M.b, .slice M.s.A M.s.n M.s.c] 49)) (by rw [World.size_alloc]; omega) (Nat.le_refl _) hpl HB.out HM.out HP.out HG.out
    dsimp only at hX
    rw [alloc_four w3 _ hW3] at hX
    generalize ((((w3.setCell ⟨W.heap.size, 0, none⟩ (.string ⟨#[110, 111, 116]⟩)).setCell ⟨W.heap.size, 1, none⟩ (.int .i64 0)).setCell ⟨W.heap.size, 2, none⟩ (.int .i64 0)).setCell ⟨W.heap.size, 3, none⟩ (.slice (some ⟨w3.heap.size, 0, none⟩) 1 1)).alloc (.cells #[.string M.op, .int .i64 M.a, .int .i64 M.b, .slice M.s.A M.s.n M.s.c] 49) = X at *
    have x0 : X.cell? ⟨W.heap.size, 0, none⟩ = some (.string ⟨#[110, 111, 116]⟩) := hX.2.2.2.cell 0
    have x1 : X.cell? ⟨W.heap.size, 1, none⟩ = some (.int .i64 0) := hX.2.2.2.cell 1
    have x2 : X.cell? ⟨W.heap.size, 2, none⟩ = some (.int .i64 0) := hX.2.2.2.cell 2
    have x3 : X.cell? ⟨W.heap.size, 3, none⟩ = some (.slice (some ⟨w3.heap.size, 0, none⟩) 1 1) := hX.2.2.2.cell 3
    refine bodyPost_ret (v := .agg #[.string ⟨#[110, 111, 116]⟩, .int .i64 0, .int .i64 0, .slice (some ⟨w3.heap.size, 0, none⟩) 1 1]) (by simp [results, Tryz.results115, go_sem, x0, x1, x2, x3]) rfl ?_
    rw [HQ.out]
    exact ⟨_, rfl, rfl, hX.1, hX.2.1, hX.2.2.1⟩
theorem all_read (m : CatM) (len : Int) (rb pb : Nat) : ∀ N, FactS m len rb pb N ∧ And1S m len rb pb N ∧ ReadS m len rb pb N := by
 intro N
 induction N using Nat.strongRecOn with
 | _ N ih =>
   have hF : FactS m len rb pb N := by
    intro W ts st h hn
    cases N with
    | zero => exact absurd hn (by omega)
    | succ n => exact fact_any (Lib.hid (ih n (by omega)).1) (Lib.hid (ih n (by omega)).2.2) h hn
   have hA : And1S m len rb pb N := by
    intro W bx ts st h hb hn
    have y : Below W.heap.size W (W.alloc (.cells #[.string ⟨#[]⟩, .int .i64 0, .int .i64 0, .slice none 0 0] 49)) := (Below.refl _ _).alloc (Nat.le_refl _) _
    exact read1_any h hb (Lib.hid (join_and N (Lib.hid fun n hn W' ts st _ h hf => (ih n hn).1 W' ts st h hf) (h.below y) hn))
   refine ⟨hF, hA, ?_⟩
   intro W ts st h hn
   have y : Below W.heap.size W ((W.alloc (.cells #[.pointer (some ⟨pb, 0, none⟩)] 140)).alloc (.cells #[.string ⟨#[]⟩, .int .i64 0, .int .i64 0, .slice none 0 0] 49)) := ((Below.refl _ _).alloc (Nat.le_refl _) _).alloc (by simp) _
   have hb : Bk ((W.alloc (.cells #[.pointer (some ⟨pb, 0, none⟩)] 140)).alloc (.cells #[.string ⟨#[]⟩, .int .i64 0, .int .i64 0, .slice none 0 0] 49)) W.heap.size 140 [.pointer (some ⟨pb, 0, none⟩)] := (Bk.new W 140 [.pointer (some ⟨pb, 0, none⟩)]).alloc _
   have hpl := h.plt
   have hlt := h.lt
   exact read_any h (Lib.hid (join_or (bx := W.heap.size) N (Lib.hid fun n hn W' ts st g h hf => (ih n hn).2.1 W' W.heap.size ts st h (hb.gr2 g (by omega) (by omega)) hf) (h.below y) hn))
theorem read_all (m : CatM) (len : Int) (rb pb : Nat) (N : Nat) : ReadS m len rb pb N := (all_read m len rb pb N).2.2
end Go.Proofs.YtocodlpgaamblaaGreatDoor
