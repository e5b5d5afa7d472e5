/- Contracts of every and differ on nil slices, and of every on a slice of one tax. -/
import Derived.Test.YtlgedljhheficaaGreatDoorA4
namespace Go.Proofs.YtlgedljhheficaaGreatDoor
open Go.RowKit

theorem run_mapHint {P : Program} (t k e : TypeId) (kd : IntKind) (n : Int) (ht : P.underlying t = some (.map k e)) (w : World) :
    (Instr.makeMap t (some (.int kd n))).run P w = .ok (.map (some w.heap.size)) (w.alloc (.map #[] 0)) := by
  simp [Instr.makeMap, run_underlying ht]; rfl

set_option maxHeartbeats 400000 in
theorem every_nil78 (fv : Value) (w : World) : Calls Tryz.prog 78 #[.slice none 0 0, fv] w fun e w' => e = .returned (.bool true) ∧ w = w' := by
  go_enter Tryz.func78, Tryz.ntmps78
  go_wp2
  refine wp_loop_rounds 1 ?_
  rw [rounds_succ]
  go_wp2
  go_ret
  exact ⟨rfl, rfl⟩

set_option maxHeartbeats 400000 in
theorem every_nil80 (fv : Value) (w : World) : Calls Tryz.prog 80 #[.slice none 0 0, fv] w fun e w' => e = .returned (.bool true) ∧ w = w' := by
  go_enter Tryz.func80, Tryz.ntmps80
  go_wp2
  refine wp_loop_rounds 1 ?_
  rw [rounds_succ]
  go_wp2
  go_ret
  exact ⟨rfl, rfl⟩

set_option maxHeartbeats 400000 in
theorem every_nil84 (fv : Value) (w : World) : Calls Tryz.prog 84 #[.slice none 0 0, fv] w fun e w' => e = .returned (.bool true) ∧ w = w' := by
  go_enter Tryz.func84, Tryz.ntmps84
  go_wp2
  refine wp_loop_rounds 1 ?_
  rw [rounds_succ]
  go_wp2
  go_ret
  exact ⟨rfl, rfl⟩

set_option maxHeartbeats 400000 in
theorem differ_nil90 (fv : Value) (w : World) : Calls Tryz.prog 90 #[.slice none 0 0, fv] w fun e w' => e = .returned (.bool true) ∧ Below w.heap.size w w' := by
  have hmm := fun W : World => run_mapHint (P := Tryz.prog) 168 9 4 .i64 0 Tryz.underlying168 W
  go_enter Tryz.func90, Tryz.ntmps90
  go_wp2
  refine wp_loop_rounds 1 ?_
  rw [rounds_succ]
  go_wp2
  go_ret
  exact ⟨rfl, (Below.refl _ _).alloc (Nat.le_refl _) _⟩

set_option maxHeartbeats 400000 in
theorem differ_nil92 (fv : Value) (w : World) : Calls Tryz.prog 92 #[.slice none 0 0, fv] w fun e w' => e = .returned (.bool true) ∧ Below w.heap.size w w' := by
  have hmm := fun W : World => run_mapHint (P := Tryz.prog) 168 9 4 .i64 0 Tryz.underlying168 W
  go_enter Tryz.func92, Tryz.ntmps92
  go_wp2
  refine wp_loop_rounds 1 ?_
  rw [rounds_succ]
  go_wp2
  go_ret
  exact ⟨rfl, (Below.refl _ _).alloc (Nat.le_refl _) _⟩

set_option maxHeartbeats 400000 in
theorem differ_nil94 (fv : Value) (w : World) : Calls Tryz.prog 94 #[.slice none 0 0, fv] w fun e w' => e = .returned (.bool true) ∧ Below w.heap.size w w' := by
  have hmm := fun W : World => run_mapHint (P := Tryz.prog) 168 9 4 .i64 0 Tryz.underlying168 W
  go_enter Tryz.func94, Tryz.ntmps94
  go_wp2
  refine wp_loop_rounds 1 ?_
  rw [rounds_succ]
  go_wp2
  go_ret
  exact ⟨rfl, (Below.refl _ _).alloc (Nat.le_refl _) _⟩

set_option maxRecDepth 100000 in
set_option maxHeartbeats 400000 in
theorem every_one83 (g : Nat) (nm : ByteArray) (A : Option Addr) (n c : Nat) (r : Bool) (w : World) (h0 : w.cell? ⟨g, 0, none⟩ = some (.string nm)) (h1 : w.cell? ⟨g, 1, none⟩ = some (.slice A n c))
    (hF : Hid (∀ W : World, Below w.heap.size w W → Calls Tryz.prog 83 #[.agg #[.string nm, .slice A n c]] W fun e w' => e = .returned (.bool r) ∧ Below W.heap.size W w')) :
    Calls Tryz.prog 82 #[.slice (some ⟨g, 0, none⟩) 1 1, .func (.func 83) #[] #[]] w fun e w' => e = .returned (.bool r) ∧ Below w.heap.size w w' := by
  have hb0 : Below w.heap.size w (w.alloc (.cells #[.string nm, .slice A n c] 25)) := (Below.refl _ _).alloc (Nat.le_refl _) _
  go_enter Tryz.func82, Tryz.ntmps82
  go_wp2
  refine wp_loop_rounds 2 ?_
  rw [rounds_succ]
  go_wp2_with fail
  refine (hF.out _ hb0).mono ?_
  rintro e w1 ⟨rfl, hb1⟩
  have hb2 : Below w.heap.size w w1 := hb0.trans (hb1.mono (by simp))
  cases r
  · go_wp2
    go_ret
    exact ⟨rfl, hb2⟩
  · go_wp2
    rw [rounds_succ]
    go_wp2
    go_ret
    exact ⟨rfl, hb2⟩

set_option maxRecDepth 100000 in
set_option maxHeartbeats 400000 in
theorem every_one89 (g : Nat) (nm : ByteArray) (A : Option Addr) (n c : Nat) (r : Bool) (w : World) (h0 : w.cell? ⟨g, 0, none⟩ = some (.string nm)) (h1 : w.cell? ⟨g, 1, none⟩ = some (.slice A n c))
    (hF : Hid (∀ W : World, Below w.heap.size w W → Calls Tryz.prog 89 #[.agg #[.string nm, .slice A n c]] W fun e w' => e = .returned (.bool r) ∧ Below W.heap.size W w')) :
    Calls Tryz.prog 82 #[.slice (some ⟨g, 0, none⟩) 1 1, .func (.func 89) #[] #[]] w fun e w' => e = .returned (.bool r) ∧ Below w.heap.size w w' := by
  have hb0 : Below w.heap.size w (w.alloc (.cells #[.string nm, .slice A n c] 25)) := (Below.refl _ _).alloc (Nat.le_refl _) _
  go_enter Tryz.func82, Tryz.ntmps82
  go_wp2
  refine wp_loop_rounds 2 ?_
  rw [rounds_succ]
  go_wp2_with fail
  refine (hF.out _ hb0).mono ?_
  rintro e w1 ⟨rfl, hb1⟩
  have hb2 : Below w.heap.size w w1 := hb0.trans (hb1.mono (by simp))
  cases r
  · go_wp2
    go_ret
    exact ⟨rfl, hb2⟩
  · go_wp2
    rw [rounds_succ]
    go_wp2
    go_ret
    exact ⟨rfl, hb2⟩

set_option maxRecDepth 100000 in
set_option maxHeartbeats 400000 in
theorem every_one106 (g : Nat) (nm : ByteArray) (A : Option Addr) (n c : Nat) (r : Bool) (w : World) (h0 : w.cell? ⟨g, 0, none⟩ = some (.string nm)) (h1 : w.cell? ⟨g, 1, none⟩ = some (.slice A n c))
    (hF : Hid (∀ W : World, Below w.heap.size w W → Calls Tryz.prog 106 #[.agg #[.string nm, .slice A n c]] W fun e w' => e = .returned (.bool r) ∧ Below W.heap.size W w')) :
    Calls Tryz.prog 82 #[.slice (some ⟨g, 0, none⟩) 1 1, .func (.func 106) #[] #[]] w fun e w' => e = .returned (.bool r) ∧ Below w.heap.size w w' := by
  have hb0 : Below w.heap.size w (w.alloc (.cells #[.string nm, .slice A n c] 25)) := (Below.refl _ _).alloc (Nat.le_refl _) _
  go_enter Tryz.func82, Tryz.ntmps82
  go_wp2
  refine wp_loop_rounds 2 ?_
  rw [rounds_succ]
  go_wp2_with fail
  refine (hF.out _ hb0).mono ?_
  rintro e w1 ⟨rfl, hb1⟩
  have hb2 : Below w.heap.size w w1 := hb0.trans (hb1.mono (by simp))
  cases r
  · go_wp2
    go_ret
    exact ⟨rfl, hb2⟩
  · go_wp2
    rw [rounds_succ]
    go_wp2
    go_ret
    exact ⟨rfl, hb2⟩

set_option maxRecDepth 100000 in
set_option maxHeartbeats 400000 in
theorem every_one116 (g : Nat) (nm : ByteArray) (A : Option Addr) (n c : Nat) (r : Bool) (w : World) (h0 : w.cell? ⟨g, 0, none⟩ = some (.string nm)) (h1 : w.cell? ⟨g, 1, none⟩ = some (.slice A n c))
    (hF : Hid (∀ W : World, Below w.heap.size w W → Calls Tryz.prog 116 #[.agg #[.string nm, .slice A n c]] W fun e w' => e = .returned (.bool r) ∧ Below W.heap.size W w')) :
    Calls Tryz.prog 82 #[.slice (some ⟨g, 0, none⟩) 1 1, .func (.func 116) #[] #[]] w fun e w' => e = .returned (.bool r) ∧ Below w.heap.size w w' := by
  have hb0 : Below w.heap.size w (w.alloc (.cells #[.string nm, .slice A n c] 25)) := (Below.refl _ _).alloc (Nat.le_refl _) _
  go_enter Tryz.func82, Tryz.ntmps82
  go_wp2
  refine wp_loop_rounds 2 ?_
  rw [rounds_succ]
  go_wp2_with fail
  refine (hF.out _ hb0).mono ?_
  rintro e w1 ⟨rfl, hb1⟩
  have hb2 : Below w.heap.size w w1 := hb0.trans (hb1.mono (by simp))
  cases r
  · go_wp2
    go_ret
    exact ⟨rfl, hb2⟩
  · go_wp2
    rw [rounds_succ]
    go_wp2
    go_ret
    exact ⟨rfl, hb2⟩

end Go.Proofs.YtlgedljhheficaaGreatDoor
