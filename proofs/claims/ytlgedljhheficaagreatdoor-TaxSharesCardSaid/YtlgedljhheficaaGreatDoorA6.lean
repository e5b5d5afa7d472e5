/- The contract of differ on a slice of one tax. -/
import Derived.Test.YtlgedljhheficaaGreatDoorA5
import Derived.Maps.Own
import Derived.Maps.OwnOps
import Derived.Maps.OwnSet
namespace Go.Proofs.YtlgedljhheficaaGreatDoor
open Go.RowKit

set_option maxHeartbeats 400000 in
theorem tax_name (nm : ByteArray) (v : Value) (w : World) : Calls Tryz.prog 97 #[.agg #[.string nm, v]] w fun e w' => e = .returned (.string nm) ∧ Below w.heap.size w w' := by
  go_enter Tryz.func97, Tryz.ntmps97
  go_wp2
  go_ret
  exact ⟨rfl, (Below.refl _ _).alloc (Nat.le_refl _) _⟩

theorem grown_of_below {a w : World} (h : Below a.heap.size a w) (row : Option Nat) : a.grownBy w row := ⟨h.os, h.tape, h.output, h.size, fun i hi _ => h.block i hi⟩

theorem plainBool_inv {P : Program} {e : TypeId} (he : P.underlying e = some .bool) {v : Value} {z : DataW Unit × List MemPlace} (h : plainElem P e v = some z) : ∃ x, v = .bool x ∧ z = (.lit (.bool x), []) := by
  unfold plainElem at h
  rw [he] at h
  cases v <;> simp_all

theorem zero4 (w : World) : (zeroValue 4).run Tryz.prog w = .ok (.bool false) w := by kernel_rfl

set_option maxRecDepth 100000 in
set_option maxHeartbeats 400000 in
theorem differ_one (g : Nat) (nm : ByteArray) (A : Option Addr) (n c : Nat) (w : World) (hg : g < w.heap.size) (hnm : nm.size ≤ maxLen) (h0 : w.cell? ⟨g, 0, none⟩ = some (.string nm)) (h1 : w.cell? ⟨g, 1, none⟩ = some (.slice A n c)) :
    Calls Tryz.prog 96 #[.slice (some ⟨g, 0, none⟩) 1 1, .func (.func 97) #[] #[]] w fun e w' => e = .returned (.bool true) ∧ Below w.heap.size w w' := by
  have hmm := fun W : World => run_mapHint (P := Tryz.prog) 168 9 4 .i64 1 Tryz.underlying168 W
  go_enter Tryz.func96, Tryz.ntmps96
  go_wp2
  refine wp_loop_rounds 2 ?_
  rw [rounds_succ]
  go_wp2_with fail
  refine (tax_name _ _ _).mono ?_
  rintro e w1 ⟨rfl, hb1⟩
  have ho0 := (World.ownsMap_made (H := Unit) w Tryz.prog 9 (plainElem Tryz.prog 4)).alloc (.cells #[.string nm, .slice A n c] 25)
  have ho1 := ho0.kept (grown_of_below hb1 none) (by simp)
  obtain ⟨v, ps, hrun, hv⟩ := ho1.lookup (Maps.string_keyed Tryz.underlying9) Tryz.underlying168 (zero4 w1) (plainElem_bool Tryz.underlying4 false) (WideMaps.keyOf_string_mk Tryz.underlying9 hnm)
  obtain ⟨x, rfl, hx⟩ := plainBool_inv Tryz.underlying4 hv
  obtain rfl : x = false := by
    simp only [Prod.mk.injEq, DataW.atKey] at hx
    have := hx.1
    cases x
    · rfl
    · simp at this
  clear hv hx ho0
  have hs1 := hb1.size
  simp only [World.size_alloc] at hs1
  have hB1 : Below w.heap.size w w1 := (((Below.refl _ w).alloc (Nat.le_refl _) _).alloc (by simp) _).trans (hb1.mono (by simp; omega))
  have c0 : w1.cell? ⟨w.heap.size + 1, 0, none⟩ = some (.string nm) := (hb1.cell (p := ⟨w.heap.size + 1, 0, none⟩) (by simp)).trans (by simp)
  have c1 : w1.cell? ⟨w.heap.size + 1, 1, none⟩ = some (.slice A n c) := (hb1.cell (p := ⟨w.heap.size + 1, 1, none⟩) (by simp)).trans (by simp)
  clear hb1
  go_wp2_with fail
  refine (tax_name _ _ _).mono ?_
  rintro e w2 ⟨rfl, hb2⟩
  have ho2 := ho1.kept (grown_of_below hb2 none) (by simp)
  obtain ⟨w3, hrun3, ho3, hg3⟩ := ho2.update (Maps.string_keyed Tryz.underlying9) Tryz.underlying168 (by unfold maxLen; omega) (WideMaps.keyOf_string_mk Tryz.underlying9 hnm) (plainElem_bool Tryz.underlying4 true)
  have hB3 : Below w.heap.size w w3 := (hB1.trans (hb2.mono (by omega))).grown hg3 (by have := hb2.size; omega) (fun k e => by cases e; exact Nat.le_refl _)
  clear hrun
  go_wp2
  rw [rounds_succ]
  go_wp2
  go_ret
  exact ⟨rfl, hB3⟩

end Go.Proofs.YtlgedljhheficaaGreatDoor
