/- The contract of copies.Catalog on a catalog of items alone. -/
import Derived.Test.YthjfdfdgbpbanaaGreatDoorA24
namespace Go.Proofs.YthjfdfdgbpbanaaGreatDoor
open Go.RowKit

theorem copies_end {w wA : World} {n : Nat} {l : List It} {o1 o2 : Obj} {v u0 u1 u2 u3 : Value} {A : Option Addr} {c : Nat} (hv : v = .slice A n c) (ho : wA.ownsRow (w.heap.size + 2) 89 7 v n (icells l)) (hb : Below (w.heap.size + 2) ((w.alloc o1).alloc o2) wA) :
    CatPost w n l (.returned (.agg #[.slice A n c, .slice none 0 0, .slice none 0 0, .slice none 0 0])) ((((wA.setCell ⟨w.heap.size + 1, 0, none⟩ u0).setCell ⟨w.heap.size + 1, 1, none⟩ u1).setCell ⟨w.heap.size + 1, 2, none⟩ u2).setCell ⟨w.heap.size + 1, 3, none⟩ u3) := by
  subst hv
  have hx : ∀ (X : World) (j : Nat) (u : Value), X.ownsRow (w.heap.size + 2) 89 7 (.slice A n c) n (icells l) → (X.setCell ⟨w.heap.size + 1, j, none⟩ u).ownsRow (w.heap.size + 2) 89 7 (.slice A n c) n (icells l) := fun X j u h =>
    h.kept (grown_setCell X _ j u) (.inr (ne_row h (by omega)))
  have h4 := hx _ 3 u3 (hx _ 2 u2 (hx _ 1 u1 (hx _ 0 u0 ho)))
  refine ⟨_, rfl, ⟨h4.1, h4.2.imp id fun ⟨g, cap, cur, h1, h2, h3⟩ => ⟨g, cap, cur, h1, by omega, h3⟩⟩, ?_⟩
  have b0 : Below w.heap.size w wA := (((Below.refl _ w).alloc (Nat.le_refl _) o1).alloc (by simp) o2).trans (hb.mono (by omega))
  exact (((b0.setCell (p := ⟨w.heap.size + 1, 0, none⟩) (by simp) _).setCell (p := ⟨w.heap.size + 1, 1, none⟩) (by simp) _).setCell (p := ⟨w.heap.size + 1, 2, none⟩) (by simp) _).setCell (p := ⟨w.heap.size + 1, 3, none⟩) (by simp) _

theorem cell_far4 (U : World) (g j : Nat) (u0 u1 u2 u3 : Value) : ((((U.setCell ⟨g + 1, 0, none⟩ u0).setCell ⟨g + 1, 1, none⟩ u1).setCell ⟨g + 1, 2, none⟩ u2).setCell ⟨g + 1, 3, none⟩ u3).cell? ⟨g, j, none⟩ = U.cell? ⟨g, j, none⟩ :=
  World.cell?_of_block (by rw [Below.heap_setCell _ _ _ _ (by simp), Below.heap_setCell _ _ _ _ (by simp), Below.heap_setCell _ _ _ _ (by simp), Below.heap_setCell _ _ _ _ (by simp)])

set_option maxRecDepth 100000 in
set_option maxHeartbeats 4000000 in
theorem copies_items {w : World} {a : Addr} {n : Nat} (c : Nat) {l : List It} (h : ItemsV w (some a) n l) : Calls Tryz.prog 81 #[catV (some a) n c] w (CatPost w n l) := by
  have hb0 : Below w.heap.size w ((w.alloc (catO (some a) n c)).alloc (.cells #[.slice none 0 0, .slice none 0 0, .slice none 0 0, .slice none 0 0] 28)) := ((Below.refl _ _).alloc (Nat.le_refl _) _).alloc (by simp) _
  have HC : Hid (∀ W : World, Below ((w.alloc (catO (some a) n c)).alloc (.cells #[.slice none 0 0, .slice none 0 0, .slice none 0 0, .slice none 0 0] 28)).heap.size ((w.alloc (catO (some a) n c)).alloc (.cells #[.slice none 0 0, .slice none 0 0, .slice none 0 0, .slice none 0 0] 28)) W → Calls Tryz.prog 50 #[.slice (some a) n c] W (RowPost W 89 7 n (icells l))) :=
    fun W hW => clone_items ((h.below hb0).below hW) h.small
  have k1 := (Bk.new w 28 (catL (some a) n c)).alloc (.cells #[.slice none 0 0, .slice none 0 0, .slice none 0 0, .slice none 0 0] 28)
  have k2 := Bk.new (w.alloc (catO (some a) n c)) 28 [.slice none 0 0, .slice none 0 0, .slice none 0 0, .slice none 0 0]
  rw [World.size_alloc] at k2
  have HS : Hid (∀ U : World, Below ((w.alloc (catO (some a) n c)).alloc (.cells #[.slice none 0 0, .slice none 0 0, .slice none 0 0, .slice none 0 0] 28)).heap.size ((w.alloc (catO (some a) n c)).alloc (.cells #[.slice none 0 0, .slice none 0 0, .slice none 0 0, .slice none 0 0] 28)) U →
      U.cell? ⟨w.heap.size, 0, none⟩ = some (.slice (some a) n c) ∧ U.cell? ⟨w.heap.size, 1, none⟩ = some (.slice none 0 0) ∧ U.cell? ⟨w.heap.size, 2, none⟩ = some (.slice none 0 0) ∧ U.cell? ⟨w.heap.size, 3, none⟩ = some (.slice none 0 0)) := fun U hU => by
    have e := k1.below hU (by simp; omega)
    exact ⟨e.cell 0, e.cell 1, e.cell 2, e.cell 3⟩
  have HK2 := Lib.hid k2
  clear h k1 k2 hb0
  go_enter Tryz.func81, Tryz.ntmps81
  go_wp2_with fail
  generalize hW : (w.alloc (catO (some a) n c)).alloc (.cells #[.slice none 0 0, .slice none 0 0, .slice none 0 0, .slice none 0 0] 28) = W at *
  have hWs : W.heap.size = w.heap.size + 2 := by rw [← hW]; simp
  have HWs := Lib.hid hWs
  have HW := Lib.hid hW
  clear hWs hW
  go_region_held3 (fun U => U.cell? ⟨w.heap.size, 0, none⟩ = some (.slice (some a) n c) ∧ U.cell? ⟨w.heap.size, 1, none⟩ = some (.slice none 0 0) ∧ U.cell? ⟨w.heap.size, 2, none⟩ = some (.slice none 0 0) ∧ U.cell? ⟨w.heap.size, 3, none⟩ = some (.slice none 0 0)) (first | exact HS.out _ (Below.refl _ W).drew | exact HS.out _ BA | (rw [cell_far4, cell_far4, cell_far4, cell_far4]; exact HS.out _ BA))
    (first
      | (go_at_call 50; (with_reducible refine (HC.out _ (Below.refl _ W).drew).mono ?_); rintro e wA ⟨v, rfl, hoA, hbA⟩; obtain ⟨Av, cv, rfl, _, _, _⟩ := row_form hoA; have BA : Below W.heap.size W wA := (Below.refl W.heap.size W).drew.trans hbA; have KA := HK2.out.below BA HK2.out.lt; have z0 := KA.cell 0; have z1 := KA.cell 1; have z2 := KA.cell 2; have z3 := KA.cell 3; have f0 := KA.frozen 0; have f1 := KA.frozen 1; have f2 := KA.frozen 2; have f3 := KA.frozen 3; have zl := KA.lt; have HO := Lib.hid hoA; have HBA := Lib.hid BA; clear hoA hbA KA)
      | (go_at_call 105; (with_reducible refine (each_nil105 _ _).mono ?_); rintro e w' ⟨rfl, rfl⟩)
      | (go_at_call 107; (with_reducible refine (each_nil107 _ _).mono ?_); rintro e w' ⟨rfl, rfl⟩)
      | (go_at_call 109; (with_reducible refine (each_nil109 _ _).mono ?_); rintro e w' ⟨rfl, rfl⟩))
  all_goals go_wp2_with fail
  all_goals
    have k9 := (((((HK2.out.below HBA.out HK2.out.lt).set 0 (.slice Av n cv)).set 1 (.slice none 0 0)).set 2 (.slice none 0 0)).set 3 (.slice none 0 0))
    have r0 := k9.cell 0
    have r1 := k9.cell 1
    have r2 := k9.cell 2
    have r3 := k9.cell 3
    have hB := HBA.out
    rw [HWs.out, ← HW.out] at hB
    have hO := HO.out
    rw [show W.drew.heap.size = w.heap.size + 2 from HWs.out] at hO
    exact bodyPost_ret (v := .agg #[.slice Av n cv, .slice none 0 0, .slice none 0 0, .slice none 0 0]) (by simp [results, Tryz.results81, go_sem, r0, r1, r2, r3]) rfl (copies_end rfl hO hB)

end Go.Proofs.YthjfdfdgbpbanaaGreatDoor
