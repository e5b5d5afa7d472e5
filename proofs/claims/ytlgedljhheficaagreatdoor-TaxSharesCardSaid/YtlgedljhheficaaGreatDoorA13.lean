/- Contracts of the other tests of catalog.Valid on a catalog with one tax. -/
import Derived.Test.YtlgedljhheficaaGreatDoorA12
import Derived.Laws.EntriesVeiled
namespace Go.Proofs.YtlgedljhheficaaGreatDoor
open Go.RowKit

set_option maxRecDepth 100000 in
set_option maxHeartbeats 1000000 in
theorem fit_one {w : World} {g : Nat} {nm : ByteArray} {A : Option Addr} {n c : Nat} {brs : List (Int × Int)} (h : TaxAt w g nm A n c brs) :
    Calls Tryz.prog 55 #[catV g] w fun e w' => e = .returned (.bool (fitsB nm)) ∧ Below w.heap.size w w' := by
  have hb0 : Below w.heap.size w (w.alloc (catO g)) := (Below.refl _ _).alloc (Nat.le_refl _) _
  have H := Lib.hid h
  clear h
  go_enter Tryz.func55, Tryz.ntmps55
  go_wp2_with fail
  refine (every_nil84 _ _).mono ?_
  rintro e w1 ⟨rfl, rfl⟩
  go_wp2_with fail
  refine (every_nil78 _ _).mono ?_
  rintro e w1 ⟨rfl, rfl⟩
  go_wp2_with fail
  refine (every_nil80 _ _).mono ?_
  rintro e w1 ⟨rfl, rfl⟩
  go_wp2_with fail
  have h1 := H.out.below hb0
  refine (every_one89 g nm A n c (fitsB nm) _ h1.c0 h1.c1 (fun W hW => name_fits nm h1.name A n c W (h1.tab.below hW h1.tab.1))).mono ?_
  rintro e w1 ⟨rfl, hb1⟩
  clear h1
  go_wp2
  go_ret
  exact ⟨rfl, hb0.trans (hb1.mono (by simp))⟩

set_option maxRecDepth 100000 in
set_option maxHeartbeats 1000000 in
theorem names_one {w : World} {g : Nat} {nm : ByteArray} {A : Option Addr} {n c : Nat} {brs : List (Int × Int)} (h : TaxAt w g nm A n c brs) :
    Calls Tryz.prog 56 #[catV g] w fun e w' => e = .returned (.bool true) ∧ Below w.heap.size w w' := by
  have hb0 : Below w.heap.size w (w.alloc (catO g)) := (Below.refl _ _).alloc (Nat.le_refl _) _
  have H := Lib.hid h
  clear h
  go_enter Tryz.func56, Tryz.ntmps56
  go_wp2_with fail
  refine (differ_nil90 _ _).mono ?_
  rintro e w1 ⟨rfl, hb1⟩
  have d1 : w1.cell? ⟨w.heap.size, 1, none⟩ = some (.slice none 0 0) := (hb1.cell (p := ⟨w.heap.size, 1, none⟩) (by simp)).trans (by simp)
  have d2 : w1.cell? ⟨w.heap.size, 2, none⟩ = some (.slice none 0 0) := (hb1.cell (p := ⟨w.heap.size, 2, none⟩) (by simp)).trans (by simp)
  have d3 : w1.cell? ⟨w.heap.size, 3, none⟩ = some (.slice (some ⟨g, 0, none⟩) 1 1) := (hb1.cell (p := ⟨w.heap.size, 3, none⟩) (by simp)).trans (by simp)
  have s1 := hb1.size
  simp only [World.size_alloc] at s1
  go_wp2_with fail
  refine (differ_nil92 _ _).mono ?_
  rintro e w2 ⟨rfl, hb2⟩
  have f2 : w2.cell? ⟨w.heap.size, 2, none⟩ = some (.slice none 0 0) := (hb2.cell (p := ⟨w.heap.size, 2, none⟩) (by simp; omega)).trans d2
  have f3 : w2.cell? ⟨w.heap.size, 3, none⟩ = some (.slice (some ⟨g, 0, none⟩) 1 1) := (hb2.cell (p := ⟨w.heap.size, 3, none⟩) (by simp; omega)).trans d3
  have s2 := hb2.size
  clear d1 d2 d3
  go_wp2_with fail
  refine (differ_nil94 _ _).mono ?_
  rintro e w3 ⟨rfl, hb3⟩
  have g3 : w3.cell? ⟨w.heap.size, 3, none⟩ = some (.slice (some ⟨g, 0, none⟩) 1 1) := (hb3.cell (p := ⟨w.heap.size, 3, none⟩) (by simp; omega)).trans f3
  have s3 := hb3.size
  clear f2 f3
  go_wp2_with fail
  have hb13 : Below w.heap.size w w3 := ((hb0.trans (hb1.mono (by simp))).trans (hb2.mono (by omega))).trans (hb3.mono (by omega))
  have h1 := H.out.below hb13
  refine (differ_one g nm A n c _ h1.lt (by have := h1.name.len; unfold maxLen; omega) h1.c0 h1.c1).mono ?_
  rintro e w4 ⟨rfl, hb4⟩
  clear h1
  go_wp2
  go_ret
  exact ⟨rfl, hb13.trans (hb4.mono (by omega))⟩

set_option maxRecDepth 100000 in
set_option maxHeartbeats 1000000 in
theorem formed_one {w : World} {g : Nat} {nm : ByteArray} {A : Option Addr} {n c : Nat} {brs : List (Int × Int)} (h : TaxAt w g nm A n c brs) :
    Calls Tryz.prog 57 #[catV g] w fun e w' => e = .returned (.bool (formedB brs)) ∧ Below w.heap.size w w' := by
  have hb0 : Below w.heap.size w ((w.alloc (catO g)).alloc (.cells #[.func (.func 98) #[] #[.pointer (some ⟨w.heap.size, 0, none⟩)]] 146)) := ((Below.refl _ _).alloc (Nat.le_refl _) _).alloc (by simp) _
  have H := Lib.hid h
  clear h
  go_enter Tryz.func57, Tryz.ntmps57
  go_wp2_with fail
  refine (every_nil84 _ _).mono ?_
  rintro e w1 ⟨rfl, rfl⟩
  go_wp2_with fail
  refine (every_nil78 _ _).mono ?_
  rintro e w1 ⟨rfl, rfl⟩
  go_wp2_with fail
  refine (every_nil80 _ _).mono ?_
  rintro e w1 ⟨rfl, rfl⟩
  go_wp2_with fail
  have h1 := H.out.below hb0
  refine (every_one106 g nm A n c (formedB brs) _ h1.c0 h1.c1 (fun W hW => tax_formed nm A n c brs W ((h1.row.below hW).more hW.size) h1.len h1.small)).mono ?_
  rintro e w1 ⟨rfl, hb1⟩
  clear h1
  go_wp2
  go_ret
  exact ⟨rfl, hb0.trans (hb1.mono (by simp; omega))⟩

set_option maxRecDepth 100000 in
set_option maxHeartbeats 1000000 in
theorem range_one {w : World} {g : Nat} {nm : ByteArray} {A : Option Addr} {n c : Nat} {brs : List (Int × Int)} (h : TaxAt w g nm A n c brs) :
    Calls Tryz.prog 58 #[catV g] w fun e w' => e = .returned (.bool (rangeB brs brs.length)) ∧ Below w.heap.size w w' := by
  have hb0 : Below w.heap.size w ((w.alloc (catO g)).alloc (.cells #[.func (.func 107) #[] #[]] 146)) := ((Below.refl _ _).alloc (Nat.le_refl _) _).alloc (by simp) _
  have H := Lib.hid h
  clear h
  go_enter Tryz.func58, Tryz.ntmps58
  go_wp2_with fail
  refine (every_nil84 _ _).mono ?_
  rintro e w1 ⟨rfl, rfl⟩
  go_wp2_with fail
  refine (every_nil78 _ _).mono ?_
  rintro e w1 ⟨rfl, rfl⟩
  go_wp2_with fail
  refine (every_nil80 _ _).mono ?_
  rintro e w1 ⟨rfl, rfl⟩
  go_wp2_with fail
  have h1 := H.out.below hb0
  refine (every_one116 g nm A n c (rangeB brs brs.length) _ h1.c0 h1.c1 (fun W hW => tax_range nm A n c brs W ((h1.row.below hW).more hW.size) h1.len h1.small)).mono ?_
  rintro e w1 ⟨rfl, hb1⟩
  clear h1
  go_wp2
  go_ret
  exact ⟨rfl, hb0.trans (hb1.mono (by simp; omega))⟩

end Go.Proofs.YtlgedljhheficaaGreatDoor
