/- The contract of catalog.Valid on a catalog that has one tax and nothing else, and of tax.Valid. -/
import Derived.Test.YtlgedljhheficaaGreatDoorA11
namespace Go.Proofs.YtlgedljhheficaaGreatDoor
open Go.RowKit

set_option maxHeartbeats 400000 in
theorem name_fits (nm : ByteArray) (hp : PlainName nm) (A : Option Addr) (n c : Nat) (w : World) (hT : Tab w) :
    Calls Tryz.prog 89 #[.agg #[.string nm, .slice A n c]] w fun e w' => e = .returned (.bool (fitsB nm)) ∧ Below w.heap.size w w' := by
  have hb0 : Below w.heap.size w (w.alloc (.cells #[.string nm, .slice A n c] 25)) := (Below.refl _ _).alloc (Nat.le_refl _) _
  have HT := Lib.hid (hT.below hb0 hT.1)
  have Hp := Lib.hid hp
  clear hT hp
  go_enter Tryz.func89, Tryz.ntmps89
  go_wp2_with fail
  refine (fits_plain nm Hp.out _ HT.out).mono ?_
  rintro e w1 ⟨rfl, hb1⟩
  go_wp2
  go_ret
  exact ⟨rfl, hb0.trans (hb1.mono (by simp))⟩

/-- A catalog's value: one tax at block g. -/
abbrev catV (g : Nat) : Value := .agg #[.slice none 0 0, .slice none 0 0, .slice none 0 0, .slice (some ⟨g, 0, none⟩) 1 1]
abbrev catO (g : Nat) : Obj := .cells #[.slice none 0 0, .slice none 0 0, .slice none 0 0, .slice (some ⟨g, 0, none⟩) 1 1] 61

/-- The tax at block g: its name and its brackets. -/
structure TaxAt (w : World) (g : Nat) (nm : ByteArray) (A : Option Addr) (n c : Nat) (brs : List (Int × Int)) : Prop where
  lt : g < w.heap.size
  c0 : w.cell? ⟨g, 0, none⟩ = some (.string nm)
  c1 : w.cell? ⟨g, 1, none⟩ = some (.slice A n c)
  row : Row w w.heap.size A (bcells brs)
  len : n = brs.length
  small : n ≤ 140737488351232
  name : PlainName nm
  tab : Tab w

theorem TaxAt.below {w w' : World} {g : Nat} {nm : ByteArray} {A : Option Addr} {n c : Nat} {brs : List (Int × Int)} (h : TaxAt w g nm A n c brs) (hb : Below w.heap.size w w') : TaxAt w' g nm A n c brs :=
  ⟨Nat.lt_of_lt_of_le h.lt hb.size, (hb.cell (p := ⟨g, 0, none⟩) h.lt).trans h.c0, (hb.cell (p := ⟨g, 1, none⟩) h.lt).trans h.c1, (h.row.below hb).more hb.size, h.len, h.small, h.name, h.tab.below hb h.tab.1⟩

set_option maxRecDepth 100000 in
set_option maxHeartbeats 1000000 in
theorem limits_one {w : World} {g : Nat} {nm : ByteArray} {A : Option Addr} {n c : Nat} {brs : List (Int × Int)} (h : TaxAt w g nm A n c brs) :
    Calls Tryz.prog 54 #[catV g] w fun e w' => e = .returned (.bool (decide (n ≤ 16))) ∧ Below w.heap.size w w' := by
  have hb0 : Below w.heap.size w (w.alloc (catO g)) := (Below.refl _ _).alloc (Nat.le_refl _) _
  have H := Lib.hid h
  clear h
  go_enter Tryz.func54, Tryz.ntmps54
  go_wp2_with fail
  refine (every_nil78 _ _).mono ?_
  rintro e w1 ⟨rfl, rfl⟩
  go_wp2_with fail
  refine (every_nil80 _ _).mono ?_
  rintro e w1 ⟨rfl, rfl⟩
  go_wp2_with fail
  have h1 := H.out.below hb0
  refine (every_one83 g nm A n c (decide (n ≤ 16)) _ h1.c0 h1.c1 (fun W hW => tax_limit nm A n c W h1.small)).mono ?_
  rintro e w1 ⟨rfl, hb1⟩
  go_wp2
  go_ret
  exact ⟨rfl, hb0.trans (hb1.mono (by simp))⟩

end Go.Proofs.YtlgedljhheficaaGreatDoor
