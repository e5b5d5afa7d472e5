/- The contract of catalog.Valid on a catalog that has one tax and nothing else, and of tax.Valid. -/
import Derived.Test.YtlgedljhheficaaGreatDoorA13
namespace Go.Proofs.YtlgedljhheficaaGreatDoor
open Go.RowKit

/-- The error of a tax. -/
def validE (nm : ByteArray) (brs : List (Int × Int)) : Int :=
  if decide (brs.length ≤ 16) = false then 4 else if fitsB nm = false then 6 else if formedB brs = false then 1 else if rangeB brs brs.length = false then 5 else 0

/-- A tax by value: its name and its brackets. -/
structure TaxV (w : World) (nm : ByteArray) (A : Option Addr) (n : Nat) (brs : List (Int × Int)) : Prop where
  row : Row w w.heap.size A (bcells brs)
  len : n = brs.length
  small : n ≤ 140737488351232
  name : PlainName nm
  tab : Tab w
theorem TaxV.below {w w' : World} {nm : ByteArray} {A : Option Addr} {n : Nat} {brs : List (Int × Int)} (h : TaxV w nm A n brs) (hb : Below w.heap.size w w') : TaxV w' nm A n brs :=
  ⟨(h.row.below hb).more hb.size, h.len, h.small, h.name, h.tab.below hb h.tab.1⟩

theorem cat_cell {w w1 : World} {g : Nat} (hb1 : Below (w.heap.size + 1) (w.alloc (catO g)) w1) :
    w1.cell? ⟨w.heap.size, 0, none⟩ = some (.slice none 0 0) ∧ w1.cell? ⟨w.heap.size, 1, none⟩ = some (.slice none 0 0) ∧ w1.cell? ⟨w.heap.size, 2, none⟩ = some (.slice none 0 0) ∧ w1.cell? ⟨w.heap.size, 3, none⟩ = some (.slice (some ⟨g, 0, none⟩) 1 1) :=
  ⟨(hb1.cell (p := ⟨w.heap.size, 0, none⟩) (by simp)).trans (by simp), (hb1.cell (p := ⟨w.heap.size, 1, none⟩) (by simp)).trans (by simp), (hb1.cell (p := ⟨w.heap.size, 2, none⟩) (by simp)).trans (by simp), (hb1.cell (p := ⟨w.heap.size, 3, none⟩) (by simp)).trans (by simp)⟩

set_option maxRecDepth 100000 in
set_option maxHeartbeats 1000000 in
theorem valid_one {w : World} {g : Nat} {nm : ByteArray} {A : Option Addr} {n c : Nat} {brs : List (Int × Int)} (h : TaxAt w g nm A n c brs) :
    Calls Tryz.prog 35 #[catV g] w fun e w' => e = .returned (.int .i64 (validE nm brs)) ∧ Below w.heap.size w w' := by
  have hb0 : Below w.heap.size w (w.alloc (catO g)) := (Below.refl _ _).alloc (Nat.le_refl _) _
  have Hv : Hid (validE nm brs = if decide (n ≤ 16) = false then 4 else if fitsB nm = false then 6 else if formedB brs = false then 1 else if rangeB brs brs.length = false then 5 else 0) := by
    show validE nm brs = _
    unfold validE; rw [← h.len]
  have H := Lib.hid h
  clear h
  generalize validE nm brs = E at *
  go_enter Tryz.func35, Tryz.ntmps35
  go_wp2_with fail
  refine (limits_one (H.out.below hb0)).mono ?_
  rintro e w1 ⟨rfl, hb1⟩
  have B1 : Below (w.heap.size + 1) (w.alloc (catO g)) w1 := by rw [World.size_alloc] at hb1; exact hb1
  have G1 : Below w.heap.size w w1 := hb0.trans (B1.mono (by omega))
  clear hb1
  cases h1 : decide (n ≤ 16)
  · have Hq := Lib.hid h1
    clear h1
    go_wp2
    go_ret
    exact ⟨by rw [Hv.out, if_pos Hq.out]; rfl, G1⟩
  have H1 := Lib.hid h1
  clear h1
  obtain ⟨c0, c1, c2, c3⟩ := cat_cell B1
  go_wp2_with fail
  refine (fit_one (H.out.below G1)).mono ?_
  rintro e w2 ⟨rfl, hb2⟩
  have B2 := B1.trans (hb2.mono (by have := B1.size; simp at this; omega))
  have G2 : Below w.heap.size w w2 := hb0.trans (B2.mono (by omega))
  clear hb2 c0 c1 c2 c3
  cases h2 : fitsB nm
  · have Hq := Lib.hid h2
    clear h2
    go_wp2
    go_ret
    exact ⟨by rw [Hv.out, if_neg (by rw [H1.out]; decide), if_pos Hq.out]; rfl, G2⟩
  have H2 := Lib.hid h2
  clear h2
  obtain ⟨c0, c1, c2, c3⟩ := cat_cell B2
  go_wp2_with fail
  refine (names_one (H.out.below G2)).mono ?_
  rintro e w3 ⟨rfl, hb3⟩
  have B3 := B2.trans (hb3.mono (by have := B2.size; simp at this; omega))
  have G3 : Below w.heap.size w w3 := hb0.trans (B3.mono (by omega))
  clear hb3 c0 c1 c2 c3
  obtain ⟨c0, c1, c2, c3⟩ := cat_cell B3
  go_wp2_with fail
  refine (formed_one (H.out.below G3)).mono ?_
  rintro e w4 ⟨rfl, hb4⟩
  have B4 := B3.trans (hb4.mono (by have := B3.size; simp at this; omega))
  have G4 : Below w.heap.size w w4 := hb0.trans (B4.mono (by omega))
  clear hb4 c0 c1 c2 c3
  cases h4 : formedB brs
  · have Hq := Lib.hid h4
    clear h4
    go_wp2
    go_ret
    exact ⟨by rw [Hv.out, if_neg (by rw [H1.out]; decide), if_neg (by rw [H2.out]; decide), if_pos Hq.out]; rfl, G4⟩
  have H4 := Lib.hid h4
  clear h4
  obtain ⟨c0, c1, c2, c3⟩ := cat_cell B4
  go_wp2_with fail
  refine (range_one (H.out.below G4)).mono ?_
  rintro e w5 ⟨rfl, hb5⟩
  have G5 : Below w.heap.size w w5 := G4.trans (hb5.mono G4.size)
  clear hb5 c0 c1 c2 c3
  cases h5 : rangeB brs brs.length
  · have Hq := Lib.hid h5
    clear h5
    go_wp2
    go_ret
    exact ⟨by rw [Hv.out, if_neg (by rw [H1.out]; decide), if_neg (by rw [H2.out]; decide), if_neg (by rw [H4.out]; decide), if_pos Hq.out]; rfl, G5⟩
  have H5 := Lib.hid h5
  clear h5
  go_wp2
  go_ret
  exact ⟨by rw [Hv.out, if_neg (by rw [H1.out]; decide), if_neg (by rw [H2.out]; decide), if_neg (by rw [H4.out]; decide), if_neg (by rw [H5.out]; decide)]; rfl, G5⟩

set_option maxRecDepth 100000 in
set_option maxHeartbeats 1000000 in
theorem valid_tax {w : World} {nm : ByteArray} {A : Option Addr} {n : Nat} (c : Nat) {brs : List (Int × Int)} (h : TaxV w nm A n brs) :
    Calls Tryz.prog 9 #[.agg #[.string nm, .slice A n c]] w fun e w' => e = .returned (.int .i64 (validE nm brs)) ∧ Below w.heap.size w w' := by
  have hb0 : Below w.heap.size w ((w.alloc (.cells #[.string nm, .slice A n c] 25)).alloc (.cells #[.string nm, .slice A n c] 25)) := ((Below.refl _ _).alloc (Nat.le_refl _) _).alloc (by simp) _
  have h1 := h.below hb0
  have hA : TaxAt ((w.alloc (.cells #[.string nm, .slice A n c] 25)).alloc (.cells #[.string nm, .slice A n c] 25)) (w.heap.size + 1) nm A n c brs :=
    ⟨by simp, by simp, by simp, h1.row, h1.len, h1.small, h1.name, h1.tab⟩
  have H := Lib.hid hA
  clear h h1 hA
  go_enter Tryz.func9, Tryz.ntmps9
  go_wp2_with fail
  refine (valid_one H.out).mono ?_
  rintro e w1 ⟨rfl, hb1⟩
  go_wp2
  go_ret
  exact ⟨rfl, hb0.trans (hb1.mono (by simp; omega))⟩

end Go.Proofs.YtlgedljhheficaaGreatDoor
