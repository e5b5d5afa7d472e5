/- Contracts of tax.inRange, Due and More. -/
import Derived.Test.YtlgedljhheficaaGreatDoorA14
import Derived.Deep.RegionWith
namespace Go.Proofs.YtlgedljhheficaaGreatDoor
open Go.RowKit

def inB (x : Int) : Bool := decide (0 ≤ x) && decide (x ≤ 1099511627776)

set_option maxHeartbeats 400000 in
theorem inRange_any (x : Int) (w : World) : Calls Tryz.prog 37 #[.int .i64 x] w fun e w' => e = .returned (.bool (inB x)) ∧ w = w' := by
  by_cases h1 : 0 ≤ x
  · by_cases h2 : x ≤ 1099511627776
    · go_enter Tryz.func37, Tryz.ntmps37
      go_wp2
      go_ret
      exact ⟨by simp [inB, h1, h2], rfl⟩
    · go_enter Tryz.func37, Tryz.ntmps37
      go_wp2
      go_ret
      exact ⟨by simp [inB, h1]; omega, rfl⟩
  · go_enter Tryz.func37, Tryz.ntmps37
    go_wp2
    go_ret
    exact ⟨by simp [inB]; omega, rfl⟩

theorem inR_of_valid {nm : ByteArray} {brs : List (Int × Int)} (h : validE nm brs = 0) : InR brs := by
  unfold validE at h
  split at h
  · omega
  · rename_i h1
    split at h
    · omega
    · split at h
      · omega
      · split at h
        · omega
        · rename_i h4
          exact inR_of (by simpa using h1) (by simpa using h4)
theorem validE_cases (nm : ByteArray) (brs : List (Int × Int)) : validE nm brs = 0 ∨ (validE nm brs != 0) = true := by
  by_cases h : validE nm brs = 0
  · exact .inl h
  · exact .inr (by simpa using h)
theorem inB_true {x : Int} (h : inB x = true) : 0 ≤ x ∧ x ≤ 1099511627776 := by simpa [inB] using h

/-- What Due returns: the tax and the error. -/
def dueR (nm : ByteArray) (brs : List (Int × Int)) (sum : Int) : Int × Int :=
  if validE nm brs = 0 then (if inB sum = true then (due brs sum, 0) else (0, 5)) else (0, validE nm brs)

set_option maxRecDepth 100000 in
set_option maxHeartbeats 1000000 in
theorem Due_any {w : World} {nm : ByteArray} {A : Option Addr} {n : Nat} (c : Nat) {brs : List (Int × Int)} (sum : Int) (h : TaxV w nm A n brs) :
    Calls Tryz.prog 12 #[.agg #[.string nm, .slice A n c], .int .i64 sum] w fun e w' => e = .returned (.tuple #[.int .i64 (dueR nm brs sum).1, .int .i64 (dueR nm brs sum).2]) ∧ Below w.heap.size w w' := by
  have hb0 : Below w.heap.size w (w.alloc (.cells #[.string nm, .slice A n c] 25)) := (Below.refl _ _).alloc (Nat.le_refl _) _
  have Hd : Hid (dueR nm brs sum = if validE nm brs = 0 then (if inB sum = true then (due brs sum, 0) else (0, 5)) else (0, validE nm brs)) := rfl
  generalize dueR nm brs sum = D at *
  have H := Lib.hid h
  clear h
  go_enter Tryz.func12, Tryz.ntmps12
  go_wp2_with fail
  refine (valid_tax c (H.out.below hb0)).mono ?_
  rintro e w1 ⟨rfl, hb1⟩
  have G1 : Below w.heap.size w w1 := hb0.trans (hb1.mono (by simp))
  rcases validE_cases nm brs with hv | hv
  · have hI := inR_of_valid hv
    rw [hv]
    rw [if_pos hv] at Hd
    clear hv
    have c0 : w1.cell? ⟨w.heap.size, 0, none⟩ = some (.string nm) := (hb1.cell (p := ⟨w.heap.size, 0, none⟩) (by simp)).trans (by simp)
    have c1 : w1.cell? ⟨w.heap.size, 1, none⟩ = some (.slice A n c) := (hb1.cell (p := ⟨w.heap.size, 1, none⟩) (by simp)).trans (by simp)
    go_wp2_with fail
    refine (inRange_any _ _).mono ?_
    rintro e w2 ⟨rfl, rfl⟩
    cases hi : inB sum
    · rw [hi] at Hd
      clear hi
      go_wp2
      go_ret2
      exact ⟨by rw [Hd.out]; rfl, G1⟩
    · obtain ⟨hs0, hs1⟩ := inB_true hi
      rw [hi] at Hd
      clear hi
      go_wp2_with fail
      have h1 := H.out.below G1
      refine (due_any nm A n c brs sum _ h1.row h1.len hI hs0 hs1).mono ?_
      rintro e w2 ⟨rfl, hb2⟩
      clear h1
      go_wp2
      go_ret2
      exact ⟨by rw [Hd.out]; rfl, G1.trans (hb2.mono G1.size)⟩
  · have hne : ¬ validE nm brs = 0 := by simpa using hv
    rw [if_neg hne] at Hd
    generalize validE nm brs = E at *
    clear hne
    go_wp2
    go_ret2
    exact ⟨by rw [Hd.out]; rfl, G1⟩

end Go.Proofs.YtlgedljhheficaaGreatDoor
