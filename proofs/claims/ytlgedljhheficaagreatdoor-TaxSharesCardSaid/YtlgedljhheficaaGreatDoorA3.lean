/- Contracts of the tests of package catalog on one tax. -/
import Derived.Test.YtlgedljhheficaaGreatDoorA2
import Derived.Deep.QuietTactic
import Derived.BigQuiet
namespace Go.Proofs.YtlgedljhheficaaGreatDoor
open Go.RowKit

set_option maxHeartbeats 400000 in
theorem brok_any (f p : Int) (w : World) :
    Calls Tryz.prog 129 #[.agg #[.int .i64 f, .int .i64 p]] w fun e w' => e = .returned (.bool (brB f p)) ∧ Below w.heap.size w w' := by
  by_cases h1 : 0 ≤ f
  · by_cases h2 : f ≤ 1099511627776
    · by_cases h3 : 0 ≤ p
      · by_cases h4 : p ≤ 10000
        · go_enter Tryz.func129, Tryz.ntmps129
          go_wp2
          go_ret
          exact ⟨by simp [brB, h1, h2, h3, h4], (Below.refl _ _).alloc (Nat.le_refl _) _⟩
        · go_enter Tryz.func129, Tryz.ntmps129
          go_wp2
          go_ret
          exact ⟨by simp [brB, h4], (Below.refl _ _).alloc (Nat.le_refl _) _⟩
      · go_enter Tryz.func129, Tryz.ntmps129
        go_wp2
        go_ret
        exact ⟨by simp [brB]; omega, (Below.refl _ _).alloc (Nat.le_refl _) _⟩
    · go_enter Tryz.func129, Tryz.ntmps129
      go_wp2
      go_ret
      exact ⟨by simp [brB]; omega, (Below.refl _ _).alloc (Nat.le_refl _) _⟩
  · go_enter Tryz.func129, Tryz.ntmps129
    go_wp2
    go_ret
    exact ⟨by simp [brB]; omega, (Below.refl _ _).alloc (Nat.le_refl _) _⟩

set_option maxRecDepth 100000 in
set_option maxHeartbeats 1000000 in
theorem every_br (A : Option Addr) (n c : Nat) (brs : List (Int × Int)) (w : World) (hr : Row w w.heap.size A (bcells brs)) (hn : n = brs.length) (hl : n ≤ 140737488351232) :
    Calls Tryz.prog 128 #[.slice A n c, .func (.func 129) #[] #[]] w fun e w' => e = .returned (.bool (rangeB brs brs.length)) ∧ Below w.heap.size w w' := by
  have Hn := Lib.hid hn
  clear hn
  go_enter Tryz.func128, Tryz.ntmps128
  go_wp2
  go_loopw [9] (fun i wr => ∃ k : Nat, k ≤ n ∧ i = .int .i64 k ∧ rangeB brs k = true ∧ Below w.heap.size w wr) (fun i _ => n - (intOf i).toNat)
  case atStart => exact ⟨0, Nat.zero_le _, rfl, rfl, Below.refl _ _⟩
  case round =>
    obtain ⟨k, hk, rfl, hR, hb⟩ := hrel
    have HR := Lib.hid hR
    clear hR
    by_cases hlt : k < n
    · have hkl : k < brs.length := by have := Hn.out; omega
      have hsz : w.heap.size ≤ wr.heap.size := hb.size
      obtain ⟨b, off, rfl, hbb, hc⟩ := (hr.below hb).at_ 0 (by rw [bcells_length]; omega)
      have hcf := hc _ _ (bcells_from brs k hkl)
      have hcp := cell_assoc (hc _ _ (bcells_per brs k hkl))
      have hbw : b < wr.heap.size := by omega
      have Hs : Hid (rangeB brs (k + 1) = (rangeB brs k && brB (fromAt brs k) (perAt brs k))) := rangeB_succ brs k
      have Hno : Hid (brB (fromAt brs k) (perAt brs k) = false → rangeB brs brs.length = false) := fun h => rangeB_no hkl h
      clear hc hkl
      generalize fromAt brs k = f at *
      generalize perAt brs k = p at *
      go_wp2_with fail
      refine (brok_any _ _ _).mono ?_
      rintro e w1 ⟨rfl, hb1⟩
      have hb2 : Below w.heap.size w w1 := (hb.alloc hsz _).trans (hb1.mono (by simp; omega))
      cases hq : brB f p
      · have Hq := Lib.hid hq
        clear hq
        go_wp2
        go_ret
        exact ⟨by rw [Hno.out Hq.out]; rfl, hb2⟩
      · have Hq := Lib.hid hq
        clear hq
        go_wp2
        go_roundw
        case rel => exact ⟨k + 1, by omega, by go_num, by rw [Hs.out, HR.out, Hq.out]; rfl, hb2⟩
        case measure => simp [intOf]; omega
    · have hkn : k = brs.length := by have := Hn.out; omega
      rw [hkn] at HR
      clear hkn
      go_wp2
      go_ret
      exact ⟨by rw [HR.out]; rfl, hb⟩

set_option maxHeartbeats 400000 in
theorem tax_range (nm : ByteArray) (A : Option Addr) (n c : Nat) (brs : List (Int × Int)) (w : World) (hr : Row w w.heap.size A (bcells brs)) (hn : n = brs.length) (hl : n ≤ 140737488351232) :
    Calls Tryz.prog 116 #[.agg #[.string nm, .slice A n c]] w fun e w' => e = .returned (.bool (rangeB brs brs.length)) ∧ Below w.heap.size w w' := by
  have hb0 : Below w.heap.size w (w.alloc (.cells #[.string nm, .slice A n c] 25)) := (Below.refl _ _).alloc (Nat.le_refl _) _
  have hr0 := (hr.below hb0).more (B' := (w.alloc (.cells #[.string nm, .slice A n c] 25)).heap.size) (by simp)
  have Hn := Lib.hid hn
  have Hr := Lib.hid hr0
  clear hn hr hr0
  go_enter Tryz.func116, Tryz.ntmps116
  go_wp2_with fail
  refine (every_br _ _ _ brs _ Hr.out Hn.out hl).mono ?_
  rintro e w1 ⟨rfl, hb1⟩
  go_wp2
  go_ret
  exact ⟨rfl, hb0.trans (hb1.mono (by simp))⟩

set_option maxHeartbeats 400000 in
theorem tax_limit (nm : ByteArray) (A : Option Addr) (n c : Nat) (w : World) (hl : n ≤ 140737488351232) :
    Calls Tryz.prog 83 #[.agg #[.string nm, .slice A n c]] w fun e w' => e = .returned (.bool (decide (n ≤ 16))) ∧ Below w.heap.size w w' := by
  by_cases h : n ≤ 16
  · go_enter Tryz.func83, Tryz.ntmps83
    go_wp2
    go_ret
    exact ⟨by simp [h]; omega, (Below.refl _ _).alloc (Nat.le_refl _) _⟩
  · go_enter Tryz.func83, Tryz.ntmps83
    go_wp2
    go_ret
    exact ⟨by simp [h]; omega, (Below.refl _ _).alloc (Nat.le_refl _) _⟩

end Go.Proofs.YtlgedljhheficaaGreatDoor
