/- The contract of areUnits. -/
import Derived.Test.YthjfdfdgbpbanaaGreatDoorA2
namespace Go.Proofs.YthjfdfdgbpbanaaGreatDoor
open Go.RowKit

def wAt (ws : List Int) (i : Nat) : Int := ws[i]?.getD 0
def unitsB (zs : List Int) : Bool := decide (∀ i, i < zs.length → 0 ≤ wAt zs i ∧ wAt zs i ≤ 1099511627776)

set_option maxRecDepth 100000 in
set_option maxHeartbeats 1000000 in
theorem units_any {w : World} {A : Option Addr} {n c : Nat} {zs : List Int} (hr : Row w w.heap.size A (ints zs)) (hn : n = zs.length) (hs : n ≤ 140737488351232) :
    Calls Tryz.prog 58 #[.slice A n c] w fun e w' => e = .returned (.bool (unitsB zs)) ∧ w = w' := by
  have Hr := Lib.hid hr
  have Hn := Lib.hid hn
  clear hr hn
  go_enter Tryz.func58, Tryz.ntmps58
  go_wp2_with fail
  go_loop [7] (fun i => ∃ k : Nat, k ≤ n ∧ i = .int .i64 (k : Int) ∧ ∀ j, j < k → 0 ≤ wAt zs j ∧ wAt zs j ≤ 1099511627776) (fun i => n - (intOf i).toNat)
  case atStart => exact ⟨0, Nat.zero_le _, rfl, fun j hj => by omega⟩
  case round =>
    obtain ⟨k, hk, rfl, hg⟩ := hrel
    have HG := Lib.hid hg
    clear hg
    by_cases hlt : k < n
    · obtain ⟨b, off, rfl, hbb, hc⟩ := Hr.out.at_ k (by rw [ints_length]; have := Hn.out; omega)
      have hcell : w.cell? ⟨b, off + k, none⟩ = some (.int .i64 (wAt zs k)) := hc k _ (ints_at zs k (by have := Hn.out; omega))
      have hbad : Hid (¬ (0 ≤ wAt zs k ∧ wAt zs k ≤ 1099511627776) → unitsB zs = false) := fun h => by
        simp only [unitsB, decide_eq_false_iff_not]
        intro hall
        exact h (hall k (by have := Hn.out; omega))
      have hok : Hid (0 ≤ wAt zs k ∧ wAt zs k ≤ 1099511627776 → ∀ j, j < k + 1 → 0 ≤ wAt zs j ∧ wAt zs j ≤ 1099511627776) := fun h j hj => by
        by_cases hjk : j < k
        · exact HG.out j hjk
        · obtain rfl : j = k := by omega
          exact h
      clear hc HG
      generalize wAt zs k = z at *
      by_cases h0 : z < 0
      · have hu := hbad.out (by omega)
        go_wp2
        go_ret
        exact ⟨rfl, rfl⟩
      · by_cases h1 : 1099511627776 < z
        · have hu := hbad.out (by omega)
          go_wp2
          go_ret
          exact ⟨rfl, rfl⟩
        · have hu := Lib.hid (hok.out (by omega))
          go_wp2
          go_round
          case rel => exact ⟨k + 1, by omega, by go_num, hu.out⟩
          case measure => simp [intOf]; omega
    · obtain rfl : k = n := by omega
      have hu : unitsB zs = true := by
        simp only [unitsB, decide_eq_true_eq]
        intro i hi
        exact HG.out i (by have := Hn.out; omega)
      go_wp2
      go_ret
      exact ⟨rfl, rfl⟩

end Go.Proofs.YthjfdfdgbpbanaaGreatDoor
