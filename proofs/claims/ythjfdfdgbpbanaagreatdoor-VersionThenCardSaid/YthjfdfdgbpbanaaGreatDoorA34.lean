/- The contract of the reference's Missing. -/
import Derived.Test.YthjfdfdgbpbanaaGreatDoorA28
namespace Go.Proofs.YthjfdfdgbpbanaaGreatDoor
open Go.RowKit

set_option maxRecDepth 100000 in
set_option maxHeartbeats 1000000 in
theorem rmissing_any {w : World} {A A' : Option Addr} {m m' : Nat} (c c' : Nat) {ts : List Tr} {hs : List Int} (ht : TosV w A m ts) (hh : IntsV w A' m' hs) (hm : m ≤ 1000000) (hm' : m' ≤ 1000000) :
    Calls Tryz.prog 26 #[.slice A m c, .slice A' m' c'] w (MissPost w ts hs) := by
  have Hlt := Lib.hid ht.len
  have Hlh := Lib.hid hh.len
  have HT := Lib.hid ht
  have HU := Lib.hid hh
  clear ht hh
  go_enter Tryz.func26, Tryz.ntmps26
  go_wp2_with fail
  go_loop [6] (fun i => ∃ k : Nat, k ≤ m' ∧ i = .int .i64 k ∧ missTo ts hs k = none) (fun i => m' - (intOf i).toNat)
  case atStart => exact ⟨0, Nat.zero_le _, rfl, rfl⟩
  case round =>
    obtain ⟨k, hk, rfl, hN⟩ := hrel
    have HN := Lib.hid hN
    clear hN
    by_cases hlt : k < m'
    · obtain ⟨b', off', rfl, hbb', hc'⟩ := HU.out.row.at_ k (by rw [ints_length]; have := Hlh.out; omega)
      have d1 : w.cell? ⟨b', off' + k, none⟩ = some (.int .i64 (wAt hs k)) := hc' k _ (ints_at hs k (by have := Hlh.out; omega))
      have Hno : Hid (missB ts hs k = false → missTo ts hs (k + 1) = none) := fun h => by simp [missTo, HN.out, h]
      have Hyes : Hid (missB ts hs k = true → missI ts hs = some k) := fun h => by
        have : missTo ts hs (k + 1) = some k := by simp [missTo, HN.out, h]
        exact missTo_stays this _ (by have := Hlh.out; omega)
      have Hd : Hid (missB ts hs k = (decide (0 < wAt hs k) && (decide (m ≤ k) || decide (itemAt ts k < 0)))) := by show missB ts hs k = _; rw [Hlt.out]; rfl
      clear hc'
      by_cases h0 : 0 < wAt hs k
      · by_cases h1 : m ≤ k
        · have Hq := Lib.hid (Hyes.out (by rw [Hd.out]; simp [h0, h1]))
          clear Hyes Hno Hd
          generalize wAt hs k = x at *
          have e1 : decide (m ≤ k) = true := by simpa using h1
          go_wp2_with fail
          go_ret2
          exact ⟨by rw [Hq.out]; rfl, rfl⟩
        · obtain ⟨b, off, rfl, hbb, hc⟩ := HT.out.row.at_ 0 (by rw [tcells_length]; have := Hlt.out; omega)
          have c1 := hc _ _ (tcells_at ts k (by have := Hlt.out; omega)).1
          have e1 : decide (m ≤ k) = false := by simpa using h1
          have k0 : (0 : Int) ≤ (k : Int) := by omega
          have k1 : (k : Int) < (m : Int) := by omega
          clear hc
          by_cases h2 : itemAt ts k < 0
          · have Hq := Lib.hid (Hyes.out (by rw [Hd.out]; simp [h0, h2]))
            clear Hyes Hno Hd
            generalize wAt hs k = x at *
            generalize itemAt ts k = y at *
            go_wp2_with fail
            go_ret2
            exact ⟨by rw [Hq.out]; rfl, rfl⟩
          · have Hq := Lib.hid (Hno.out (by rw [Hd.out]; simp [e1]; omega))
            clear Hyes Hno Hd
            generalize wAt hs k = x at *
            generalize itemAt ts k = y at *
            go_wp2_with fail
            go_round
            case rel => exact ⟨k + 1, by omega, by go_num, Hq.out⟩
            case measure => simp [intOf]; omega
      · have Hq := Lib.hid (Hno.out (by rw [Hd.out]; simp [h0]))
        have e0 : decide (0 < wAt hs k) = false := by simpa using h0
        clear Hyes Hno Hd
        generalize wAt hs k = x at *
        go_wp2_with fail
        go_round
        case rel => exact ⟨k + 1, by omega, by go_num, Hq.out⟩
        case measure => simp [intOf]; omega
    · have hkn : k = hs.length := by have := Hlh.out; omega
      have Hq : Hid (missI ts hs = none) := by show missI ts hs = none; unfold missI; rw [← hkn]; exact HN.out
      clear hkn
      go_wp2_with fail
      go_ret2
      exact ⟨by rw [Hq.out]; rfl, rfl⟩

end Go.Proofs.YthjfdfdgbpbanaaGreatDoor
