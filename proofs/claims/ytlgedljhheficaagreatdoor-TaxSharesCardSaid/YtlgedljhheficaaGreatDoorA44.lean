/- The contract of the reference's due. -/
import Derived.Test.YtlgedljhheficaaGreatDoorA4
namespace Go.Proofs.YtlgedljhheficaaGreatDoor
open Go.RowKit

theorem rate1_max (brs : List (Int × Int)) (sum : Int) (k : Nat) : rate1 brs sum k = max 0 (endAt brs sum k - fromAt brs k) * perAt brs k := by
  unfold rate1
  split
  · rw [Int.max_eq_right (by omega)]
  · rw [Int.max_eq_left (by omega)]; simp

set_option maxRecDepth 100000 in
set_option maxHeartbeats 1000000 in
theorem rdue_any (nm : ByteArray) (A : Option Addr) (n c : Nat) (brs : List (Int × Int)) (sum : Int) (w : World) (hr : Row w w.heap.size A (bcells brs)) (hn : n = brs.length) (hI : InR brs)
    (h0 : 0 ≤ sum) (h1 : sum ≤ 1099511627776) :
    Calls Tryz.prog 40 #[.agg #[.string nm, .slice A n c], .int .i64 sum] w fun e w' => e = .returned (.int .i64 (due brs sum)) ∧ Below w.heap.size w w' := by
  have hl := hI.len
  have Hn := Lib.hid hn
  have hn16 : n ≤ 16 := by omega
  clear hn
  go_enter Tryz.func40, Tryz.ntmps40
  go_wp2
  go_loopw [5, 6] (fun r i wr => ∃ k : Nat, k ≤ n ∧ i = .int .i64 k ∧ r = .int .i64 (rates brs sum k) ∧ Below (w.heap.size + 1) (w.alloc (.cells #[.string nm, .slice A n c] 25)) wr) (fun _ i _ => n - (intOf i).toNat)
  case atStart => exact ⟨0, Nat.zero_le _, rfl, rfl, Below.refl _ _⟩
  case round =>
    obtain ⟨k, hk, rfl, rfl, hb⟩ := hrel
    have hcv : wr.cell? ⟨w.heap.size, 1, none⟩ = some (.slice A n c) := (hb.cell (p := ⟨w.heap.size, 1, none⟩) (by simp)).trans (by simp)
    have hsz : w.heap.size < wr.heap.size := by have := hb.size; simp at this; omega
    by_cases hlt : k < n
    · have hkl : k < brs.length := by have := Hn.out; omega
      obtain ⟨b, off, rfl, hbb, hc⟩ := hr.at_ 0 (by rw [bcells_length]; omega)
      have hcw : ∀ j u, (bcells brs)[j]? = some u → wr.cell? ⟨b, off + j, none⟩ = some u := fun j u hu => (hb.cell (p := ⟨b, off + j, none⟩) (by simp; omega)).trans ((World.cell?_alloc_lt w _ _ (by exact hbb)).trans (hc j u hu))
      have hcf := hcw _ _ (bcells_from brs k hkl)
      have hcp := cell_assoc (hcw _ _ (bcells_per brs k hkl))
      have f0 := hI.lo k hkl
      have f1 := hI.hi k hkl
      have p0 := hI.plo k hkl
      have p1 := hI.phi k hkl
      have Hc := Lib.hid hcw
      have hbw : b < wr.heap.size := by omega
      have rb := rates_bd hI h1 k (by omega)
      have r1 : rates brs sum k ≤ 16 * 10995116277760000 := by
        have : (k : Int) ≤ 16 := by omega
        omega
      have r0 := rb.1
      have Hr : Hid (rates brs sum (k + 1) = rates brs sum k + rate1 brs sum k) := rfl
      have hm := rate1_max brs sum k
      have hE := endAt_le brs sum k
      have He0 : 0 ≤ endAt brs sum k := by
        unfold endAt
        split
        · have := hI.lo (k + 1) (by omega)
          split <;> omega
        · exact h0
      have hxb := mul_bd (x := max 0 (endAt brs sum k - fromAt brs k)) (y := perAt brs k) (by omega) (by omega) p0 p1
      rw [← hm] at hxb
      have Hval : Hid (wrap64 (rates brs sum k + wrap64 ((if fromAt brs k < endAt brs sum k then endAt brs sum k - fromAt brs k else 0) * perAt brs k)) = rates brs sum (k + 1)) := by
        show wrap64 (rates brs sum k + wrap64 ((if fromAt brs k < endAt brs sum k then endAt brs sum k - fromAt brs k else 0) * perAt brs k)) = rates brs sum (k + 1)
        have e : (if fromAt brs k < endAt brs sum k then endAt brs sum k - fromAt brs k else 0) * perAt brs k = rate1 brs sum k := by unfold rate1; split <;> simp
        rw [e]
        have k2 : wrap64 (rate1 brs sum k) = rate1 brs sum k := IntWalk.wrap64_in _ ⟨by omega, by omega⟩
        rw [k2, Hr.out]
        exact IntWalk.wrap64_in _ ⟨by omega, by omega⟩
      clear hcw hc rb hm Hr hxb
      by_cases hlt2 : k + 1 < n
      · have hcn := Hc.out _ _ (bcells_from brs (k + 1) (by have := Hn.out; omega))
        have g0 := hI.lo (k + 1) (by have := Hn.out; omega)
        have g1 := hI.hi (k + 1) (by have := Hn.out; omega)
        have He : (if fromAt brs (k + 1) < sum then fromAt brs (k + 1) else sum) = endAt brs sum k := by
          unfold endAt; rw [if_pos (show k + 1 < brs.length by have := Hn.out; omega)]
        generalize rates brs sum k = r at *
        generalize endAt brs sum k = E at *
        generalize fromAt brs (k + 1) = g at *
        generalize fromAt brs k = f at *
        generalize perAt brs k = p at *
        clear hkl
        go_wp2
        go_quiet (fail)
        go_wp2
        go_roundw
        case rel => exact ⟨k + 1, by omega, by go_num, by rw [Hval.out], bel_drewN hb _⟩
        case measure => simp [intOf]; omega
      · have He : endAt brs sum k = sum := by
          unfold endAt; rw [if_neg (show ¬ k + 1 < brs.length by have := Hn.out; omega)]
        rw [He] at Hval
        generalize rates brs sum k = r at *
        generalize fromAt brs k = f at *
        generalize perAt brs k = p at *
        clear hkl He hE He0
        go_wp2
        go_quiet (fail)
        go_wp2
        go_roundw
        case rel => exact ⟨k + 1, by omega, by go_num, by rw [Hval.out], bel_drewN hb _⟩
        case measure => simp [intOf]; omega
    · have hkn : k = n := by omega
      have Hd : Hid (due brs sum = rates brs sum k / 10000) := by unfold due; rw [← Hn.out, ← hkn]; exact rfl
      have rb := rates_bd hI h1 k (by have := Hn.out; omega)
      have r0 := rb.1
      have r1 : rates brs sum k ≤ 16 * 10995116277760000 := by
        have : (k : Int) ≤ 16 := by omega
        omega
      clear rb
      have hbel : Below w.heap.size w wr := ((Below.refl w.heap.size w).alloc (Nat.le_refl _) _).trans (hb.mono (by omega))
      clear hkn
      go_wp2
      go_ret
      exact ⟨by rw [Hd.out]; rfl, hbel⟩

end Go.Proofs.YtlgedljhheficaaGreatDoor
