/- The contract of tax.due. -/
import Derived.Test.YtlgedljhheficaaGreatDoorP1
namespace Go.Proofs.YtlgedljhheficaaGreatDoor
open Go.RowKit

theorem cell_assoc {w : World} {b off i j : Nat} {v : Option Value} (h : w.cell? ⟨b, off + (i + j), none⟩ = v) : w.cell? ⟨b, off + i + j, none⟩ = v := by
  rw [Nat.add_assoc]; exact h

set_option maxRecDepth 100000 in
set_option maxHeartbeats 1000000 in
theorem due_any (nm : ByteArray) (A : Option Addr) (n c : Nat) (brs : List (Int × Int)) (sum : Int) (w : World) (hr : Row w w.heap.size A (bcells brs)) (hn : n = brs.length) (hI : InR brs)
    (h0 : 0 ≤ sum) (h1 : sum ≤ 1099511627776) :
    Calls Tryz.prog 38 #[.agg #[.string nm, .slice A n c], .int .i64 sum] w fun e w' => e = .returned (.int .i64 (due brs sum)) ∧ Below w.heap.size w w' := by
  have hl := hI.len
  have Hn := Lib.hid hn
  have hn16 : n ≤ 16 := by omega
  clear hn
  go_enter Tryz.func38, Tryz.ntmps38
  go_wp2
  go_loopw [5, 12] (fun r i wr => ∃ k : Nat, k ≤ n ∧ i = .int .i64 k ∧ r = .int .i64 (rates brs sum k) ∧ Below (w.heap.size + 1) (w.alloc (.cells #[.string nm, .slice A n c] 25)) wr) (fun _ i _ => n - (intOf i).toNat)
  case atStart => exact ⟨0, Nat.zero_le _, rfl, rfl, Below.refl _ _⟩
  case round =>
    obtain ⟨k, hk, rfl, rfl, hb⟩ := hrel
    by_cases hlt : k < n
    · have hkl : k < brs.length := by have := Hn.out; omega
      have hcv : wr.cell? ⟨w.heap.size, 1, none⟩ = some (.slice A n c) := (hb.cell (p := ⟨w.heap.size, 1, none⟩) (by simp)).trans (by simp)
      have hsz : w.heap.size < wr.heap.size := by have := hb.size; simp at this; omega
      obtain ⟨b, off, rfl, hbb, hc⟩ := hr.at_ 0 (by rw [bcells_length]; omega)
      have hcw : ∀ j u, (bcells brs)[j]? = some u → wr.cell? ⟨b, off + j, none⟩ = some u := fun j u hu => (hb.cell (p := ⟨b, off + j, none⟩) (by simp; omega)).trans ((World.cell?_alloc_lt w _ _ (by exact hbb)).trans (hc j u hu))
      have hcf := hcw _ _ (bcells_from brs k hkl)
      have hcp := cell_assoc (hcw _ _ (bcells_per brs k hkl))
      have f0 := hI.lo k hkl
      have f1 := hI.hi k hkl
      have p0 := hI.plo k hkl
      have p1 := hI.phi k hkl
      have Hc := Lib.hid hcw
      have hbw : b < wr.heap.size := by omega
      have rb := rates_bd hI h1 k (by omega)
      have r1 : rates brs sum k ≤ 16 * 10995116277760000 := by
        have : (k : Int) ≤ 16 := by omega
        omega
      have r0 := rb.1
      have hbel : Below w.heap.size w wr := ((Below.refl w.heap.size w).alloc (Nat.le_refl _) _).trans (hb.mono (by omega))
      have Hr : Hid (rates brs sum (k + 1) = rates brs sum k + rate1 brs sum k) := rfl
      have Hr1 : Hid (rate1 brs sum k = if fromAt brs k < endAt brs sum k then (endAt brs sum k - fromAt brs k) * perAt brs k else 0) := rfl
      clear hcw hc rb
      by_cases hlt2 : k + 1 < n
      · have hcn := Hc.out _ _ (bcells_from brs (k + 1) (by have := Hn.out; omega))
        have g0 := hI.lo (k + 1) (by have := Hn.out; omega)
        have g1 := hI.hi (k + 1) (by have := Hn.out; omega)
        have He : Hid (endAt brs sum k = if fromAt brs (k + 1) < sum then fromAt brs (k + 1) else sum) := by
          unfold endAt; rw [if_pos (by have := Hn.out; omega)]; exact rfl
        have He2 := endAt_le brs sum k
        generalize fromAt brs (k + 1) = g at *
        generalize fromAt brs k = f at *
        generalize perAt brs k = p at *
        generalize endAt brs sum k = E at *
        clear hkl
        go_wp2
        · have hyes : f < if g < sum then g else sum := by assumption
          rw [← He.out] at hyes
          go_roundw
          case rel => exact ⟨k + 1, by omega, by go_num, by rw [← He.out, wrap_round (by omega) f0 hyes p0 p1 r0 r1, Hr.out, Hr1.out, if_pos hyes], hb.alloc (by omega) _⟩
          case measure => simp [intOf]; omega
        · have hno : (if g < sum then g else sum) ≤ f := by assumption
          rw [← He.out] at hno
          go_roundw
          case rel => exact ⟨k + 1, by omega, by go_num, by rw [Hr.out, Hr1.out, if_neg (by omega), Int.add_zero], hb.alloc (by omega) _⟩
          case measure => simp [intOf]; omega
      · have He : Hid (endAt brs sum k = sum) := by
          unfold endAt; rw [if_neg (by have := Hn.out; omega)]; exact rfl
        generalize fromAt brs k = f at *
        generalize perAt brs k = p at *
        clear hkl
        by_cases hfs : f < sum
        · go_wp2
          go_roundw
          case rel => exact ⟨k + 1, by omega, by go_num, by rw [wrap_round (by omega) f0 hfs p0 p1 r0 r1, Hr.out, Hr1.out, He.out, if_pos hfs], hb.alloc (by omega) _⟩
          case measure => simp [intOf]; omega
        · go_wp2
          go_roundw
          case rel => exact ⟨k + 1, by omega, by go_num, by rw [Hr.out, Hr1.out, He.out, if_neg (by omega), Int.add_zero], hb.alloc (by omega) _⟩
          case measure => simp [intOf]; omega
    · have hkn : k = n := by omega
      have Hd : Hid (due brs sum = rates brs sum k / 10000) := by unfold due; rw [← Hn.out, ← hkn]; exact rfl
      have rb := rates_bd hI h1 k (by have := Hn.out; omega)
      have r0 := rb.1
      have r1 : rates brs sum k ≤ 16 * 10995116277760000 := by
        have : (k : Int) ≤ 16 := by omega
        omega
      clear rb
      have hbel : Below w.heap.size w wr := ((Below.refl w.heap.size w).alloc (Nat.le_refl _) _).trans (hb.mono (by omega))
      clear hkn
      go_wp2
      go_ret
      exact ⟨by rw [Hd.out]; rfl, hbel⟩

end Go.Proofs.YtlgedljhheficaaGreatDoor
