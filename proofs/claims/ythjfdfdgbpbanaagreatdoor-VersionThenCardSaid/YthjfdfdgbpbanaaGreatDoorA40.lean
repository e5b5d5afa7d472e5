/- The contracts of the two divisors: both are the greatest common divisor. -/
import Derived.Test.YthjfdfdgbpbanaaGreatDoorA4
import Derived.BigQuiet
namespace Go.Proofs.YthjfdfdgbpbanaaGreatDoor
open Go.RowKit

theorem gcd_rem {a b : Int} (ha : 0 ≤ a) (hb : 0 < b) : (Int.gcd b (a % b) : Int) = Int.gcd a b := by
  have h : Int.gcd b (a % b) = Int.gcd a b := by
    obtain ⟨n, rfl⟩ := Int.eq_ofNat_of_zero_le ha
    obtain ⟨m, rfl⟩ := Int.eq_ofNat_of_zero_le (Int.le_of_lt hb)
    show Nat.gcd m (n % m) = Nat.gcd n m
    rw [Nat.gcd_comm n m, Nat.gcd_rec m n, Nat.gcd_comm]
  rw [h]

set_option maxRecDepth 100000 in
set_option maxHeartbeats 1000000 in
theorem divisor_any (a b : Int) (w : World) (ha : 1 ≤ a) (hb : 1 ≤ b) (ha2 : a ≤ 1152921504606846976) (hb2 : b ≤ 1152921504606846976) :
    Calls Tryz.prog 62 #[.int .i64 a, .int .i64 b] w fun e w' => e = .returned (.int .i64 (Int.gcd a b : Int)) ∧ Below w.heap.size w w' := by
  obtain ⟨G, hG⟩ : ∃ G : Int, G = (Int.gcd a b : Int) := ⟨_, rfl⟩
  rw [← hG]
  have HS : Hid (∃ x y : Int, Value.int .i64 a = .int .i64 x ∧ Value.int .i64 b = .int .i64 y ∧ 1 ≤ x ∧ 0 ≤ y ∧ x ≤ 1152921504606846976 ∧ y ≤ 1152921504606846976 ∧ (Int.gcd x y : Int) = G) := ⟨a, b, rfl, rfl, ha, by omega, ha2, hb2, hG.symm⟩
  clear hG ha hb ha2 hb2
  go_enter Tryz.func62, Tryz.ntmps62
  go_wp2_with fail
  go_loopw [0, 1] (fun u v wr => (∃ x y : Int, u = .int .i64 x ∧ v = .int .i64 y ∧ 1 ≤ x ∧ 0 ≤ y ∧ x ≤ 1152921504606846976 ∧ y ≤ 1152921504606846976 ∧ (Int.gcd x y : Int) = G) ∧ Below w.heap.size w wr) (fun _ v _ => (intOf v).toNat)
  case atStart => exact ⟨HS.out, Below.refl _ _⟩
  case round =>
    obtain ⟨⟨x, y, rfl, rfl, x1, y0, x2, y2, hg⟩, hb⟩ := hrel
    clear HS
    have HB := Lib.hid hb
    have HG := Lib.hid hg
    clear hb hg
    by_cases hy : y = 0
    · subst hy
      have hx : G = x := by rw [← HG.out]; simp; omega
      have HX := Lib.hid hx
      clear hx
      go_wp2_with fail
      go_ret
      exact ⟨by rw [HX.out]; rfl, HB.out⟩
    · have e1 : (y != 0) = true := by simpa using hy
      have e2 : (y == 0) = false := by simpa using hy
      have htm : x.tmod y = x % y := Int.tmod_eq_emod_of_nonneg (by omega)
      have m0 := Int.emod_nonneg x hy
      have m1 := Int.emod_lt_of_pos x (show 0 < y by omega)
      have HG2 := Lib.hid ((gcd_rem (a := x) (b := y) (by omega) (by omega)).trans HG.out)
      generalize x % y = r at *
      have e3 : IntKind.i64.wrap r = r := IntWalk.i64_in _ (by omega)
      go_wp2_with fail
      go_quiet (fail)
      go_wp2_with fail
      go_roundw
      case rel => exact ⟨⟨y, r, rfl, rfl, by omega, m0, y2, by omega, HG2.out⟩, bel_drewN HB.out _⟩
      case measure => simp [intOf]; omega

set_option maxRecDepth 100000 in
set_option maxHeartbeats 1000000 in
theorem rdivisor_any (a b : Int) (w : World) (ha : 1 ≤ a) (hb : 1 ≤ b) (ha2 : a ≤ 1152921504606846976) (hb2 : b ≤ 1152921504606846976) :
    Calls Tryz.prog 63 #[.int .i64 a, .int .i64 b] w fun e w' => e = .returned (.int .i64 (Int.gcd a b : Int)) ∧ Below w.heap.size w w' := by
  obtain ⟨G, hG⟩ : ∃ G : Int, G = (Int.gcd a b : Int) := ⟨_, rfl⟩
  rw [← hG]
  have HS : Hid (∃ x y : Int, Value.int .i64 a = .int .i64 x ∧ Value.int .i64 b = .int .i64 y ∧ 1 ≤ x ∧ 1 ≤ y ∧ x ≤ 1152921504606846976 ∧ y ≤ 1152921504606846976 ∧ (Int.gcd x y : Int) = G) := ⟨a, b, rfl, rfl, ha, hb, ha2, hb2, hG.symm⟩
  clear hG ha hb ha2 hb2
  go_enter Tryz.func63, Tryz.ntmps63
  go_wp2_with fail
  go_loopw [0, 1] (fun u v wr => (∃ x y : Int, u = .int .i64 x ∧ v = .int .i64 y ∧ 1 ≤ x ∧ 1 ≤ y ∧ x ≤ 1152921504606846976 ∧ y ≤ 1152921504606846976 ∧ (Int.gcd x y : Int) = G) ∧ Below w.heap.size w wr) (fun _ v _ => (intOf v).toNat)
  case atStart => exact ⟨HS.out, Below.refl _ _⟩
  case round =>
    obtain ⟨⟨x, y, rfl, rfl, x1, y1, x2, y2, hg⟩, hb⟩ := hrel
    clear HS
    have HB := Lib.hid hb
    have HG := Lib.hid hg
    clear hb hg
    have e2 : (y == 0) = false := by simp; omega
    have e4 : ¬ y = 0 := by omega
    have htm : x.tmod y = x % y := Int.tmod_eq_emod_of_nonneg (by omega)
    have m0 := Int.emod_nonneg x e4
    have m1 := Int.emod_lt_of_pos x (show 0 < y by omega)
    have HG2 := Lib.hid ((gcd_rem (a := x) (b := y) (by omega) (by omega)).trans HG.out)
    generalize x % y = r at *
    have e3 : IntKind.i64.wrap r = r := IntWalk.i64_in _ (by omega)
    by_cases hr : r = 0
    · have hx : G = y := by rw [← HG2.out, hr]; simp; omega
      have HX := Lib.hid hx
      have e5 : (r != 0) = false := by simpa using hr
      clear hx hr
      go_wp2_with fail
      go_ret
      exact ⟨by rw [HX.out]; rfl, HB.out⟩
    · have e5 : (r != 0) = true := by simpa using hr
      go_wp2_with fail
      go_roundw
      case rel => exact ⟨⟨y, r, rfl, rfl, y1, by omega, y2, by omega, HG2.out⟩, HB.out⟩
      case measure => simp [intOf]; omega

end Go.Proofs.YthjfdfdgbpbanaaGreatDoor
