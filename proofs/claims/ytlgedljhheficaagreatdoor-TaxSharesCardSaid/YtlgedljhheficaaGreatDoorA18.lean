/- The contract of share.divide where the product is small. -/
import Derived.Test.YtlgedljhheficaaGreatDoorA17
import Derived.Test.YtlgedljhheficaaGreatDoorShelf
namespace Go.Proofs.YtlgedljhheficaaGreatDoor
open Go.RowKit

def largeB (x : Int) : Bool := decide (0 ≤ x) && decide (x ≤ 1152921504606846976)

set_option maxHeartbeats 400000 in
theorem isAmount_any (x : Int) (w : World) : Calls Tryz.prog 67 #[.int .i64 x] w fun e w' => e = .returned (.bool (inB x)) ∧ w = w' := by
  by_cases h1 : 0 ≤ x
  · by_cases h2 : x ≤ 1099511627776
    · go_enter Tryz.func67, Tryz.ntmps67
      go_wp2
      go_ret
      exact ⟨by simp [inB, h1, h2], rfl⟩
    · go_enter Tryz.func67, Tryz.ntmps67
      go_wp2
      go_ret
      exact ⟨by simp [inB, h1]; omega, rfl⟩
  · go_enter Tryz.func67, Tryz.ntmps67
    go_wp2
    go_ret
    exact ⟨by simp [inB]; omega, rfl⟩

set_option maxHeartbeats 400000 in
theorem isLarge_any (x : Int) (w : World) : Calls Tryz.prog 119 #[.int .i64 x] w fun e w' => e = .returned (.bool (largeB x)) ∧ w = w' := by
  by_cases h1 : 0 ≤ x
  · by_cases h2 : x ≤ 1152921504606846976
    · go_enter Tryz.func119, Tryz.ntmps119
      go_wp2
      go_ret
      exact ⟨by simp [largeB, h1, h2], rfl⟩
    · go_enter Tryz.func119, Tryz.ntmps119
      go_wp2
      go_ret
      exact ⟨by simp [largeB, h1]; omega, rfl⟩
  · go_enter Tryz.func119, Tryz.ntmps119
    go_wp2
    go_ret
    exact ⟨by simp [largeB]; omega, rfl⟩

set_option maxRecDepth 100000 in
set_option maxHeartbeats 400000 in
theorem div64_small (l d : Nat) (hl : l < 18446744073709551616) (hd : 1 ≤ d) (hd2 : d < 18446744073709551616) (w : World) :
    Calls Tryz.prog 121 #[.int .u64 0, .int .u64 l, .int .u64 d] w fun e w' => e = .returned (.tuple #[.int .u64 ((l / d : Nat) : Int), .int .u64 ((l % d : Nat) : Int)]) ∧ ∃ n, w' = w.drewN n := by
  have h1 : ((d : Int) == 0) = false := by simp; omega
  have h2 : decide ((d : Int) ≤ 0) = false := by simp; omega
  go_enter Tryz.func121, Tryz.ntmps121
  go_wp2
  go_quiet (fail)
  go_wp2
  go_ret2
  refine ⟨?_, _, rfl⟩
  show Ending.returned (.tuple #[.int .u64 (IntKind.u64.wrap ((l : Int) / d)), .int .u64 ((l : Int) % d)]) = _
  have hq : l / d ≤ l := Nat.div_le_self l d
  have e1 : (l : Int) / d = ((l / d : Nat) : Int) := by simp
  have e2 : (l : Int) % d = ((l % d : Nat) : Int) := by simp
  rw [e1, e2]
  generalize l / d = q at *
  rw [IntWalk.u64_in _ (by omega)]

set_option maxRecDepth 100000 in
set_option maxHeartbeats 400000 in
theorem divide_small (t n d : Nat) (ht : t ≤ 1099511627776) (hn : n ≤ 1152921504606846976) (hd : 1 ≤ d) (hd2 : d ≤ 1152921504606846976) (hp : t * n < 18446744073709551616) (hq : t * n / d ≤ 1099511627776) (w : World) :
    Calls Tryz.prog 68 #[.int .i64 t, .int .i64 n, .int .i64 d] w fun e w' => e = .returned (.tuple #[.int .u64 ((t * n / d : Nat) : Int), .int .u64 ((t * n % d : Nat) : Int), .int .i64 0]) ∧ ∃ m, w' = w.drewN m := by
  have b1 : inB t = true := by simp [inB]; omega
  have b2 : largeB n = true := by simp [largeB]; omega
  have b3 : largeB d = true := by simp [largeB]; omega
  have hz : ((d : Int) == 0) = false := by simp; omega
  have hm := Tryz.bits_Mul64 t n (by omega) (by omega) w
  rw [Nat.div_eq_of_lt hp, Nat.mod_eq_of_lt hp] at hm
  have Hm := Lib.hid hm
  have Hd := Lib.hid (div64_small (t * n) d hp hd (by omega) w)
  have B1 := Lib.hid b1
  have B2 := Lib.hid b2
  have B3 := Lib.hid b3
  have hle : ((t * n / d : Nat) : Int) ≤ 1099511627776 := by omega
  clear hm b1 b2 b3 hq
  generalize t * n / d = q at *
  generalize t * n % d = r at *
  generalize t * n = p at *
  go_enter Tryz.func68, Tryz.ntmps68
  go_wp2_with fail
  refine (isAmount_any _ _).mono ?_
  rintro e w' ⟨rfl, rfl⟩
  rw [B1.out]
  go_wp2_with fail
  refine (isLarge_any _ _).mono ?_
  rintro e w' ⟨rfl, rfl⟩
  rw [B2.out]
  go_wp2_with fail
  refine (isLarge_any _ _).mono ?_
  rintro e w' ⟨rfl, rfl⟩
  rw [B3.out]
  go_wp2_with fail
  refine Hm.out.mono ?_
  rintro e w' ⟨rfl, rfl⟩
  go_wp2_with fail
  refine Hd.out.mono ?_
  rintro e w' ⟨rfl, m, rfl⟩
  go_wp2
  go_ret3
  exact ⟨rfl, _, rfl⟩

end Go.Proofs.YtlgedljhheficaaGreatDoor
