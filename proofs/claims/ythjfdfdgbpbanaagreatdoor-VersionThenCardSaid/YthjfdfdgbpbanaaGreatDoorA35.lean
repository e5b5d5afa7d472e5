/- The contract of the reference's Convert. -/
import Derived.Test.YthjfdfdgbpbanaaGreatDoorA33
import Derived.BigQuiet
import Derived.BigRegion
namespace Go.Proofs.YthjfdfdgbpbanaaGreatDoor
open Go.RowKit

/-- The capped sum x stands for the sum s. -/
def Cap (s x : Int) : Prop := (s ≤ 1099511627776 ∧ x = s) ∨ (1099511627776 < s ∧ 1099511627776 < x ∧ x ≤ 2199023255552)
theorem Cap.step {s x K p L : Int} (h : Cap s x) (hs : 0 ≤ s) (hK : 0 ≤ K) (hp : 1 ≤ p) (hL : L = 1099511627776 / p) : Cap (s + K * p) (min (x + min K (L + 1) * p) 2199023255552) := by
  have hL1 : 1099511627776 < (L + 1) * p := by
    subst hL
    have := Int.lt_ediv_add_one_mul_self 1099511627776 (show 0 < p by omega)
    exact this
  have hKp := Int.mul_nonneg hK (show 0 ≤ p by omega)
  clear hL
  by_cases hc : K ≤ L + 1
  · rw [Int.min_eq_left hc]
    rcases h with ⟨h1, rfl⟩ | ⟨h1, h2, h3⟩
    · by_cases hx : x + K * p ≤ 1099511627776
      · exact .inl ⟨hx, by omega⟩
      · exact .inr ⟨by omega, by omega, by omega⟩
    · exact .inr ⟨by omega, by omega, by omega⟩
  · rw [Int.min_eq_right (show L + 1 ≤ K by omega)]
    have : (L + 1) * p ≤ K * p := Int.mul_le_mul_of_nonneg_right (by omega) (by omega)
    have hx : 0 ≤ x := by rcases h with ⟨h1, rfl⟩ | ⟨h1, h2, h3⟩ <;> omega
    generalize (L + 1) * p = T at *
    generalize K * p = U at *
    exact .inr ⟨by omega, by omega, by omega⟩
theorem Cap.bound {s x : Int} (h : Cap s x) (hs : 0 ≤ s) : 0 ≤ x ∧ x ≤ 2199023255552 := by
  rcases h with ⟨h1, rfl⟩ | ⟨h1, h2, h3⟩ <;> omega
theorem cap_term {K p L : Int} (hK : 0 ≤ K) (hp : 1 ≤ p) (hp2 : p ≤ 1048576) (hL : L = 1099511627776 / p) : 0 ≤ L ∧ L ≤ 1099511627776 ∧ 0 ≤ min K (L + 1) * p ∧ min K (L + 1) * p ≤ 2199023255552 := by
  have l0 : 0 ≤ L := by subst hL; exact Int.ediv_nonneg (by omega) (by omega)
  have l1 : L ≤ 1099511627776 := by subst hL; exact Int.ediv_le_self _ (by omega)
  have hm : min K (L + 1) ≤ L + 1 := Int.min_le_right _ _
  have hm0 : 0 ≤ min K (L + 1) := by omega
  refine ⟨l0, l1, Int.mul_nonneg hm0 (by omega), ?_⟩
  have h1 := Int.mul_le_mul_of_nonneg_right hm (show 0 ≤ p by omega)
  have h2 : L * p ≤ 1099511627776 := by subst hL; exact Int.ediv_mul_le _ (by omega)
  rw [Int.add_mul, Int.one_mul] at h1
  omega

theorem nowK_next (ts : List Tr) (hs : List Int) (j k : Nat) : nowK ts hs (j + 1) k = nowK ts hs j k ++ [sumTo ts hs j k] := by simp [nowK, List.range_succ]
def leftN (ts : List Tr) (hs : List Int) (k : Nat) : List Int := (List.range k).map (leftAt ts hs)
theorem leftN_next (ts : List Tr) (hs : List Int) (k : Nat) : leftN ts hs (k + 1) = leftN ts hs k ++ [leftAt ts hs k] := by simp [leftN, List.range_succ]

set_option maxRecDepth 100000 in
set_option maxHeartbeats 1000000 in
theorem rconv_bad {w : World} {A A' : Option Addr} {m m' : Nat} (c c' : Nat) {ts : List Tr} (n : Int) {hs : List Int} (ht : TosV w A m ts) (hh : IntsV w A' m' hs) (hm : m ≤ 1000000) (hm' : m' ≤ 1000000)
    (hbad : argB ts n hs = false) :
    Calls Tryz.prog 28 #[.slice A m c, .int .i64 n, .slice A' m' c'] w (ConvPost w ts n hs) := by
  have HE := Lib.hid (convE_bad hbad)
  by_cases hn : n < 0
  · go_enter Tryz.func28, Tryz.ntmps28
    go_wp2
    go_ret3
    exact convPost_err HE.out (by omega) (Below.refl _ _)
  by_cases hn2 : 64 < n
  · go_enter Tryz.func28, Tryz.ntmps28
    go_wp2
    go_ret3
    exact convPost_err HE.out (by omega) (Below.refl _ _)
  have K1 := Lib.hid (rvalid_any c n ht hm)
  have HU := Lib.hid hh
  have Hlt := Lib.hid ht.len
  have Hlh := Lib.hid hh.len
  cases hv : validB ts n
  · rw [hv] at K1
    clear hbad hv ht hh
    go_enter Tryz.func28, Tryz.ntmps28
    go_wp2_with fail
    refine K1.out.mono ?_
    rintro e w1 ⟨rfl, rfl⟩
    go_wp2
    go_ret3
    exact convPost_err HE.out (by omega) (Below.refl _ _)
  rw [hv] at K1
  by_cases hl : m = m'
  · have hu : unitsB hs = false := by
      cases hu : unitsB hs
      · rfl
      · have : argB ts n hs = true := by
          simp only [argB, hv, hu, Bool.and_true, Bool.and_eq_true, decide_eq_true_eq]
          exact ⟨⟨by omega, by omega⟩, by rw [← ht.len, ← hh.len]; exact hl⟩
        rw [this] at hbad; cases hbad
    have e1 : ((m : Int) != (m' : Int)) = false := by simp; omega
    have K2 := bag_any (c := c') hh.row hh.len (by omega)
    rw [hu] at K2
    have HK2 := Lib.hid K2
    clear hbad hv ht hh hu hl K2
    go_enter Tryz.func28, Tryz.ntmps28
    go_wp2_with fail
    refine K1.out.mono ?_
    rintro e w1 ⟨rfl, rfl⟩
    go_wp2_with fail
    refine HK2.out.mono ?_
    rintro e w2 ⟨rfl, rfl⟩
    go_wp2
    go_ret3
    exact convPost_err HE.out (by omega) (Below.refl _ _)
  · have e1 : ((m : Int) != (m' : Int)) = true := by simp; omega
    clear hbad hv ht hh hl
    go_enter Tryz.func28, Tryz.ntmps28
    go_wp2_with fail
    refine K1.out.mono ?_
    rintro e w1 ⟨rfl, rfl⟩
    go_wp2
    go_ret3
    exact convPost_err HE.out (by omega) (Below.refl _ _)

end Go.Proofs.YthjfdfdgbpbanaaGreatDoor
