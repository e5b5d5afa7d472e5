/- The slope of a tax by brackets: a unit more adds 0 or 1; the tax is at most the sum. Plain. -/
import Derived.Test.YtlgedljhheficaaGreatDoorP1
namespace Go.Proofs.YtlgedljhheficaaGreatDoor
open Go.RowKit

/-- A valid list of brackets. -/
structure Good (brs : List (Int × Int)) : Prop where
  inr : InR brs
  pos : 0 < brs.length
  first : fromAt brs 0 = 0
  inc : ∀ i, i + 1 < brs.length → fromAt brs i < fromAt brs (i + 1)

theorem mul_step (x p : Int) : (x + 1) * p = x * p + p := by rw [Int.add_mul, Int.one_mul]

theorem rate1_late {brs : List (Int × Int)} {s : Int} {i : Nat} (h : s ≤ fromAt brs i) : rate1 brs s i = 0 := by
  unfold rate1
  rw [if_neg]
  have := endAt_le brs s i
  omega
/-- What a unit more does to a bracket. -/
theorem rate1_step {brs : List (Int × Int)} {s : Int} {i : Nat} (h : fromAt brs i ≤ s) :
    (i + 1 < brs.length ∧ fromAt brs (i + 1) ≤ s ∧ rate1 brs (s + 1) i = rate1 brs s i) ∨ ((i + 1 < brs.length → s < fromAt brs (i + 1)) ∧ rate1 brs (s + 1) i = rate1 brs s i + perAt brs i) := by
  have key : ∀ e : Int, endAt brs s i = s → endAt brs (s + 1) i = s + 1 → rate1 brs (s + 1) i = rate1 brs s i + perAt brs i := by
    intro _ h1 h2
    unfold rate1
    rw [h1, h2, if_pos (by omega)]
    have e1 : s + 1 - fromAt brs i = s - fromAt brs i + 1 := by omega
    rw [e1, mul_step]
    by_cases hlt : fromAt brs i < s
    · rw [if_pos hlt]
    · rw [if_neg hlt]
      have : s - fromAt brs i = 0 := by omega
      rw [this]; omega
  by_cases hi : i + 1 < brs.length
  · by_cases hg : fromAt brs (i + 1) ≤ s
    · left
      refine ⟨hi, hg, ?_⟩
      have h1 : endAt brs s i = fromAt brs (i + 1) := by
        unfold endAt; rw [if_pos hi]; split <;> omega
      have h2 : endAt brs (s + 1) i = fromAt brs (i + 1) := by
        unfold endAt; rw [if_pos hi]; split <;> omega
      unfold rate1
      rw [h1, h2]
    · right
      refine ⟨fun _ => by omega, key 0 ?_ ?_⟩
      · unfold endAt; rw [if_pos hi, if_neg (by omega)]
      · unfold endAt; rw [if_pos hi, if_neg (by omega)]
  · right
    refine ⟨fun h => absurd h hi, key 0 ?_ ?_⟩
    · unfold endAt; rw [if_neg hi]
    · unfold endAt; rw [if_neg hi]

theorem rates_step {brs : List (Int × Int)} (hG : Good brs) (s : Int) (k : Nat) (hk : k ≤ brs.length) :
    rates brs (s + 1) k = rates brs s k ∨ ((k < brs.length → s < fromAt brs k) ∧ rates brs s k ≤ rates brs (s + 1) k ∧ rates brs (s + 1) k ≤ rates brs s k + 10000) := by
  induction k with
  | zero => left; rfl
  | succ k ih =>
    have hkn : k < brs.length := by omega
    have p0 := hG.inr.plo k hkn
    have p1 := hG.inr.phi k hkn
    by_cases hs : s < fromAt brs k
    · have a := rate1_late (brs := brs) (s := s) (i := k) (by omega)
      have b := rate1_late (brs := brs) (s := s + 1) (i := k) (by omega)
      simp only [rates, a, b, Int.add_zero]
      rcases ih (by omega) with h | ⟨_, h2, h3⟩
      · left; exact h
      · right; exact ⟨fun h => by have := hG.inc k h; omega, h2, h3⟩
    · have hih : rates brs (s + 1) k = rates brs s k := by
        rcases ih (by omega) with h | ⟨h1, _⟩
        · exact h
        · exact absurd (h1 hkn) hs
      simp only [rates, hih]
      rcases rate1_step (brs := brs) (s := s) (i := k) (by omega) with ⟨_, _, h⟩ | ⟨h1, h⟩
      · left; rw [h]
      · right; rw [h]; exact ⟨h1, by omega, by omega⟩

theorem due_step {brs : List (Int × Int)} (hG : Good brs) (s : Int) : due brs s ≤ due brs (s + 1) ∧ due brs (s + 1) ≤ due brs s + 1 := by
  unfold due
  rcases rates_step hG s brs.length (Nat.le_refl _) with h | ⟨_, h2, h3⟩
  · rw [h]; omega
  · omega

theorem rates_zero {brs : List (Int × Int)} (hG : Good brs) (k : Nat) (hk : k ≤ brs.length) : rates brs 0 k = 0 := by
  induction k with
  | zero => rfl
  | succ k ih =>
    have h0 := hG.inr.lo k (by omega)
    simp only [rates, ih (by omega), rate1_late (brs := brs) (s := 0) (i := k) h0]
    omega
theorem due_zero {brs : List (Int × Int)} (hG : Good brs) : due brs 0 = 0 := by
  unfold due; rw [rates_zero hG _ (Nat.le_refl _)]; rfl

theorem due_mono {brs : List (Int × Int)} (hG : Good brs) (s : Int) (k : Nat) : due brs s ≤ due brs (s + k) ∧ due brs (s + k) ≤ due brs s + k := by
  induction k with
  | zero => simp
  | succ k ih =>
    have := due_step hG (s + k)
    have e : s + ((k + 1 : Nat) : Int) = s + k + 1 := by omega
    rw [e]
    omega
theorem due_le {brs : List (Int × Int)} (hG : Good brs) {a b : Int} (h : a ≤ b) : due brs a ≤ due brs b ∧ due brs b - due brs a ≤ b - a := by
  obtain ⟨k, hk⟩ := Int.eq_ofNat_of_zero_le (show 0 ≤ b - a by omega)
  have e : b = a + k := by omega
  have := due_mono hG a k
  rw [e]
  omega
theorem due_self {brs : List (Int × Int)} (hG : Good brs) {s : Int} (h : 0 ≤ s) : 0 ≤ due brs s ∧ due brs s ≤ s := by
  have := due_le hG h
  rw [due_zero hG] at this
  omega

end Go.Proofs.YtlgedljhheficaaGreatDoor
