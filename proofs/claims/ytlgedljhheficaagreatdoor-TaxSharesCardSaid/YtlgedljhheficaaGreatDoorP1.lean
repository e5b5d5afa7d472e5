/- The plain law of taxes by brackets: lists of pairs (from, per), the tax on a sum, its slope. No program in sight. -/
import Derived.Test.YtlgedljhheficaaGreatDoorA1
namespace Go.Proofs.YtlgedljhheficaaGreatDoor
open Go.RowKit

def fromAt (brs : List (Int × Int)) (i : Nat) : Int := (brs[i]?.getD (0, 0)).1
def perAt (brs : List (Int × Int)) (i : Nat) : Int := (brs[i]?.getD (0, 0)).2
/-- The cells of a list of brackets. -/
def bcells (brs : List (Int × Int)) : List Value := brs.flatMap fun p => [.int .i64 p.1, .int .i64 p.2]
theorem bcells_length (brs : List (Int × Int)) : (bcells brs).length = brs.length * 2 := by
  induction brs with
  | nil => rfl
  | cons p r ih => simp [bcells] at ih ⊢; omega
theorem bcells_from (brs : List (Int × Int)) (k : Nat) (hk : k < brs.length) : (bcells brs)[k * 2]? = some (.int .i64 (fromAt brs k)) := by
  induction brs generalizing k with
  | nil => simp at hk
  | cons p r ih =>
    cases k with
    | zero => simp [bcells, fromAt]
    | succ k =>
      have h := ih k (by simpa using hk)
      have e : (k + 1) * 2 = k * 2 + 1 + 1 := by omega
      rw [e]
      simpa [bcells, fromAt] using h
theorem bcells_per (brs : List (Int × Int)) (k : Nat) (hk : k < brs.length) : (bcells brs)[k * 2 + 1]? = some (.int .i64 (perAt brs k)) := by
  induction brs generalizing k with
  | nil => simp at hk
  | cons p r ih =>
    cases k with
    | zero => simp [bcells, perAt]
    | succ k =>
      have h := ih k (by simpa using hk)
      have e : (k + 1) * 2 + 1 = k * 2 + 1 + 1 + 1 := by omega
      rw [e]
      simpa [bcells, perAt] using h

/-- The end of bracket i below a sum. -/
def endAt (brs : List (Int × Int)) (sum : Int) (i : Nat) : Int := if i + 1 < brs.length then (if fromAt brs (i + 1) < sum then fromAt brs (i + 1) else sum) else sum
def rate1 (brs : List (Int × Int)) (sum : Int) (i : Nat) : Int := if fromAt brs i < endAt brs sum i then (endAt brs sum i - fromAt brs i) * perAt brs i else 0
def rates (brs : List (Int × Int)) (sum : Int) : Nat → Int
  | 0 => 0
  | k + 1 => rates brs sum k + rate1 brs sum k
def due (brs : List (Int × Int)) (sum : Int) : Int := rates brs sum brs.length / 10000

/-- The numbers of the brackets are in range, and there are at most 16. -/
structure InR (brs : List (Int × Int)) : Prop where
  len : brs.length ≤ 16
  lo : ∀ i, i < brs.length → 0 ≤ fromAt brs i
  hi : ∀ i, i < brs.length → fromAt brs i ≤ 1099511627776
  plo : ∀ i, i < brs.length → 0 ≤ perAt brs i
  phi : ∀ i, i < brs.length → perAt brs i ≤ 10000

theorem endAt_le (brs : List (Int × Int)) (sum : Int) (i : Nat) : endAt brs sum i ≤ sum := by
  unfold endAt
  split
  · split <;> omega
  · omega
theorem mul_bd {x y : Int} (x0 : 0 ≤ x) (x1 : x ≤ 1099511627776) (y0 : 0 ≤ y) (y1 : y ≤ 10000) : 0 ≤ x * y ∧ x * y ≤ 10995116277760000 := by
  refine ⟨Int.mul_nonneg x0 y0, ?_⟩
  have := Int.mul_le_mul x1 y1 y0 (by omega)
  omega
theorem rate1_bd {brs : List (Int × Int)} (h : InR brs) {sum : Int} (h1 : sum ≤ 1099511627776) {i : Nat} (hi : i < brs.length) :
    0 ≤ rate1 brs sum i ∧ rate1 brs sum i ≤ 10995116277760000 := by
  unfold rate1
  split
  · have := endAt_le brs sum i
    exact mul_bd (by omega) (by have := h.lo i hi; omega) (h.plo i hi) (h.phi i hi)
  · omega
theorem rates_bd {brs : List (Int × Int)} (h : InR brs) {sum : Int} (h1 : sum ≤ 1099511627776) (k : Nat) (hk : k ≤ brs.length) :
    0 ≤ rates brs sum k ∧ rates brs sum k ≤ (k : Int) * 10995116277760000 := by
  induction k with
  | zero => simp [rates]
  | succ k ih =>
    have a := ih (by omega)
    have b := rate1_bd h h1 (i := k) (by omega)
    simp only [rates]
    omega

theorem wrap_round {R E f p : Int} (hE : E ≤ 1099511627776) (f0 : 0 ≤ f) (hf : f < E) (p0 : 0 ≤ p) (p1 : p ≤ 10000) (r0 : 0 ≤ R) (r1 : R ≤ 16 * 10995116277760000) :
    wrap64 (R + wrap64 ((E - f) * p)) = R + (E - f) * p := by
  have h := mul_bd (x := E - f) (y := p) (by omega) (by omega) p0 p1
  rw [IntWalk.wrap64_in ((E - f) * p) ⟨by omega, by omega⟩, IntWalk.wrap64_in _ ⟨by omega, by omega⟩]

/-- One bracket's numbers are in range. -/
def brB (f p : Int) : Bool := decide (0 ≤ f) && decide (f ≤ 1099511627776) && decide (0 ≤ p) && decide (p ≤ 10000)
/-- The first k brackets' numbers are in range. -/
def rangeB (brs : List (Int × Int)) (k : Nat) : Bool := (List.range k).all fun i => brB (fromAt brs i) (perAt brs i)
theorem rangeB_succ (brs : List (Int × Int)) (k : Nat) : rangeB brs (k + 1) = (rangeB brs k && brB (fromAt brs k) (perAt brs k)) := by
  simp [rangeB, List.range_succ]
theorem rangeB_at {brs : List (Int × Int)} {n : Nat} (h : rangeB brs n = true) (i : Nat) (hi : i < n) : brB (fromAt brs i) (perAt brs i) = true := by
  simp only [rangeB, List.all_eq_true, List.mem_range] at h
  exact h i hi
theorem rangeB_no {brs : List (Int × Int)} {n k : Nat} (hk : k < n) (h : brB (fromAt brs k) (perAt brs k) = false) : rangeB brs n = false := by
  cases hr : rangeB brs n
  · rfl
  · rw [rangeB_at hr k hk] at h; cases h
theorem inR_of {brs : List (Int × Int)} (hl : brs.length ≤ 16) (h : rangeB brs brs.length = true) : InR brs := by
  have g : ∀ i, i < brs.length → (0 ≤ fromAt brs i ∧ fromAt brs i ≤ 1099511627776) ∧ 0 ≤ perAt brs i ∧ perAt brs i ≤ 10000 := by
    intro i hi
    have := rangeB_at h i hi
    simp only [brB, Bool.and_eq_true, decide_eq_true_eq] at this
    omega
  exact ⟨hl, fun i hi => (g i hi).1.1, fun i hi => (g i hi).1.2, fun i hi => (g i hi).2.1, fun i hi => (g i hi).2.2⟩
/-- The froms increase, up to k. -/
def incB (brs : List (Int × Int)) (k : Nat) : Bool := (List.range k).all fun i => i == 0 || decide (fromAt brs (i - 1) < fromAt brs i)
theorem incB_at {brs : List (Int × Int)} {n : Nat} (h : incB brs n = true) (i : Nat) (hi : i < n) (h0 : 1 ≤ i) : fromAt brs (i - 1) < fromAt brs i := by
  simp only [incB, List.all_eq_true, List.mem_range] at h
  have := h i hi
  simp at this
  omega
theorem incB_succ {brs : List (Int × Int)} {k : Nat} (h : incB brs k = true) (h1 : fromAt brs (k - 1) < fromAt brs k) : incB brs (k + 1) = true := by
  simp only [incB, List.range_succ, List.all_append, Bool.and_eq_true] at h ⊢
  exact ⟨h, by simp [h1]⟩
theorem incB_no {brs : List (Int × Int)} {n k : Nat} (hk : k < n) (h0 : 1 ≤ k) (h : fromAt brs k ≤ fromAt brs (k - 1)) : incB brs n = false := by
  cases hr : incB brs n
  · rfl
  · have := incB_at hr k hk h0; omega
theorem incB_one (brs : List (Int × Int)) : incB brs 1 = true := by simp [incB]
def formedB (brs : List (Int × Int)) : Bool := !brs.isEmpty && (fromAt brs 0 == 0) && incB brs brs.length

end Go.Proofs.YtlgedljhheficaaGreatDoor
