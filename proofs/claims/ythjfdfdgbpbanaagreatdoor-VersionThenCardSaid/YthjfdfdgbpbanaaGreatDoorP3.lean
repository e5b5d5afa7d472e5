/- What Then answers, plainly. -/
import Derived.Test.YthjfdfdgbpbanaaGreatDoorA9
namespace Go.Proofs.YthjfdfdgbpbanaaGreatDoor
open Go.RowKit

/-- The item of the middle catalog that counterpart i goes to. -/
def midAt (ts : List Tr) (i : Nat) : Nat := (itemAt ts i).toNat
def liveB (ts us : List Tr) (i : Nat) : Bool := decide (0 ≤ itemAt ts i) && decide (0 ≤ itemAt us (midAt ts i))
def pAt (ts us : List Tr) (i : Nat) : Int := numAt ts i * numAt us (midAt ts i)
def qAt (ts us : List Tr) (i : Nat) : Int := denAt ts i * denAt us (midAt ts i)
def gAt (ts us : List Tr) (i : Nat) : Int := (Int.gcd (pAt ts us i) (qAt ts us i) : Int)
def thenAt (ts us : List Tr) (i : Nat) : Tr := if liveB ts us i = true then (itemAt us (midAt ts i), pAt ts us i / gAt ts us i, qAt ts us i / gAt ts us i) else (-1, 0, 0)
def fatB (ts us : List Tr) (i : Nat) : Bool := liveB ts us i && (decide (1048576 < pAt ts us i / gAt ts us i) || decide (1048576 < qAt ts us i / gAt ts us i))
def fatTo (ts us : List Tr) : Nat → Bool
  | 0 => false
  | k + 1 => fatTo ts us k || fatB ts us k
def thenArg (ts us : List Tr) : Bool := validB ts (us.length : Int) && validB us 64
def thenE (ts us : List Tr) : Int := if thenArg ts us = false then 1 else if fatTo ts us ts.length = true then 5 else 0
def thenN (ts us : List Tr) (k : Nat) : List Tr := (List.range k).map (thenAt ts us)
def thenL (ts us : List Tr) : List Tr := if thenE ts us = 0 then thenN ts us ts.length else []
def ThenPost (w : World) (ts us : List Tr) (e : Ending) (w' : World) : Prop :=
  ∃ A c, e = .returned (.tuple #[.slice A (thenL ts us).length c, .int .i64 (thenE ts us)]) ∧ Row w' w'.heap.size A (tcells (thenL ts us)) ∧ Below w.heap.size w w'

theorem thenN_next (ts us : List Tr) (k : Nat) : thenN ts us (k + 1) = thenN ts us k ++ [thenAt ts us k] := by simp [thenN, List.range_succ]
@[simp] theorem thenN_length (ts us : List Tr) (k : Nat) : (thenN ts us k).length = k := by simp [thenN]
theorem fatTo_stays {ts us : List Tr} {k : Nat} (h : fatTo ts us k = true) : ∀ m, k ≤ m → fatTo ts us m = true := by
  intro m hm
  induction m with
  | zero => obtain rfl : k = 0 := by omega
            exact h
  | succ m ih =>
    by_cases e : k = m + 1
    · subst e; exact h
    · simp [fatTo, ih (by omega)]
theorem thenPost_err {w w' : World} {ts us : List Tr} {E : Int} (h : thenE ts us = E) (hE : E ≠ 0) (hb : Below w.heap.size w w') :
    ThenPost w ts us (.returned (.tuple #[.slice none 0 0, .int .i64 E])) w' := by
  have h1 : thenL ts us = [] := by unfold thenL; rw [if_neg (by omega)]
  refine ⟨none, 0, ?_, ?_, hb⟩
  · rw [h1, h]; rfl
  · rw [h1]; exact .inl rfl
theorem thenE_bad {ts us : List Tr} (h : thenArg ts us = false) : thenE ts us = 1 := by unfold thenE; rw [if_pos h]
theorem thenE_fat {ts us : List Tr} (h : thenArg ts us = true) (h2 : fatTo ts us ts.length = true) : thenE ts us = 5 := by
  unfold thenE; rw [if_neg (by rw [h]; decide), if_pos h2]
theorem thenE_ok {ts us : List Tr} (h : thenArg ts us = true) (h2 : fatTo ts us ts.length = false) : thenE ts us = 0 := by
  unfold thenE; rw [if_neg (by rw [h]; decide), if_neg (by rw [h2]; decide)]
theorem thenPost_ok {w W : World} {ts us : List Tr} {A : Option Addr} {m c : Nat} (h : thenArg ts us = true) (h2 : fatTo ts us ts.length = false) (hm : m = ts.length) (hr : Row W W.heap.size A (tcells (thenN ts us m))) (hb : Below w.heap.size w W) :
    ThenPost w ts us (.returned (.tuple #[.slice A m c, .int .i64 0])) W := by
  have h0 := thenE_ok h h2
  have e1 : thenL ts us = thenN ts us m := by unfold thenL; rw [if_pos h0, hm]
  exact ⟨A, c, by rw [e1, h0]; simp, by rw [e1]; exact hr, hb⟩

/-- The facts of a live counterpart. -/
theorem live_facts {ts us : List Tr} {i : Nat} (h : thenArg ts us = true) (hi : i < ts.length) (h0 : 0 ≤ itemAt ts i) :
    midAt ts i < us.length ∧ itemAt ts i = (midAt ts i : Int) ∧ (itemAt us (midAt ts i) < 0 ∨
      (0 ≤ itemAt us (midAt ts i) ∧ itemAt us (midAt ts i) < 64 ∧ 1 ≤ numAt ts i ∧ numAt ts i ≤ 1048576 ∧ 1 ≤ denAt ts i ∧ denAt ts i ≤ 1048576 ∧
       1 ≤ numAt us (midAt ts i) ∧ numAt us (midAt ts i) ≤ 1048576 ∧ 1 ≤ denAt us (midAt ts i) ∧ denAt us (midAt ts i) ≤ 1048576)) := by
  simp only [thenArg, Bool.and_eq_true] at h
  have h1 := okT_cases (validTo_at h.1 i hi)
  rcases h1 with h1 | ⟨a0, a1, p0, p1, q0, q1⟩
  · omega
  have hm : midAt ts i < us.length := by unfold midAt; omega
  have h2 := okT_cases (validTo_at h.2 (midAt ts i) hm)
  refine ⟨hm, by unfold midAt; omega, ?_⟩
  rcases h2 with h2 | ⟨b0, b1, r0, r1, s0, s1⟩
  · left; omega
  · right; exact ⟨b0, b1, p0, p1, q0, q1, r0, r1, s0, s1⟩
theorem prod_bd2 {a b : Int} (a0 : 1 ≤ a) (a1 : a ≤ 1048576) (b0 : 1 ≤ b) (b1 : b ≤ 1048576) : 1 ≤ a * b ∧ a * b ≤ 1099511627776 := by
  constructor
  · have := Int.mul_le_mul a0 b0 (by omega) (by omega : (0 : Int) ≤ a)
    omega
  · have h1 := Int.mul_le_mul_of_nonneg_left b1 (show 0 ≤ a by omega)
    have h2 := Int.mul_le_mul_of_nonneg_right a1 (show (0 : Int) ≤ 1048576 by omega)
    omega
theorem gcd_bd {p q : Int} (hp : 1 ≤ p) : 1 ≤ (Int.gcd p q : Int) ∧ (Int.gcd p q : Int) ≤ p := by
  have h : Int.gcd p q ≠ 0 := fun e => by
    have := Int.gcd_eq_zero_iff.1 e
    omega
  refine ⟨by omega, ?_⟩
  exact Int.le_of_dvd (by omega) (Int.gcd_dvd_left ..)
theorem quo_bd {p g : Int} (hp : 1 ≤ p) (hg : 1 ≤ g) (hd : g ∣ p) : 1 ≤ p / g ∧ p / g ≤ p := by
  refine ⟨?_, Int.ediv_le_self _ (by omega)⟩
  exact Int.le_ediv_of_mul_le (by omega) (by have := Int.le_of_dvd (by omega) hd; omega)

end Go.Proofs.YthjfdfdgbpbanaaGreatDoor
