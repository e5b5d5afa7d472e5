/- Plain: counterparts whose Den is cut to 1, and holdings cut to less than 1000, one by one. -/
import Derived.Test.YthjfdfdgbpbanaaGreatDoorP4
namespace Go.Proofs.YthjfdfdgbpbanaaGreatDoor
open Go.RowKit

def cutTo (ts : List Tr) : Nat → List Tr
  | 0 => ts
  | k + 1 => setDen (cutTo ts k) k (min (denAt (cutTo ts k) k) 1)
@[simp] theorem cutTo_length (ts : List Tr) (k : Nat) : (cutTo ts k).length = ts.length := by
  induction k with
  | zero => rfl
  | succ k ih => simp [cutTo, setDen, ih]
theorem denAt_setDen_self (ts : List Tr) (k : Nat) (x : Int) (h : k < ts.length) : denAt (setDen ts k x) k = x := by simp [denAt, setDen, h]
theorem denAt_setDen_ne (ts : List Tr) (k i : Nat) (x : Int) (h : k ≠ i) : denAt (setDen ts k x) i = denAt ts i := by simp [denAt, setDen, List.getElem?_set_ne h]
theorem cutTo_den (ts : List Tr) (k : Nat) (hk : k ≤ ts.length) : ∀ i, i < k → denAt (cutTo ts k) i ≤ 1 := by
  induction k with
  | zero => intro i hi; omega
  | succ k ih =>
    intro i hi
    by_cases e : k = i
    · subst e
      rw [cutTo, denAt_setDen_self _ _ _ (by simp; omega)]
      omega
    · rw [cutTo, denAt_setDen_ne _ _ _ _ e]
      exact ih (by omega) i (by omega)
/-- All parts of counterparts are words of the machine. -/
def TrWf (ts : List Tr) : Prop := ∀ i, -9223372036854775808 ≤ denAt ts i ∧ denAt ts i ≤ 9223372036854775807
def cutH (hs : List Int) : Nat → List Int
  | 0 => hs
  | k + 1 => (cutH hs k).set k (wAt (cutH hs k) k % 1000)
@[simp] theorem cutH_length (hs : List Int) (k : Nat) : (cutH hs k).length = hs.length := by
  induction k with
  | zero => rfl
  | succ k ih => simp [cutH, ih]
def Units (hs : List Int) : Prop := ∀ z ∈ hs, 0 ≤ z ∧ z ≤ 1099511627776
theorem Units.at_ {hs : List Int} (h : Units hs) (i : Nat) : 0 ≤ wAt hs i ∧ wAt hs i ≤ 1099511627776 := by
  by_cases hi : i < hs.length
  · have : wAt hs i = hs[i] := by simp [wAt, hi]
    rw [this]; exact h _ (List.getElem_mem hi)
  · have : wAt hs i = 0 := by simp [wAt, List.getElem?_eq_none (Nat.le_of_not_lt hi)]
    rw [this]; omega
theorem Units.set {hs : List Int} (h : Units hs) (k : Nat) (x : Int) (x0 : 0 ≤ x) (x1 : x ≤ 1099511627776) : Units (hs.set k x) := fun z hz => by
  rcases List.mem_or_eq_of_mem_set hz with hz | rfl
  · exact h z hz
  · exact ⟨x0, x1⟩
theorem Units.wf {hs : List Int} (h : Units hs) : Wf hs := fun z hz => by have := h z hz; omega
theorem cutH_units {hs : List Int} (h : Units hs) (k : Nat) : Units (cutH hs k) := by
  induction k with
  | zero => exact h
  | succ k ih => exact ih.set k _ (by omega) (by omega)
theorem heldL_Units (zs : List Int) (a K : Nat) : Units (heldL zs a K) := by
  intro z hz
  simp only [heldL, List.mem_map, List.mem_range] at hz
  obtain ⟨i, hi, rfl⟩ := hz
  have h : heldAt zs a i = heldOf (pick zs ((a : Nat) + (i : Int)) 1048576) := rfl
  rw [h]
  exact heldOf_bd _

end Go.Proofs.YthjfdfdgbpbanaaGreatDoor
