/- The reference's Item and alike. The plain law of New: names that differ, renames and their marks. -/
import Derived.Test.YthjfdfdgbpbanaaGreatDoorS1x4
import Derived.Test.YthjfdfdgbpbanaaGreatDoorS1x11
set_option linter.unusedVariables false
set_option linter.unusedSimpArgs false
open Go.RowKit
namespace Go.Proofs.YthjfdfdgbpbanaaGreatDoor
/-- The first item with a name, among the first k. -/
def fstTo (l : List It) (s : ByteArray) : Nat → Option Nat
 | 0 => none
 | k + 1 => match fstTo l s k with
   | some i => some i
   | none => if (itAt l k).name = s then some k else none
def fstI (l : List It) (s : ByteArray) : Option Nat := fstTo l s l.length
/-- The items' names differ. -/
def Dist (l : List It) : Prop := ∀ i j, i < l.length → j < l.length → (itAt l i).name = (itAt l j).name → i = j
theorem diffTo_spec {l : List ByteArray} : ∀ {k : Nat}, diffTo l k = true → ∀ i j, i < j → j < k → l[i]?.getD ⟨#[]⟩ ≠ l[j]?.getD ⟨#[]⟩ ∨ l.length ≤ i := by
 intro k
 induction k with
 | zero => intro _ i j _ hj; omega
 | succ k ih =>
   intro h i j hij hj
   simp only [diffTo, Bool.and_eq_true, Bool.not_eq_true', hasS, List.any_eq_false, decide_eq_true_eq] at h
   by_cases e : j = k
   ·subst e
    by_cases hl : i < l.length
    ·left
     intro he
     have hm : l[i] ∈ l.take j := by
      rw [List.mem_take_iff_getElem]
      exact ⟨i, by omega, rfl⟩
     have := h.2 _ hm
     simp [hl] at he
     exact this he.symm
    ·right; omega
   ·exact ih h.1 i j hij (by omega)
theorem dist_of {l : List It} (h : diffB (l.map It.name) = true) : Dist l := by
 intro i j hi hj he
 have key : ∀ i j, i < j → j < l.length → (itAt l i).name ≠ (itAt l j).name := fun i j hij hj => by
  have := diffTo_spec h i j hij (by simpa using hj)
  rcases this with h1 | h1
  ·simpa [itAt, show i < l.length by omega, hj] using h1
  ·simp at h1; omega
 rcases Nat.lt_trichotomy i j with h1 | h1 | h1
 ·exact absurd he (key i j h1 hj)
 ·exact h1
 ·exact absurd he.symm (key j i h1 hi)
theorem idx_some {l : List It} (hd : Dist l) {s : ByteArray} : ∀ {k a : Nat}, k ≤ l.length → a < k → (itAt l a).name = s → idxTo l k s = some a := by
 intro k
 induction k with
 | zero => intro a _ h; omega
 | succ k ih =>
   intro a hk ha hs
   simp only [idxTo]
   by_cases e : s = (itAt l k).name
   ·rw [if_pos e]
    have := hd a k (by omega) (by omega) (by rw [hs, e])
    rw [this]
   ·rw [if_neg e]
    have hne : a ≠ k := fun e2 => e (by rw [← e2, hs])
    exact ih (by omega) (by omega) hs
/-- The counterpart of item i after k renames. -/
def xTo (lo ln : List It) (rs : List Ren) (i : Nat) : Nat → Tr
 | 0 => keepT ln (itAt lo i)
 | k + 1 => if (renAt rs k).old = (itAt lo i).name then ((((fstI ln (renAt rs k).new).getD 0 : Nat) : Int), (renAt rs k).num, (renAt rs k).den) else xTo lo ln rs i k
end Go.Proofs.YthjfdfdgbpbanaaGreatDoor
