/- The contract of lives: the example of the section. -/
import Derived.Test.YthjfdfdgbpbanaaGreatDoorA29
import Derived.Test.YthjfdfdgbpbanaaGreatDoorA13
namespace Go.Proofs.YthjfdfdgbpbanaaGreatDoor
open Go.RowKit

def sOre : ByteArray := ⟨#[111, 114, 101]⟩
def sWood : ByteArray := ⟨#[119, 111, 111, 100]⟩
def sIron : ByteArray := ⟨#[105, 114, 111, 110]⟩
theorem plain_of_letters (s : ByteArray) (hl : s.size ≤ 16) (h : ∀ i, i < s.size → kindAt s i = 3) : PlainName s :=
  ⟨hl, fun p hp => .inl ⟨h p hp, fun i _ hi => by rw [h i hi]; rfl⟩⟩
theorem plain_ore : PlainName sOre := by
  refine plain_of_letters sOre (by decide) fun i hi => ?_
  have hi' : i < 3 := hi
  rcases (show i = 0 ∨ i = 1 ∨ i = 2 by omega) with rfl | rfl | rfl <;> decide +kernel
theorem plain_wood : PlainName sWood := by
  refine plain_of_letters sWood (by decide) fun i hi => ?_
  have hi' : i < 4 := hi
  rcases (show i = 0 ∨ i = 1 ∨ i = 2 ∨ i = 3 by omega) with rfl | rfl | rfl | rfl <;> decide +kernel
theorem plain_iron : PlainName sIron := by
  refine plain_of_letters sIron (by decide) fun i hi => ?_
  have hi' : i < 4 := hi
  rcases (show i = 0 ∨ i = 1 ∨ i = 2 ∨ i = 3 by omega) with rfl | rfl | rfl | rfl <;> decide +kernel
def bare (s : ByteArray) : It := ⟨s, false, false, false, 0, 0, 0⟩
def oldL : List It := [bare sOre, bare sWood]
def nextL : List It := [bare sWood, bare sIron]
def renL : List Ren := [⟨sOre, sIron, 1, 2⟩]
theorem good_old : GoodIt oldL := ⟨by decide, by decide +kernel, by decide +kernel, by decide +kernel, by decide +kernel⟩
theorem good_next : GoodIt nextL := ⟨by decide, by decide +kernel, by decide +kernel, by decide +kernel, by decide +kernel⟩
theorem names_old : ∀ t ∈ oldL, PlainName t.name := by
  intro t ht
  simp only [oldL, List.mem_cons, List.not_mem_nil, or_false] at ht
  rcases ht with rfl | rfl
  · exact plain_ore
  · exact plain_wood
theorem names_next : ∀ t ∈ nextL, PlainName t.name := by
  intro t ht
  simp only [nextL, List.mem_cons, List.not_mem_nil, or_false] at ht
  rcases ht with rfl | rfl
  · exact plain_wood
  · exact plain_iron
theorem new_e1 : newE oldL nextL renL = 0 := by decide +kernel
theorem new_l1 : newL oldL nextL renL = [(1, 1, 2), (0, 1, 1)] := by decide +kernel
theorem new_e2 : newE oldL nextL [] = 0 := by decide +kernel
theorem new_l2 : newL oldL nextL [] = [(-1, 0, 0), (0, 1, 1)] := by decide +kernel
theorem miss_2 : missI (newL oldL nextL []) [5, 0] = some 0 := by rw [new_l2]; decide +kernel
theorem conv_arg : argB [(1, 1, 2), (0, 1, 1)] 2 [5, 3] = true := by decide +kernel
theorem conv_e : convE [(1, 1, 2), (0, 1, 1)] 2 [5, 3] = 0 := by decide +kernel
theorem conv_now : nowL [(1, 1, 2), (0, 1, 1)] 2 [5, 3] = [3, 2] := by decide +kernel
theorem conv_left : leftL [(1, 1, 2), (0, 1, 1)] 2 [5, 3] = [1, 0] := by decide +kernel
theorem units_50 : unitsB [5, 0] = true := by decide +kernel
theorem keep_ok : ∀ k, k < 2 → keepErr nextL (itAt oldL k) = 0 := by
  intro k hk
  rcases (show k = 0 ∨ k = 1 by omega) with rfl | rfl <;> decide +kernel
theorem merge_l : (mergeL oldL nextL 2).map (·.name) = [sOre, sWood, sIron] := by decide +kernel

end Go.Proofs.YthjfdfdgbpbanaaGreatDoor
