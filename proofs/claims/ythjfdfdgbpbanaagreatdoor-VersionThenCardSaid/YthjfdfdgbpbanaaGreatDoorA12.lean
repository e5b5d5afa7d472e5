/- The table of the kinds of bytes, and the contract of lexer.kindAt. -/
import Derived.Test.YthjfdfdgbpbanaaGreatDoorA10
namespace Go.Proofs.YthjfdfdgbpbanaaGreatDoor
open Go.RowKit

def kindL : List Int := [0, 0, 0, 0, 0, 0, 0, 0, 0, 1, 1, 0, 0, 0, 0, 0, 0, 0, 0, 0, 0, 0, 0, 0, 0, 0, 0, 0, 0, 0, 0, 0, 1, 0, 0, 2, 0, 0, 0, 0, 7, 7, 0, 7, 7, 6, 7, 0, 4, 4, 4, 4, 4, 4, 4, 4, 4, 4, 7, 7, 7, 7, 7, 0, 0, 0, 0, 0, 0, 0, 0, 0, 0, 0, 0, 0, 0, 0, 0, 0, 0, 0, 0, 0, 0, 0, 0, 0, 0, 0, 0, 0, 0, 0, 0, 5, 0, 3, 3, 3, 3, 3, 3, 3, 3, 3, 3, 3, 3, 3, 3, 3, 3, 3, 3, 3, 3, 3, 3, 3, 3, 3, 3, 7, 0, 7, 0, 0]
def kindOf (i : Nat) : Int := kindL[i]?.getD 0
theorem kindOf_bd (i : Nat) : 0 ≤ kindOf i ∧ kindOf i ≤ 7 := by
  unfold kindOf
  by_cases h : i < 128
  · have : ∀ j : Fin 128, 0 ≤ kindL[j.val]?.getD 0 ∧ kindL[j.val]?.getD 0 ≤ 7 := by decide +kernel
    exact this ⟨i, h⟩
  · rw [List.getElem?_eq_none (by simp [kindL]; omega)]; simp

/-- The table lies in block 0. -/
def Tab (w : World) : Prop := 1 ≤ w.heap.size ∧ ∀ i, i < 128 → w.cell? ⟨0, i, none⟩ = some (.int .u8 (kindOf i))
theorem Tab.below {B : Nat} {w w' : World} (h : Tab w) (hb : Below B w w') (hB : 1 ≤ B) : Tab w' :=
  ⟨Nat.le_trans h.1 hb.size, fun i hi => (hb.cell (p := ⟨0, i, none⟩) (by simp; omega)).trans (h.2 i hi)⟩

/-- The kind of the byte of a text at an offset. -/
def kindAt (s : ByteArray) (i : Nat) : Int := if h : i < s.size then (if s[i].toNat < 128 then kindOf s[i].toNat else 0) else 0

set_option maxHeartbeats 400000 in
theorem kindAt_any (s : ByteArray) (i : Nat) (w : World) (hT : Tab w) :
    Calls Tryz.prog 189 #[.string s, .int .i64 i] w fun e w' => e = .returned (.int .u8 (kindAt s i)) ∧ w = w' := by
  by_cases hlt : i < s.size
  · have hbd := s[i].toNat_lt
    by_cases hc : s[i].toNat < 128
    · have hcell := hT.2 s[i].toNat hc
      have Hk : Hid (kindAt s i = kindOf s[i].toNat) := by show kindAt s i = _; simp [kindAt, hlt, hc]
      generalize kindOf s[i].toNat = k at hcell Hk
      go_enter Tryz.func189, Tryz.ntmps189
      go_wp2
      go_ret
      exact ⟨by rw [Hk.out]; rfl, rfl⟩
    · have Hk : Hid (kindAt s i = 0) := by show kindAt s i = _; simp [kindAt, hlt, hc]
      go_enter Tryz.func189, Tryz.ntmps189
      go_wp2
      go_ret
      exact ⟨by rw [Hk.out]; rfl, rfl⟩
  · have Hk : Hid (kindAt s i = 0) := by show kindAt s i = _; simp [kindAt, hlt]
    go_enter Tryz.func189, Tryz.ntmps189
    go_wp2
    go_ret
    exact ⟨by rw [Hk.out]; rfl, rfl⟩

end Go.Proofs.YthjfdfdgbpbanaaGreatDoor
