/- The contract of lives: the documented examples. -/
import Derived.Test.YtlgedljhheficaaGreatDoorA24
import Derived.Test.YtlgedljhheficaaGreatDoorA21
namespace Go.Proofs.YtlgedljhheficaaGreatDoor
open Go.RowKit

def flat : ByteArray := ⟨#[102, 108, 97, 116]⟩
theorem plain_of_letters (s : ByteArray) (hl : s.size ≤ 16) (h : ∀ i, i < s.size → kindAt s i = 3) : PlainName s :=
  ⟨hl, fun p hp => .inl ⟨h p hp, fun i _ hi => by rw [h i hi]; rfl⟩⟩
theorem sale_size : sale.size = 4 := rfl
theorem flat_size : flat.size = 4 := rfl
theorem plain_sale : PlainName sale := by
  refine plain_of_letters sale (by decide) fun i hi => ?_
  rw [sale_size] at hi
  rcases (show i = 0 ∨ i = 1 ∨ i = 2 ∨ i = 3 by omega) with rfl | rfl | rfl | rfl <;> decide +kernel
theorem plain_flat : PlainName flat := by
  refine plain_of_letters flat (by decide) fun i hi => ?_
  rw [flat_size] at hi
  rcases (show i = 0 ∨ i = 1 ∨ i = 2 ∨ i = 3 by omega) with rfl | rfl | rfl | rfl <;> decide +kernel
theorem fits_sale : fitsB sale = true := by decide +kernel
theorem fits_flat : fitsB flat = true := by decide +kernel

def brsA : List (Int × Int) := [(0, 500), (1000, 10000)]
def brsB : List (Int × Int) := [(0, 500)]
theorem valid_A : validE sale brsA = 0 := by decide +kernel
theorem valid_B : validE flat brsB = 0 := by decide +kernel
theorem due_A1 : due brsA 1000 = 50 := by decide +kernel
theorem due_A2 : due brsA 1003 = 53 := by decide +kernel
theorem due_A3 : due brsA 1099511627776 = 1099511626826 := by decide +kernel
theorem due_B1 : due brsB 19 = 0 := by decide +kernel
theorem due_B2 : due brsB 20 = 1 := by decide +kernel
theorem dueR_A1 : dueR sale brsA 1000 = (50, 0) := by unfold dueR; rw [valid_A, if_pos rfl, if_pos (by decide), due_A1]
theorem dueR_A2 : dueR sale brsA 1003 = (53, 0) := by unfold dueR; rw [valid_A, if_pos rfl, if_pos (by decide), due_A2]
theorem dueR_B1 : dueR flat brsB 19 = (0, 0) := by unfold dueR; rw [valid_B, if_pos rfl, if_pos (by decide), due_B1]
theorem moreR_B : moreR flat brsB 19 1 = (1, 0) := by
  unfold moreR; rw [valid_B, if_pos rfl, if_pos (by decide), if_pos (by decide), if_pos (by decide)]
  show (due brsB 20 - due brsB 19, 0) = ((1, 0) : Int × Int)
  rw [due_B1, due_B2]; rfl
theorem netR_A {r : Int × Int} (h : NetR sale brsA 950 r) : r = (1099511627776, 0) := by
  unfold NetR at h
  rw [valid_A, if_pos rfl, if_pos (by decide)] at h
  have hn : NetIs brsA 950 1099511627776 := ⟨by omega, by omega, by rw [due_A3]; omega, fun h => by omega⟩
  have := NetIs.unique (good_of_valid valid_A) h.2 hn
  obtain ⟨a, b⟩ := r
  simp only at h this
  rw [this, h.1]

def qA (i : Nat) : Int := ([30, 0, 20] : List Int)[i]?.getD 0
def rA (_ : Nat) : Int := 0
def wA (i : Nat) : Int := ([600, 0, 400] : List Int)[i]?.getD 0
theorem div_A : DivOk 50 1000 (fun i => ([600, 0, 400] : List Int)[i]?.getD 0) 3 qA rA := by
  intro i hi W
  rcases (show i = 0 ∨ i = 1 ∨ i = 2 by omega) with rfl | rfl | rfl
  · exact divide_small 50 600 1000 (by omega) (by omega) (by omega) (by omega) (by omega) (by omega) W
  · exact divide_small 50 0 1000 (by omega) (by omega) (by omega) (by omega) (by omega) (by omega) W
  · exact divide_small 50 400 1000 (by omega) (by omega) (by omega) (by omega) (by omega) (by omega) W
theorem sort_A : SortOk 3 rA (fun i => i) := by
  intro W bx gr gd h hk
  have hid : ∀ k : Nat, k < 3 → W.cell? ⟨gd, k, none⟩ = some (.int .i64 k) := by
    intro k hk3
    rw [hk.cell]
    simp [ints, hk3, idI]
  refine (sort_id h hid ?_).mono fun e w' ⟨he, hb⟩ => ⟨he, ⟨hb.os, hb.tape, hb.output, hb.size, fun i hi _ => hb.block i hi⟩, ?_⟩
  · intro k hk3
    rcases (show k = 0 ∨ k = 1 by omega) with rfl | rfl <;> decide +kernel
  · exact hk.below hb hk.lt
theorem bump_A : (List.range 3).map (bumped qA (fun i => i) 0) = [30, 0, 20] := by decide +kernel

theorem shares_A {w : World} {A A' : Option Addr} (h : TaxV w sale A 2 brsA) (hr : Row w w.heap.size A' (ints [600, 0, 400])) :
    Calls Tryz.prog 20 #[.agg #[.string sale, .slice A 2 2], .slice A' 3 3] w (SplitPost w 3 (bumped qA (fun i => i) 0)) := by
  refine shares_good 2 3 1000 qA rA (fun i => i) 0 h valid_A hr rfl (by omega) ?_ (by decide +kernel) (by omega) (by omega) ?_ (by rw [due_A1]; exact div_A) sort_A ?_ ?_ (by rw [due_A1]; decide +kernel) (by omega) (fun i hi => hi) (fun i j _ _ h => h)
  · intro i hi
    rcases (show i = 0 ∨ i = 1 ∨ i = 2 by omega) with rfl | rfl | rfl <;> decide +kernel
  · intro i hi
    rcases (show i = 0 ∨ i = 1 ∨ i = 2 by omega) with rfl | rfl | rfl <;> decide +kernel
  · intro i hi
    rcases (show i = 0 ∨ i = 1 ∨ i = 2 by omega) with rfl | rfl | rfl <;> decide +kernel
  · intro i hi
    rcases (show i = 0 ∨ i = 1 ∨ i = 2 by omega) with rfl | rfl | rfl <;> decide +kernel

end Go.Proofs.YtlgedljhheficaaGreatDoor
