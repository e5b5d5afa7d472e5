/- Convert and its reference at whatever arguments; the bags that VersionConverts tries. -/
import Derived.Test.YthjfdfdgbpbanaaGreatDoorA36
import Derived.Test.YthjfdfdgbpbanaaGreatDoorA34
import Derived.Test.YthjfdfdgbpbanaaGreatDoorA13
namespace Go.Proofs.YthjfdfdgbpbanaaGreatDoor
open Go.RowKit

theorem argB_nat {ts : List Tr} {n : Int} {hs : List Int} (h : argB ts n hs = true) : ∃ k : Nat, n = k := by
  simp only [argB, Bool.and_eq_true, decide_eq_true_eq] at h
  exact Int.eq_ofNat_of_zero_le h.1.1.1.1
theorem conv_all {w : World} {A A' : Option Addr} {m m' : Nat} (c c' : Nat) {ts : List Tr} (n : Int) {hs : List Int} (ht : TosV w A m ts) (hh : IntsV w A' m' hs) (hm : m ≤ 1000000) (hm' : m' ≤ 1000000)
    (h0 : -9223372036854775808 ≤ n) (h1 : n ≤ 9223372036854775807) (hA' : A' = none → m' = 0 ∧ c' = 0) :
    Calls Tryz.prog 27 #[.slice A m c, .int .i64 n, .slice A' m' c'] w (ConvPost w ts n hs) := by
  cases hg : argB ts n hs
  · exact conv_bad c c' n ht hh hm hm' h0 h1 hg
  · obtain ⟨k, rfl⟩ := argB_nat hg
    exact conv_good c c' k ht hh hm hm' hA' hg
theorem rconv_all {w : World} {A A' : Option Addr} {m m' : Nat} (c c' : Nat) {ts : List Tr} (n : Int) {hs : List Int} (ht : TosV w A m ts) (hh : IntsV w A' m' hs) (hm : m ≤ 1000000) (hm' : m' ≤ 1000000) :
    Calls Tryz.prog 28 #[.slice A m c, .int .i64 n, .slice A' m' c'] w (ConvPost w ts n hs) := by
  cases hg : argB ts n hs
  · exact rconv_bad c c' n ht hh hm hm' hg
  · obtain ⟨k, rfl⟩ := argB_nat hg
    exact rconv_good c c' k ht hh hm hm' hg

/-- One bag of the list: its slice lies in cell i of block g. -/
def BagAt (W : World) (g i : Nat) (A : Option Addr) (m c : Nat) (zs : List Int) : Prop := W.cell? ⟨g, i, none⟩ = some (.slice A m c) ∧ IntsV W A m zs ∧ m ≤ 1000 ∧ (A = none → m = 0 ∧ c = 0)
def Bags (W : World) (g : Nat) : Prop := g < W.heap.size ∧ ∀ i, i < 3 → ∃ A m c zs, BagAt W g i A m c zs
def Numbers (W : World) (g : Nat) : Prop := g < W.heap.size ∧ ∀ i, i < 3 → ∃ z : Int, W.cell? ⟨g, i, none⟩ = some (.int .i64 z) ∧ -9223372036854775808 ≤ z ∧ z ≤ 9223372036854775807
theorem BagAt.below {W W' : World} {g i m c : Nat} {A : Option Addr} {zs : List Int} (h : BagAt W g i A m c zs) (hg : g < W.heap.size) (hb : Below W.heap.size W W') : BagAt W' g i A m c zs :=
  ⟨(hb.cell hg).trans h.1, h.2.1.below hb, h.2.2⟩
theorem Bags.below {W W' : World} {g : Nat} (h : Bags W g) (hb : Below W.heap.size W W') : Bags W' g :=
  ⟨Nat.lt_of_lt_of_le h.1 hb.size, fun i hi => by obtain ⟨A, m, c, zs, hB⟩ := h.2 i hi; exact ⟨A, m, c, zs, hB.below h.1 hb⟩⟩
theorem Numbers.below {W W' : World} {g : Nat} (h : Numbers W g) (hb : Below W.heap.size W W') : Numbers W' g :=
  ⟨Nat.lt_of_lt_of_le h.1 hb.size, fun i hi => by obtain ⟨z, hz, hB⟩ := h.2 i hi; exact ⟨z, (hb.cell h.1).trans hz, hB⟩⟩
theorem heldL_wf (zs : List Int) (a K : Nat) : Wf (heldL zs a K) := by
  intro z hz
  simp only [heldL, List.mem_map, List.mem_range] at hz
  obtain ⟨i, hi, rfl⟩ := hz
  have h : heldAt zs a i = heldOf (pick zs ((a : Nat) + (i : Int)) 1048576) := rfl
  have := heldOf_bd (pick zs ((a : Nat) + (i : Int)) 1048576)
  omega
theorem wf_take {zs : List Int} (h : Wf zs) (k : Nat) : Wf (zs.take k) := fun z hz => h z (List.mem_of_mem_take hz)
theorem row_take {W : World} {B : Nat} {A : Option Addr} {zs : List Int} (h : Row W B A (ints zs)) (k : Nat) : Row W B A (ints (zs.take k)) := by
  rcases h with h | ⟨b, off, rfl, hb, hc⟩
  · left
    have : zs = [] := by simpa [ints] using h
    subst this; simp [ints]
  · refine .inr ⟨b, off, rfl, hb, fun j u hu => hc j u ?_⟩
    simp only [ints, List.getElem?_map, List.getElem?_take] at hu ⊢
    split at hu
    · exact hu
    · simp at hu
theorem ints_take {W : World} {A : Option Addr} {n : Nat} {zs : List Int} (h : IntsV W A n zs) (k : Nat) (hk : k ≤ n) : IntsV W A k (zs.take k) :=
  ⟨row_take h.row k, by rw [List.length_take, ← h.len]; omega, wf_take h.wf k⟩
theorem wf_snoc {zs : List Int} (h : Wf zs) (x : Int) (x0 : -9223372036854775808 ≤ x) (x1 : x ≤ 9223372036854775807) : Wf (zs ++ [x]) := fun z hz => by
  simp only [List.mem_append, List.mem_singleton] at hz
  rcases hz with hz | rfl
  · exact h z hz
  · exact ⟨x0, x1⟩

end Go.Proofs.YthjfdfdgbpbanaaGreatDoor
