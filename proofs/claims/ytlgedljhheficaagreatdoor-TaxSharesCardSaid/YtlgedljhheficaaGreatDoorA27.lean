/- The contract of Sum, and the taxes made from numbers: they are valid. -/
import Derived.Test.YtlgedljhheficaaGreatDoorA26
namespace Go.Proofs.YtlgedljhheficaaGreatDoor
open Go.RowKit

def sumK (n : Int) : Int := around n 40
def sumV (n : Int) : Int := around (n.tdiv 40) 10000
def near (F v : Int) : Int := max 0 (wrap64 (wrap64 (F + v % 5) - 2))
def sumOf (brs : List (Int × Int)) (n : Int) : Int :=
  if sumK n < brs.length then near (fromAt brs (sumK n).toNat) (sumV n)
  else if sumK n = 39 then 1099511627776 - sumV n % 3 else if 30 < sumK n then sumV n * 100000 else sumV n

theorem tdiv_bd (x : Int) (h0 : -9223372036854775808 ≤ x) (h1 : x ≤ 9223372036854775807) : -9223372036854775808 ≤ x.tdiv 40 ∧ x.tdiv 40 ≤ 9223372036854775807 := by
  by_cases h : 0 ≤ x
  · rw [Int.tdiv_eq_ediv_of_nonneg h]; omega
  · obtain ⟨y, rfl⟩ : ∃ y, x = -y := ⟨-x, by omega⟩
    rw [Int.neg_tdiv, Int.tdiv_eq_ediv_of_nonneg (by omega)]; omega

set_option maxRecDepth 100000 in
set_option maxHeartbeats 1000000 in
theorem Sum_any {w : World} {nm : ByteArray} {A : Option Addr} {n : Nat} (c : Nat) {brs : List (Int × Int)} (x : Int) (hr : Row w w.heap.size A (bcells brs)) (hn : n = brs.length) (h0 : -9223372036854775808 ≤ x) (h1 : x ≤ 9223372036854775807) :
    Calls Tryz.prog 11 #[.agg #[.string nm, .slice A n c], .int .i64 x] w fun e w' => e = .returned (.int .i64 (sumOf brs x)) ∧ Below w.heap.size w w' := by
  have hb0 : Below w.heap.size w (w.alloc (.cells #[.string nm, .slice A n c] 25)) := (Below.refl _ _).alloc (Nat.le_refl _) _
  have Hs : Hid (sumOf brs x = if sumK x < brs.length then near (fromAt brs (sumK x).toNat) (sumV x)
    else if sumK x = 39 then 1099511627776 - sumV x % 3 else if 30 < sumK x then sumV x * 100000 else sumV x) := rfl
  have k0 := around_lo x 40 (by omega)
  have k1 := around_hi x 40 (by omega)
  have v0 := around_lo (x.tdiv 40) 10000 (by omega)
  have v1 := around_hi (x.tdiv 40) 10000 (by omega)
  have hd0 : -9223372036854775808 ≤ x.tdiv 40 := (tdiv_bd x h0 h1).1
  have hd1 : x.tdiv 40 ≤ 9223372036854775807 := (tdiv_bd x h0 h1).2
  generalize sumOf brs x = S at *
  have HN := Lib.hid hn
  clear hn
  go_enter Tryz.func11, Tryz.ntmps11
  go_wp2_with fail
  (with_reducible refine (around_any x 40 _ h0 h1 (by omega) (by omega)).mono ?_)
  rintro e w' ⟨rfl, rfl⟩
  change Hid (S = if around x 40 < brs.length then near (fromAt brs (around x 40).toNat) (around (x.tdiv 40) 10000)
    else if around x 40 = 39 then 1099511627776 - around (x.tdiv 40) 10000 % 3 else if 30 < around x 40 then around (x.tdiv 40) 10000 * 100000 else around (x.tdiv 40) 10000) at Hs
  go_wp2_with fail
  (with_reducible refine (around_any (x.tdiv 40) 10000 _ hd0 hd1 (by omega) (by omega)).mono ?_)
  rintro e w' ⟨rfl, rfl⟩
  obtain ⟨k, hk⟩ : ∃ k : Nat, around x 40 = k := ⟨(around x 40).toNat, by omega⟩
  rw [hk] at Hs k1 ⊢
  generalize around (x.tdiv 40) 10000 = v at *
  clear hk k0
  rw [← HN.out] at Hs
  by_cases c1 : k < n
  · have Hs2 : Hid (S = near (fromAt brs k) v) := by
      have := Hs.out
      rw [if_pos (by omega)] at this
      exact this
    have hF := bcells_from brs k (by rw [← HN.out]; omega)
    obtain ⟨b, off, rfl, hbb, hc⟩ := hr.at_ (k * 2) (by rw [bcells_length, ← HN.out]; omega)
    have hcell := hc _ _ hF
    generalize fromAt brs k = F at *
    clear hc hF Hs hr HN
    have Hb := Lib.hid hb0
    clear hb0
    go_wp2
    go_ret
    exact ⟨by rw [Hs2.out]; rfl, Hb.out⟩
  · clear hr
    have Hb := Lib.hid hb0
    clear hb0 HN
    by_cases c2 : k = 39
    · subst c2
      have Hs2 : Hid (S = 1099511627776 - v % 3) := by
        have := Hs.out
        rw [if_neg (by omega), if_pos (by rfl)] at this
        exact this
      clear Hs
      go_wp2
      go_ret
      exact ⟨by rw [Hs2.out]; rfl, Hb.out⟩
    · by_cases c3 : 30 < k
      · have Hs2 : Hid (S = v * 100000) := by
          have := Hs.out
          rw [if_neg (by omega), if_neg (by omega), if_pos (by omega)] at this
          exact this
        clear Hs
        go_wp2
        go_ret
        exact ⟨by rw [Hs2.out]; rfl, Hb.out⟩
      · have Hs2 : Hid (S = v) := by
          have := Hs.out
          rw [if_neg (by omega), if_neg (by omega), if_neg (by omega)] at this
          exact this
        clear Hs
        go_wp2
        go_ret
        exact ⟨by rw [Hs2.out]; rfl, Hb.out⟩

theorem taxOf_len (zs : List Int) : 1 ≤ (taxOf zs).length ∧ (taxOf zs).length ≤ 6 := by
  have h0 := pick_lo zs 1 6 (by omega)
  have h1 := pick_hi zs 1 6 (by omega)
  rw [taxOf, taxTo_length]; omega
theorem taxOf_bd (zs : List Int) (i : Nat) (h : i < (taxOf zs).length) : 0 ≤ fromAt (taxOf zs) i ∧ fromAt (taxOf zs) i ≤ 5000005000 ∧ 0 ≤ perAt (taxOf zs) i ∧ perAt (taxOf zs) i ≤ 10000 ∧ (i + 1 < (taxOf zs).length → fromAt (taxOf zs) i < fromAt (taxOf zs) (i + 1)) := by
  have hl := taxOf_len zs
  have hk : i ≤ (pick zs 1 6).toNat := by rw [taxOf, taxTo_length] at h; omega
  obtain ⟨a, b, c, d, e⟩ := taxTo_bd zs (pick zs 1 6).toNat i hk
  refine ⟨a, ?_, c, d, fun h2 => e ?_⟩
  · have : (i : Int) * 1000001000 ≤ 5 * 1000001000 := by omega
    exact Int.le_trans b this
  · rw [taxOf, taxTo_length] at h2; omega
theorem taxOf_zero (zs : List Int) : fromAt (taxOf zs) 0 = 0 := by
  obtain ⟨a, b, _⟩ := taxTo_bd zs (pick zs 1 6).toNat 0 (Nat.zero_le _)
  change fromAt (taxTo zs (pick zs 1 6).toNat) 0 = 0
  omega
theorem taxOf_valid (zs : List Int) : validE sale (taxOf zs) = 0 := by
  have hl := taxOf_len zs
  have h1 : decide ((taxOf zs).length ≤ 16) = true := by simp; omega
  have h2 : fitsB sale = true := by decide
  have h3 : formedB (taxOf zs) = true := by
    have he : (taxOf zs).isEmpty = false := by
      cases hx : taxOf zs with
      | nil => rw [hx] at hl; simp at hl
      | cons => rfl
    have hi : incB (taxOf zs) (taxOf zs).length = true := by
      simp only [incB, List.all_eq_true, List.mem_range, Bool.or_eq_true, beq_iff_eq, decide_eq_true_eq]
      intro i hi
      rcases i with _ | i
      · exact .inl rfl
      · exact .inr ((taxOf_bd zs i (by omega)).2.2.2.2 hi)
    simp [formedB, he, taxOf_zero, hi]
  have h4 : rangeB (taxOf zs) (taxOf zs).length = true := by
    simp only [rangeB, List.all_eq_true, List.mem_range]
    intro i hi
    obtain ⟨a, b, c, d, _⟩ := taxOf_bd zs i hi
    simp only [brB, Bool.and_eq_true, decide_eq_true_eq]
    omega
  simp [validE, h1, h2, h3, h4]
theorem near_bd {F v : Int} (f0 : 0 ≤ F) (f1 : F ≤ 5000005000) : 0 ≤ near F v ∧ near F v ≤ 1099511627776 := by
  have : wrap64 (wrap64 (F + v % 5) - 2) = F + v % 5 - 2 := by unfold wrap64; omega
  rw [near, this]; omega
theorem sum_in (zs : List Int) (n : Int) : 0 ≤ sumOf (taxOf zs) n ∧ sumOf (taxOf zs) n ≤ 1099511627776 := by
  have k0 : 0 ≤ sumK n := around_lo n 40 (by omega)
  have v0 : 0 ≤ sumV n := around_lo _ 10000 (by omega)
  have v1 : sumV n < 10000 := around_hi _ 10000 (by omega)
  unfold sumOf
  split
  · obtain ⟨a, b, _⟩ := taxOf_bd zs (sumK n).toNat (by omega)
    exact near_bd a b
  · split
    · omega
    · split <;> omega

/-- A row owned is a row. -/
theorem row_of_owns {w' : World} {base n : Nat} {v : Value} {xs : List Value} (h : w'.ownsRow base 65 2 v n xs) : ∃ A c, v = .slice A n c ∧ Row w' w'.heap.size A xs := by
  rcases h.2 with ⟨rfl, h0⟩ | ⟨g, cap, cur, hv, _, hg, _⟩
  · refine ⟨none, 0, by rw [h0], .inl ?_⟩
    have := h.1
    rw [h0] at this
    exact List.length_eq_zero_iff.1 (by simpa using this)
  · refine ⟨some ⟨g, 0, none⟩, cap, hv, .inr ⟨g, 0, rfl, (Array.getElem?_eq_some_iff.1 hg).1, fun j u hu => ?_⟩⟩
    subst hv
    rw [Nat.zero_add, h.cellAt j (by have := (List.getElem?_eq_some_iff.1 hu).1; have := h.1; omega)]
    exact hu

end Go.Proofs.YtlgedljhheficaaGreatDoor
