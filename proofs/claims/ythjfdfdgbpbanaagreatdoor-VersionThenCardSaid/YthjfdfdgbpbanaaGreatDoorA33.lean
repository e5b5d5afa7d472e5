/- The contracts of the reference's bag and factor. -/
import Derived.Test.YthjfdfdgbpbanaaGreatDoorA9
namespace Go.Proofs.YthjfdfdgbpbanaaGreatDoor
open Go.RowKit

set_option maxRecDepth 100000 in
set_option maxHeartbeats 1000000 in
theorem bag_any {w : World} {A : Option Addr} {n c : Nat} {zs : List Int} (hr : Row w w.heap.size A (ints zs)) (hn : n = zs.length) (hs : n ≤ 140737488351232) :
    Calls Tryz.prog 61 #[.slice A n c] w fun e w' => e = .returned (.bool (unitsB zs)) ∧ w = w' := by
  have Hr := Lib.hid hr
  have Hn := Lib.hid hn
  clear hr hn
  go_enter Tryz.func61, Tryz.ntmps61
  go_wp2_with fail
  go_loop [3] (fun i => ∃ k : Nat, k ≤ n ∧ i = .int .i64 (k : Int) ∧ ∀ j, j < k → 0 ≤ wAt zs j ∧ wAt zs j ≤ 1099511627776) (fun i => n - (intOf i).toNat)
  case atStart => exact ⟨0, Nat.zero_le _, rfl, fun j hj => by omega⟩
  case round =>
    obtain ⟨k, hk, rfl, hg⟩ := hrel
    have HG := Lib.hid hg
    clear hg
    by_cases hlt : k < n
    · obtain ⟨b, off, rfl, hbb, hc⟩ := Hr.out.at_ k (by rw [ints_length]; have := Hn.out; omega)
      have hcell : w.cell? ⟨b, off + k, none⟩ = some (.int .i64 (wAt zs k)) := hc k _ (ints_at zs k (by have := Hn.out; omega))
      have hbad : Hid (¬ (0 ≤ wAt zs k ∧ wAt zs k ≤ 1099511627776) → unitsB zs = false) := fun h => by
        simp only [unitsB, decide_eq_false_iff_not]
        intro hall
        exact h (hall k (by have := Hn.out; omega))
      have hok : Hid (0 ≤ wAt zs k ∧ wAt zs k ≤ 1099511627776 → ∀ j, j < k + 1 → 0 ≤ wAt zs j ∧ wAt zs j ≤ 1099511627776) := fun h j hj => by
        by_cases hjk : j < k
        · exact HG.out j hjk
        · obtain rfl : j = k := by omega
          exact h
      clear hc HG
      generalize wAt zs k = z at *
      by_cases h0 : z < 0
      · have hu := hbad.out (by omega)
        go_wp2
        go_ret
        exact ⟨rfl, rfl⟩
      · by_cases h1 : 1099511627776 < z
        · have hu := hbad.out (by omega)
          go_wp2
          go_ret
          exact ⟨rfl, rfl⟩
        · have hu := Lib.hid (hok.out (by omega))
          go_wp2
          go_round
          case rel => exact ⟨k + 1, by omega, by go_num, hu.out⟩
          case measure => simp [intOf]; omega
    · obtain rfl : k = n := by omega
      have hu : unitsB zs = true := by
        simp only [unitsB, decide_eq_true_eq]
        intro i hi
        exact HG.out i (by have := Hn.out; omega)
      go_wp2
      go_ret
      exact ⟨rfl, rfl⟩

set_option maxRecDepth 100000 in
theorem factor_any (w : World) (x : Int) : Calls Tryz.prog 48 #[.int .i64 x] w fun e w' => e = .returned (.bool (decide (1 ≤ x ∧ x ≤ 1048576))) ∧ w = w' := by
  by_cases h1 : 1 ≤ x
  · by_cases h2 : x ≤ 1048576
    · have E : Hid (decide (1 ≤ x ∧ x ≤ 1048576) = true) := decide_eq_true ⟨h1, h2⟩
      go_enter Tryz.func48, Tryz.ntmps48
      go_wp2
      go_ret
      exact ⟨by first | rfl | (rw [E.out]; rfl), rfl⟩
    · have E : Hid (decide (1 ≤ x ∧ x ≤ 1048576) = false) := decide_eq_false (by omega)
      have e1 : decide (1 ≤ x) = true := by simp [h1]
      have e2 : decide (x ≤ 1048576) = false := by simp [h2]
      go_enter Tryz.func48, Tryz.ntmps48
      go_wp2
      go_ret
      exact ⟨by first | rfl | (rw [E.out]; rfl), rfl⟩
  · have E : Hid (decide (1 ≤ x ∧ x ≤ 1048576) = false) := decide_eq_false (by omega)
    have e1 : decide (1 ≤ x) = false := by simp [h1]
    go_enter Tryz.func48, Tryz.ntmps48
    go_wp2
    go_ret
    exact ⟨by first | rfl | (rw [E.out]; rfl), rfl⟩

def facB (x : Int) : Bool := decide (1 ≤ x ∧ x ≤ 1048576)
theorem okT_rsplit (n i p q : Int) :
    (okT n i p q = true ∧ (i == -1) = true ∧ (p == 0) = true ∧ (q == 0) = true ∧ decide (0 ≤ i) = false) ∨
    (okT n i p q = false ∧ (i == -1) = true ∧ (p == 0) = true ∧ (q == 0) = false ∧ decide (0 ≤ i) = false) ∨
    (okT n i p q = false ∧ (i == -1) = true ∧ (p == 0) = false ∧ decide (0 ≤ i) = false) ∨
    (okT n i p q = false ∧ (i == -1) = false ∧ decide (0 ≤ i) = false) ∨
    (okT n i p q = false ∧ (i == -1) = false ∧ decide (0 ≤ i) = true ∧ decide (i < n) = false) ∨
    (okT n i p q = false ∧ (i == -1) = false ∧ decide (0 ≤ i) = true ∧ decide (i < n) = true ∧ decide (1 ≤ p ∧ p ≤ 1048576) = false) ∨
    (okT n i p q = false ∧ (i == -1) = false ∧ decide (0 ≤ i) = true ∧ decide (i < n) = true ∧ decide (1 ≤ p ∧ p ≤ 1048576) = true ∧ decide (1 ≤ q ∧ q ≤ 1048576) = false) ∨
    (okT n i p q = true ∧ (i == -1) = false ∧ decide (0 ≤ i) = true ∧ decide (i < n) = true ∧ decide (1 ≤ p ∧ p ≤ 1048576) = true ∧ decide (1 ≤ q ∧ q ≤ 1048576) = true) := by
  have F : ¬ ((i = -1 ∧ p = 0 ∧ q = 0) ∨ (0 ≤ i ∧ i < n ∧ 1 ≤ p ∧ p ≤ 1048576 ∧ 1 ≤ q ∧ q ≤ 1048576)) → okT n i p q = false := fun h => decide_eq_false h
  have T : ((i = -1 ∧ p = 0 ∧ q = 0) ∨ (0 ≤ i ∧ i < n ∧ 1 ≤ p ∧ p ≤ 1048576 ∧ 1 ≤ q ∧ q ≤ 1048576)) → okT n i p q = true := fun h => decide_eq_true h
  by_cases a : i = -1
  · have a' : (i == -1) = true := by simpa using a
    have z : decide (0 ≤ i) = false := decide_eq_false (by omega)
    by_cases b : p = 0
    · have b' : (p == 0) = true := by simpa using b
      by_cases c : q = 0
      · exact .inl ⟨T (by omega), a', b', by simpa using c, z⟩
      · exact .inr (.inl ⟨F (by omega), a', b', by simpa using c, z⟩)
    · exact .inr (.inr (.inl ⟨F (by omega), a', by simpa using b, z⟩))
  have a' : (i == -1) = false := by simpa using a
  by_cases b : 0 ≤ i
  · have b' : decide (0 ≤ i) = true := decide_eq_true b
    by_cases c : i < n
    · have c' : decide (i < n) = true := decide_eq_true c
      by_cases d : 1 ≤ p ∧ p ≤ 1048576
      · by_cases e : 1 ≤ q ∧ q ≤ 1048576
        · exact .inr (.inr (.inr (.inr (.inr (.inr (.inr ⟨T (by omega), a', b', c', decide_eq_true d, decide_eq_true e⟩))))))
        · exact .inr (.inr (.inr (.inr (.inr (.inr (.inl ⟨F (by omega), a', b', c', decide_eq_true d, decide_eq_false e⟩))))))
      · exact .inr (.inr (.inr (.inr (.inr (.inl ⟨F (by omega), a', b', c', decide_eq_false d⟩)))))
    · exact .inr (.inr (.inr (.inr (.inl ⟨F (by omega), a', b', decide_eq_false c⟩))))
  · exact .inr (.inr (.inr (.inl ⟨F (by omega), a', decide_eq_false b⟩)))

set_option maxRecDepth 100000 in
set_option maxHeartbeats 1000000 in
theorem rvalid_any {w : World} {A : Option Addr} {m : Nat} (c : Nat) {ts : List Tr} (n : Int) (h : TosV w A m ts) (hs : m ≤ 1000000) :
    Calls Tryz.prog 60 #[.slice A m c, .int .i64 n] w fun e w' => e = .returned (.bool (validB ts n)) ∧ w = w' := by
  have Hn := Lib.hid h.len
  have H := Lib.hid h
  clear h
  go_enter Tryz.func60, Tryz.ntmps60
  go_wp2_with fail
  go_loop [5] (fun i => ∃ k : Nat, k ≤ m ∧ i = .int .i64 k ∧ validTo ts n k = true) (fun i => m - (intOf i).toNat)
  case atStart => exact ⟨0, Nat.zero_le _, rfl, rfl⟩
  case round =>
    obtain ⟨k, hk, rfl, hR⟩ := hrel
    have HR := Lib.hid hR
    clear hR
    by_cases hlt : k < m
    · have hkl : k < ts.length := by have := Hn.out; omega
      obtain ⟨b, off, rfl, hbb, hc⟩ := H.out.row.at_ 0 (by rw [tcells_length]; omega)
      obtain ⟨t1, t2, t3⟩ := tcells_at ts k hkl
      have c1 := hc _ _ t1
      have c2 := hc _ _ t2
      have c3 := hc _ _ t3
      simp only [← Nat.add_assoc] at c2 c3
      have Hs : Hid (okT n (itemAt ts k) (numAt ts k) (denAt ts k) = true → validTo ts n (k + 1) = true) := fun h => by
        simp only [validTo, HR.out, Bool.true_and]; exact h
      have Hno : Hid (okT n (itemAt ts k) (numAt ts k) (denAt ts k) = false → validB ts n = false) := fun h => validTo_no (k := k) h _ hkl
      clear hc t1 t2 t3 hkl
      generalize itemAt ts k = i at *
      generalize numAt ts k = p at *
      generalize denAt ts k = q at *
      rcases okT_rsplit n i p q with ⟨ho, h1, h2, h3, h4⟩ | ⟨ho, h1, h2, h3, h4⟩ | ⟨ho, h1, h2, h3⟩ | ⟨ho, h1, h2⟩ | ⟨ho, h1, h2, h3⟩ | ⟨ho, h1, h2, h3, h4⟩ | ⟨ho, h1, h2, h3, h4, h5⟩ | ⟨ho, h1, h2, h3, h4, h5⟩
      all_goals first
        | (have HF := Lib.hid (Hno.out ho)
           clear ho Hs Hno
           go_wp2_with (go_at_call 48; refine (factor_any _ _).mono ?_; rintro e w' ⟨rfl, rfl⟩)
           go_ret
           exact ⟨by rw [HF.out]; rfl, rfl⟩)
        | (have HF := Lib.hid (Hs.out ho)
           clear ho Hs Hno
           go_wp2_with (go_at_call 48; refine (factor_any _ _).mono ?_; rintro e w' ⟨rfl, rfl⟩)
           go_round
           case rel => exact ⟨k + 1, by omega, by go_num, HF.out⟩
           case measure => simp [intOf]; omega)
    · have hkn : k = ts.length := by have := Hn.out; omega
      rw [hkn] at HR
      clear hkn
      have HT : Hid (validB ts n = true) := HR
      go_wp2
      go_ret
      exact ⟨by rw [HT.out]; rfl, rfl⟩

end Go.Proofs.YthjfdfdgbpbanaaGreatDoor
