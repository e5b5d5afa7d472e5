/- Contracts of lexer.skip and lexer.next where a word or nothing stands. -/
import Derived.Test.YthjfdfdgbpbanaaGreatDoorA12
namespace Go.Proofs.YthjfdfdgbpbanaaGreatDoor
open Go.RowKit

set_option maxRecDepth 100000 in
set_option maxHeartbeats 400000 in
theorem skip_stay (s : ByteArray) (i : Nat) (w : World) (hT : Tab w) (h1 : kindAt s i ≠ 1) (h2 : kindAt s i ≠ 2) :
    Calls Tryz.prog 187 #[.string s, .int .i64 i] w fun e w' => e = .returned (.int .i64 i) ∧ w = w' := by
  have q1 : (kindAt s i == 1) = false := by simpa using h1
  have q2 : (kindAt s i == 2) = false := by simpa using h2
  have HT := Lib.hid hT
  clear h1 h2 hT
  by_cases hlt : i < s.size
  · go_enter Tryz.func187, Tryz.ntmps187
    go_wp2
    refine wp_loop_rounds 1 ?_
    rw [rounds_succ]
    go_wp2_with fail
    refine (kindAt_any s i _ HT.out).mono ?_
    rintro e w' ⟨rfl, rfl⟩
    generalize kindAt s i = k at *
    go_wp2
    go_ret
    exact ⟨rfl, rfl⟩
  · go_enter Tryz.func187, Tryz.ntmps187
    go_wp2
    refine wp_loop_rounds 1 ?_
    rw [rounds_succ]
    go_wp2
    go_ret
    exact ⟨rfl, rfl⟩

/-- The byte continues a word. -/
def wordB (k : Int) : Bool := (k == 3) || (k == 4) || (k == 5)

set_option maxRecDepth 100000 in
set_option maxHeartbeats 1000000 in
theorem next_word (s : ByteArray) (p : Nat) (w : World) (hT : Tab w) (h0 : kindAt s p = 3) (hall : ∀ i, p ≤ i → i < s.size → wordB (kindAt s i) = true) (hl : p < s.size) (hl2 : s.size ≤ 16) :
    Calls Tryz.prog 188 #[.string s, .int .i64 p] w fun e w' => e = .returned (.tuple #[.agg #[.int .i64 0, .string (s.extract p s.size), .int .i64 0, .int .i64 p], .int .i64 0]) ∧ Below w.heap.size w w' := by
  have HT := Lib.hid hT
  have H0 := Lib.hid h0
  have Ha := Lib.hid hall
  have hend : kindAt s s.size = 0 := by simp [kindAt]
  have He := Lib.hid hend
  clear hT h0 hall hend
  go_enter Tryz.func188, Tryz.ntmps188
  go_wp2_with fail
  refine (kindAt_any s p _ (HT.out.below ((((Below.refl _ w).alloc (Nat.le_refl _) _).alloc (by simp) _)) HT.out.1)).mono ?_
  rintro e w' ⟨rfl, rfl⟩
  rw [H0.out]
  go_wp2_with fail
  refine (kindAt_any s (p + 1) _ (HT.out.below ((((Below.refl _ w).alloc (Nat.le_refl _) _).alloc (by simp) _)) HT.out.1)).mono ?_
  rintro e w' ⟨rfl, rfl⟩
  obtain ⟨k1, hk1⟩ : ∃ k1, k1 = kindAt s (p + 1) := ⟨_, rfl⟩
  have Hk1 := Lib.hid hk1
  rw [← hk1]
  clear hk1
  go_wp2_with fail
  go_loop [7, 8] (fun e k => ∃ j : Nat, p + 1 ≤ j ∧ j ≤ s.size ∧ e = .int .i64 j ∧ k = .int .u8 (kindAt s j)) (fun e _ => s.size - (intOf e).toNat)
  case atStart => exact ⟨p + 1, Nat.le_refl _, hl, by go_num, by rw [Hk1.out]⟩
  case round =>
    obtain ⟨j, hj1, hj2, rfl, rfl⟩ := hrel
    by_cases hlt : j < s.size
    · have hwb := Ha.out j (by omega) hlt
      have hk : kindAt s j = 3 ∨ kindAt s j = 4 ∨ kindAt s j = 5 := by simpa [wordB, or_assoc] using hwb
      clear hwb
      generalize kindAt s j = k at *
      rcases hk with rfl | rfl | rfl
      all_goals
        go_wp2_with fail
        refine (kindAt_any s (j + 1) _ (HT.out.below ((((Below.refl _ w).alloc (Nat.le_refl _) _).alloc (by simp) _)) HT.out.1)).mono ?_
        rintro e w' ⟨rfl, rfl⟩
        go_wp2_with fail
        go_round
        case rel => exact ⟨j + 1, by omega, by omega, by go_num, rfl⟩
        case measure => simp [intOf]; omega
    · obtain rfl : j = s.size := by omega
      rw [He.out]
      go_wp2
      refine bodyPost_ret (v := .tuple #[.agg #[.int .i64 0, .string (s.extract p s.size), .int .i64 0, .int .i64 p], .int .i64 0]) (by simp [results, Tryz.results188, go_sem]) rfl ⟨rfl, ?_⟩
      exact (((Below.refl _ w).alloc (Nat.le_refl _) _).alloc (by simp) _)

set_option maxRecDepth 100000 in
set_option maxHeartbeats 1000000 in
theorem next_other (s : ByteArray) (p : Nat) (w : World) (hT : Tab w) (h0 : kindAt s p = 0) (hl2 : s.size ≤ 16) (hl : p < s.size) :
    Calls Tryz.prog 188 #[.string s, .int .i64 p] w fun e w' => e = .returned (.tuple #[.agg #[.int .i64 0, .string ⟨#[]⟩, .int .i64 0, .int .i64 p], .int .i64 2]) ∧ Below w.heap.size w w' := by
  have HT := Lib.hid hT
  have H0 := Lib.hid h0
  clear hT h0
  go_enter Tryz.func188, Tryz.ntmps188
  go_wp2_with fail
  refine (kindAt_any s p _ (HT.out.below ((((Below.refl _ w).alloc (Nat.le_refl _) _).alloc (by simp) _)) HT.out.1)).mono ?_
  rintro e w' ⟨rfl, rfl⟩
  rw [H0.out]
  go_wp2
  refine bodyPost_ret (v := .tuple #[.agg #[.int .i64 0, .string ⟨#[]⟩, .int .i64 0, .int .i64 p], .int .i64 2]) (by simp [results, Tryz.results188, go_sem]) rfl ⟨rfl, ?_⟩
  exact (((Below.refl _ w).alloc (Nat.le_refl _) _).alloc (by simp) _)

end Go.Proofs.YthjfdfdgbpbanaaGreatDoor
