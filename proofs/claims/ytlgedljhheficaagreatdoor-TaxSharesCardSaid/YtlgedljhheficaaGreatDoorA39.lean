/- Contracts of the reference lexer's class, skip and end on words of letters. -/
import Derived.Test.YtlgedljhheficaaGreatDoorA3
namespace Go.Proofs.YtlgedljhheficaaGreatDoor
open Go.RowKit

/-- A text of small letters. -/
def Letters (s : ByteArray) : Prop := ∀ i (h : i < s.size), 97 ≤ s[i].toNat ∧ s[i].toNat ≤ 122

set_option maxRecDepth 100000 in
set_option maxHeartbeats 1000000 in
theorem class_letter (v : Nat) (w : World) (h0 : 97 ≤ v) (h1 : v ≤ 122) :
    Calls Tryz.prog 132 #[.int .u8 v] w fun e w' => e = .returned (.int .i64 1) ∧ w = w' := by
  go_enter Tryz.func132, Tryz.ntmps132
  go_wp2
  go_ret
  exact ⟨rfl, rfl⟩

set_option maxRecDepth 100000 in
set_option maxHeartbeats 1000000 in
theorem class_B (w : World) :
    Calls Tryz.prog 132 #[.int .u8 66] w fun e w' => e = .returned (.int .i64 7) ∧ w = w' := by
  go_enter Tryz.func132, Tryz.ntmps132
  go_wp2
  go_ret
  exact ⟨rfl, rfl⟩

set_option maxRecDepth 100000 in
set_option maxHeartbeats 1000000 in
theorem rskip_letter (s : ByteArray) (p : Nat) (w : World) (hs : Letters s) :
    Calls Tryz.prog 130 #[.string s, .int .i64 p] w fun e w' => e = .returned (.int .i64 p) ∧ w = w' := by
  by_cases hlt : p < s.size
  · obtain ⟨a, b⟩ := hs p hlt
    go_enter Tryz.func130, Tryz.ntmps130
    go_wp2
    refine wp_loop_rounds 1 ?_
    rw [rounds_succ]
    go_wp2_with fail
    refine (class_letter _ _ a b).mono ?_
    rintro e w' ⟨rfl, rfl⟩
    go_wp2
    go_ret
    exact ⟨rfl, rfl⟩
  · go_enter Tryz.func130, Tryz.ntmps130
    go_wp2
    refine wp_loop_rounds 1 ?_
    rw [rounds_succ]
    go_wp2
    go_ret
    exact ⟨rfl, rfl⟩

set_option maxRecDepth 100000 in
set_option maxHeartbeats 1000000 in
theorem rend_letter (s : ByteArray) (w : World) (hs : Letters s) (hp : 0 < s.size) (hl : s.size ≤ 16) :
    Calls Tryz.prog 131 #[.string s, .int .i64 0] w fun e w' => e = .returned (.int .i64 s.size) ∧ w = w' := by
  obtain ⟨a, b⟩ := hs 0 hp
  have Hs := Lib.hid hs
  clear hs
  go_enter Tryz.func131, Tryz.ntmps131
  go_wp2_with fail
  refine (class_letter _ _ a b).mono ?_
  rintro e w' ⟨rfl, rfl⟩
  clear a b
  go_wp2_with fail
  go_loop [5] (fun e => ∃ j : Nat, 1 ≤ j ∧ j ≤ s.size ∧ e = .int .i64 j) (fun e => s.size - (intOf e).toNat)
  case atStart => exact ⟨1, Nat.le_refl _, hp, rfl⟩
  case round =>
    obtain ⟨j, hj1, hj2, rfl⟩ := hrel
    by_cases hlt : j < s.size
    · obtain ⟨a, b⟩ := Hs.out j hlt
      go_wp2_with fail
      refine (class_letter _ _ a b).mono ?_
      rintro e w' ⟨rfl, rfl⟩
      go_wp2_with fail
      refine (class_letter _ _ a b).mono ?_
      rintro e w' ⟨rfl, rfl⟩
      go_wp2
      go_round
      case rel => exact ⟨j + 1, by omega, by omega, by go_num⟩
      case measure => simp [intOf]; omega
    · obtain rfl : j = s.size := by omega
      go_wp2
      go_ret
      exact ⟨rfl, rfl⟩

def bigName : ByteArray := ⟨#[66, 105, 103]⟩
set_option maxRecDepth 100000 in
set_option maxHeartbeats 1000000 in
theorem rskip_big (w : World) : Calls Tryz.prog 130 #[.string bigName, .int .i64 0] w fun e w' => e = .returned (.int .i64 0) ∧ w = w' := by
  unfold bigName
  go_enter Tryz.func130, Tryz.ntmps130
  go_wp2
  refine wp_loop_rounds 1 ?_
  rw [rounds_succ]
  go_wp2_with fail
  refine (class_B _).mono ?_
  rintro e w' ⟨rfl, rfl⟩
  go_wp2
  go_ret
  exact ⟨rfl, rfl⟩
set_option maxRecDepth 100000 in
set_option maxHeartbeats 1000000 in
theorem rend_big (w : World) : Calls Tryz.prog 131 #[.string bigName, .int .i64 0] w fun e w' => e = .returned (.int .i64 0) ∧ w = w' := by
  unfold bigName
  go_enter Tryz.func131, Tryz.ntmps131
  go_wp2_with fail
  refine (class_B _).mono ?_
  rintro e w' ⟨rfl, rfl⟩
  go_wp2
  go_ret
  exact ⟨rfl, rfl⟩
set_option maxRecDepth 100000 in
set_option maxHeartbeats 1000000 in
theorem rtokens_big (w : World) : Calls Tryz.prog 117 #[.string bigName] w fun e w' => e = .returned (.tuple #[.slice none 0 0, .int .i64 0, .int .i64 2]) ∧ w = w' := by
  have hb : bigName.size = 3 := rfl
  have K1 := Lib.hid (rskip_big w)
  have K2 := Lib.hid (rend_big w)
  generalize bigName = s at *
  go_enter Tryz.func117, Tryz.ntmps117
  go_wp2_with fail
  refine K1.out.mono ?_
  rintro e w' ⟨rfl, rfl⟩
  go_wp2
  refine wp_loop_rounds 1 ?_
  rw [rounds_succ]
  go_wp2_with fail
  refine K2.out.mono ?_
  rintro e w' ⟨rfl, rfl⟩
  go_wp2
  exact bodyPost_ret (v := .tuple #[.slice none 0 0, .int .i64 0, .int .i64 2]) (by simp [results, Tryz.results117, go_sem]) rfl ⟨rfl, rfl⟩
set_option maxRecDepth 100000 in
set_option maxHeartbeats 1000000 in
theorem rtokens_empty (w : World) : Calls Tryz.prog 117 #[.string ⟨#[]⟩] w fun e w' => e = .returned (.tuple #[.slice none 0 0, .int .i64 0, .int .i64 0]) ∧ w = w' := by
  have K1 := Lib.hid (rskip_letter ⟨#[]⟩ 0 w (fun i h => by simp [ByteArray.size] at h))
  go_enter Tryz.func117, Tryz.ntmps117
  go_wp2_with fail
  refine K1.out.mono ?_
  rintro e w' ⟨rfl, rfl⟩
  go_wp2
  refine wp_loop_rounds 1 ?_
  rw [rounds_succ]
  go_wp2
  exact bodyPost_ret (v := .tuple #[.slice none 0 0, .int .i64 0, .int .i64 0]) (by simp [results, Tryz.results117, go_sem]) rfl ⟨rfl, rfl⟩

end Go.Proofs.YtlgedljhheficaaGreatDoor
