/- Contracts of cmp.Compare, cmp.Or and the order of share.Split. -/
import Derived.Test.YtlgedljhheficaaGreatDoorA18
namespace Go.Proofs.YtlgedljhheficaaGreatDoor
open Go.RowKit

def cmpI (x y : Int) : Int := if x < y then -1 else if y < x then 1 else 0

set_option maxHeartbeats 400000 in
theorem cmp64_any (x y : Int) (w : World) : Calls Tryz.prog 72 #[.int .u64 x, .int .u64 y] w fun e w' => e = .returned (.int .i64 (cmpI x y)) ∧ w = w' := by
  by_cases h1 : x < y
  · have h2 : ¬ y < x := by omega
    go_enter Tryz.func72, Tryz.ntmps72
    go_wp2
    go_ret
    exact ⟨by simp [cmpI, h1], rfl⟩
  · by_cases h2 : y < x
    · go_enter Tryz.func72, Tryz.ntmps72
      go_wp2
      go_ret
      exact ⟨by simp [cmpI, h2]; omega, rfl⟩
    · go_enter Tryz.func72, Tryz.ntmps72
      go_wp2
      go_ret
      exact ⟨by simp [cmpI]; omega, rfl⟩

set_option maxHeartbeats 400000 in
theorem cmpInt_any (x y : Int) (w : World) : Calls Tryz.prog 73 #[.int .i64 x, .int .i64 y] w fun e w' => e = .returned (.int .i64 (cmpI x y)) ∧ w = w' := by
  by_cases h1 : x < y
  · have h2 : ¬ y < x := by omega
    go_enter Tryz.func73, Tryz.ntmps73
    go_wp2
    go_ret
    exact ⟨by simp [cmpI, h1], rfl⟩
  · by_cases h2 : y < x
    · go_enter Tryz.func73, Tryz.ntmps73
      go_wp2
      go_ret
      exact ⟨by simp [cmpI, h2]; omega, rfl⟩
    · go_enter Tryz.func73, Tryz.ntmps73
      go_wp2
      go_ret
      exact ⟨by simp [cmpI]; omega, rfl⟩

def orI (x y : Int) : Int := if x = 0 then y else x
set_option maxRecDepth 100000 in
set_option maxHeartbeats 400000 in
theorem or_any (g : Nat) (x y : Int) (w : World) (h0 : w.cell? ⟨g, 0, none⟩ = some (.int .i64 x)) (h1 : w.cell? ⟨g, 1, none⟩ = some (.int .i64 y)) :
    Calls Tryz.prog 71 #[.slice (some ⟨g, 0, none⟩) 2 2] w fun e w' => e = .returned (.int .i64 (orI x y)) ∧ w = w' := by
  by_cases hx : x = 0
  · subst hx
    by_cases hy : y = 0
    · subst hy
      go_enter Tryz.func71, Tryz.ntmps71
      go_wp2
      refine wp_loop_rounds 3 ?_
      rw [rounds_succ]
      go_wp2
      rw [rounds_succ]
      go_wp2
      rw [rounds_succ]
      go_wp2
      go_ret
      exact ⟨by simp [orI], rfl⟩
    · have hy2 : (y != 0) = true := by simpa using hy
      go_enter Tryz.func71, Tryz.ntmps71
      go_wp2
      refine wp_loop_rounds 3 ?_
      rw [rounds_succ]
      go_wp2
      rw [rounds_succ]
      go_wp2
      go_ret
      exact ⟨by simp [orI], rfl⟩
  · have hx2 : (x != 0) = true := by simpa using hx
    go_enter Tryz.func71, Tryz.ntmps71
    go_wp2
    refine wp_loop_rounds 3 ?_
    rw [rounds_succ]
    go_wp2
    go_ret
    exact ⟨by simp [orI, hx], rfl⟩

/-- The order of Split: by the greater remainder, then by the index. -/
def ordI (rs : List Int) (i j : Nat) : Int := orI (cmpI (rs[j]?.getD 0) (rs[i]?.getD 0)) (cmpI i j)

def u64s (rs : List Int) : List Value := rs.map (Value.int .u64)
theorem u64s_at (rs : List Int) (k : Nat) (hk : k < rs.length) : (u64s rs)[k]? = some (.int .u64 (rs[k]?.getD 0)) := by simp [u64s, hk]

set_option maxRecDepth 100000 in
set_option maxHeartbeats 1000000 in
theorem ord_any (bx gr : Nat) (n : Nat) (rs : List Int) (i j : Nat) (w : World) (hn : n = rs.length) (hi : i < n) (hj : j < n)
    (hc : w.cell? ⟨bx, 0, none⟩ = some (.slice (some ⟨gr, 0, none⟩) n n)) (hr : ∀ k u, (u64s rs)[k]? = some u → w.cell? ⟨gr, k, none⟩ = some u) :
    Calls Tryz.prog 70 #[.int .i64 i, .int .i64 j, .pointer (some ⟨bx, 0, none⟩)] w fun e w' => e = .returned (.int .i64 (ordI rs i j)) ∧ Below w.heap.size w w' := by
  have ci := hr i _ (u64s_at rs i (by omega))
  have cj := hr j _ (u64s_at rs j (by omega))
  have Ho : Hid (ordI rs i j = orI (cmpI (rs[j]?.getD 0) (rs[i]?.getD 0)) (cmpI i j)) := rfl
  generalize ordI rs i j = R at *
  generalize rs[i]?.getD 0 = ri at *
  generalize rs[j]?.getD 0 = rj at *
  clear hr hn
  have K1 := Lib.hid (cmp64_any rj ri)
  have K2 := Lib.hid (cmpInt_any i j)
  generalize cmpI rj ri = c1 at *
  generalize cmpI i j = c2 at *
  go_enter Tryz.func70, Tryz.ntmps70
  go_wp2_with fail
  go_region_with (first
    | (go_at_call 72; refine (K1.out _).mono ?_; rintro e w' ⟨rfl, rfl⟩)
    | (go_at_call 73; refine (K2.out _).mono ?_; rintro e w' ⟨rfl, rfl⟩)
    | (go_at_call 71; refine (or_any _ c1 c2 _ (by simp) (by simp)).mono ?_; rintro e w' ⟨rfl, rfl⟩))
  all_goals go_wp2
  all_goals go_ret
  all_goals exact ⟨by rw [Ho.out]; rfl, ((Below.refl _ w).alloc (Nat.le_refl _) _).drew⟩

end Go.Proofs.YtlgedljhheficaaGreatDoor
