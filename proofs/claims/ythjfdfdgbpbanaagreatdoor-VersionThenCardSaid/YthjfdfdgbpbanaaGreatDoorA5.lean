/- The contract of Held: numbers of units made from numbers. -/
import Derived.Test.YthjfdfdgbpbanaaGreatDoorA4
namespace Go.Proofs.YthjfdfdgbpbanaaGreatDoor
open Go.RowKit

/-- The numbers that came in: a slice of ints. -/
structure IntsV (w : World) (A : Option Addr) (n : Nat) (zs : List Int) : Prop where
  row : Row w w.heap.size A (ints zs)
  len : n = zs.length
  wf : Wf zs
theorem IntsV.below {w w' : World} {A : Option Addr} {n : Nat} {zs : List Int} (h : IntsV w A n zs) (hb : Below w.heap.size w w') : IntsV w' A n zs := ⟨(h.row.below hb).more hb.size, h.len, h.wf⟩
theorem IntsV.pick {w : World} {A : Option Addr} {n : Nat} (c : Nat) {zs : List Int} (h : IntsV w A n zs) (i m : Int) (h0 : -9223372036854775808 ≤ i) (h1 : i ≤ 9223372036854775807) (hm : 1 ≤ m) (hm2 : m ≤ 9223372036854775807) :
    Calls Tryz.prog 35 #[.slice A n c, .int .i64 i, .int .i64 m] w fun e w' => e = .returned (.int .i64 (pick zs i m)) ∧ w = w' := pick_any A n c zs _ i m w h.row h.len h.wf h0 h1 hm hm2

def heldOf (n : Int) : Int := if n % 61 = 0 then 1099511627776 - n / 61 % 9 else if n % 4 = 0 then 0 else n / 4 % 50
def heldAt (zs : List Int) (a i : Nat) : Int := heldOf (pick zs ((a : Int) + (i : Int)) 1048576)
def heldL (zs : List Int) (a k : Nat) : List Int := (List.range k).map (heldAt zs a)
theorem heldL_succ (zs : List Int) (a k : Nat) : heldL zs a (k + 1) = heldL zs a k ++ [heldAt zs a k] := by simp [heldL, List.range_succ]
@[simp] theorem heldL_length (zs : List Int) (a k : Nat) : (heldL zs a k).length = k := by simp [heldL]
theorem heldOf_bd (n : Int) : 0 ≤ heldOf n ∧ heldOf n ≤ 1099511627776 := by
  unfold heldOf
  repeat' split
  all_goals omega
theorem heldL_at (zs : List Int) (a k i : Nat) (h : i < k) : wAt (heldL zs a k) i = heldAt zs a i := by simp [wAt, heldL, h]
theorem heldL_units (zs : List Int) (a k : Nat) : unitsB (heldL zs a k) = true := by
  simp only [unitsB, decide_eq_true_eq, heldL_length]
  intro i hi
  rw [heldL_at _ _ _ _ hi]
  exact heldOf_bd _
theorem ints_snoc (l : List Int) (x : Int) : ints (l ++ [x]) = ints l ++ [.int .i64 x] := by simp [ints]
theorem new1 (w : World) (t : TypeId) (a : Value) : ∀ j u, ([a] : List Value)[j]? = some u → (w.alloc (.cells #[a] t)).cell? ((⟨w.heap.size, 0, none⟩ : Addr).add j) = some u := by
  intro j u hj
  match j, hj with
  | 0, hj => simp at hj; subst hj; simp [Addr.add]
  | j + 1, hj => simp at hj
theorem one1 (x : Int) : ∀ u ∈ ([.int .i64 x] : List Value), u.oneCell' = true := by
  intro u hu
  simp only [List.mem_cons, List.not_mem_nil, or_false] at hu
  subst hu; rfl

set_option maxRecDepth 100000 in
set_option maxHeartbeats 1000000 in
theorem held_any {w : World} {A : Option Addr} {n : Nat} (c K a : Nat) {zs : List Int} (h : IntsV w A n zs) (hK : K ≤ 1000) (ha : a ≤ 1000) :
    Calls Tryz.prog 23 #[.int .i64 K, .slice A n c, .int .i64 a] w (RowPost w 3 1 K (ints (heldL zs a K))) := by
  obtain ⟨i0, hi, hz0, hz1, hz2⟩ := info_parts info3
  have H := Lib.hid h
  clear h
  go_enter Tryz.func23, Tryz.ntmps23
  go_wp2_with fail
  go_loopw [7, 8] (fun v i wr => ∃ k : Nat, k ≤ K ∧ i = .int .i64 k ∧ wr.ownsRow w.heap.size 3 1 v k (ints (heldL zs a k)) ∧ Below w.heap.size w wr) (fun _ i _ => K - (intOf i).toNat)
  case atStart => exact ⟨0, Nat.zero_le _, rfl, World.ownsRow_nil _ _ _ _, Below.refl _ _⟩
  case round =>
    obtain ⟨k, hk, rfl, hown, hb⟩ := hrel
    have HO := Lib.hid hown
    have hsz := hb.size
    clear hown
    by_cases hlt : k < K
    · have HP := Lib.hid ((H.out.below hb).pick c ((a : Int) + (k : Int)) 1048576 (by omega) (by omega) (by omega) (by omega))
      have p0 := pick_lo zs ((a : Int) + (k : Int)) 1048576 (by omega)
      have p1 := pick_hi zs ((a : Int) + (k : Int)) 1048576 (by omega)
      have HS := Lib.hid (heldL_succ zs a k)
      have HA : Hid (heldAt zs a k = heldOf (pick zs ((a : Int) + (k : Int)) 1048576)) := rfl
      generalize pick zs ((a : Int) + (k : Int)) 1048576 = p at *
      by_cases h61 : p % 61 = 0
      · have q1 : (p % 61 == 0) = true := by simpa using h61
        have hx : heldAt zs a k = 1099511627776 - p / 61 % 9 := by rw [HA.out, heldOf, if_pos h61]
        rw [hx] at HS
        clear hx HA h61
        by_cases h4 : p % 4 = 0
        · have q2 : (p % 4 == 0) = true := by simpa using h4
          go_wp2_with fail
          refine HP.out.mono ?_
          rintro e w' ⟨rfl, rfl⟩
          go_wp2_with (at_builtin; refine wpList_append_own_at _ rfl _ _ 22 rfl w.heap.size 3 i0 (.int .i64 0) 1 8 Tryz.underlying22 hi hz0 hz1 hz2 rfl (by decide) _ k (ints (heldL zs a k)) rfl (HO.out.alloc _) ⟨wr.heap.size, 0, none⟩ 1 1 [.int .i64 (1099511627776 - p / 61 % 9)] rfl rfl (new1 _ _ _) (one1 _) (by unfold maxLen; omega) (by omega) (by simp; omega) ?_)
          intro v' w1 hown' hgrow _ _
          have hb1 : Below w.heap.size w w1 := (hb.alloc hsz _).grown hgrow (by simp; omega) (row_base HO.out)
          have HO1 := Lib.hid hown'
          clear hown' hgrow
          go_wp2
          go_roundw
          case rel => exact ⟨k + 1, by omega, by go_num, by rw [HS.out, ints_snoc]; exact HO1.out, hb1⟩
          case measure => simp [intOf]; omega
        · have q2 : (p % 4 == 0) = false := by simpa using h4
          go_wp2_with fail
          refine HP.out.mono ?_
          rintro e w' ⟨rfl, rfl⟩
          go_wp2_with (at_builtin; refine wpList_append_own_at _ rfl _ _ 22 rfl w.heap.size 3 i0 (.int .i64 0) 1 8 Tryz.underlying22 hi hz0 hz1 hz2 rfl (by decide) _ k (ints (heldL zs a k)) rfl (HO.out.alloc _) ⟨wr.heap.size, 0, none⟩ 1 1 [.int .i64 (1099511627776 - p / 61 % 9)] rfl rfl (new1 _ _ _) (one1 _) (by unfold maxLen; omega) (by omega) (by simp; omega) ?_)
          intro v' w1 hown' hgrow _ _
          have hb1 : Below w.heap.size w w1 := (hb.alloc hsz _).grown hgrow (by simp; omega) (row_base HO.out)
          have HO1 := Lib.hid hown'
          clear hown' hgrow
          go_wp2
          go_roundw
          case rel => exact ⟨k + 1, by omega, by go_num, by rw [HS.out, ints_snoc]; exact HO1.out, hb1⟩
          case measure => simp [intOf]; omega
      · have q1 : (p % 61 == 0) = false := by simpa using h61
        by_cases h4 : p % 4 = 0
        · have q2 : (p % 4 == 0) = true := by simpa using h4
          have hx : heldAt zs a k = 0 := by rw [HA.out, heldOf, if_neg h61, if_pos h4]
          rw [hx] at HS
          clear hx HA h61
          go_wp2_with fail
          refine HP.out.mono ?_
          rintro e w' ⟨rfl, rfl⟩
          go_wp2_with (at_builtin; refine wpList_append_own_at _ rfl _ _ 22 rfl w.heap.size 3 i0 (.int .i64 0) 1 8 Tryz.underlying22 hi hz0 hz1 hz2 rfl (by decide) _ k (ints (heldL zs a k)) rfl (HO.out.alloc _) ⟨wr.heap.size, 0, none⟩ 1 1 [.int .i64 0] rfl rfl (new1 _ _ _) (one1 _) (by unfold maxLen; omega) (by omega) (by simp; omega) ?_)
          intro v' w1 hown' hgrow _ _
          have hb1 : Below w.heap.size w w1 := (hb.alloc hsz _).grown hgrow (by simp; omega) (row_base HO.out)
          have HO1 := Lib.hid hown'
          clear hown' hgrow
          go_wp2
          go_roundw
          case rel => exact ⟨k + 1, by omega, by go_num, by rw [HS.out, ints_snoc]; exact HO1.out, hb1⟩
          case measure => simp [intOf]; omega
        · have q2 : (p % 4 == 0) = false := by simpa using h4
          have hx : heldAt zs a k = p / 4 % 50 := by rw [HA.out, heldOf, if_neg h61, if_neg h4]
          rw [hx] at HS
          clear hx HA h61
          go_wp2_with fail
          refine HP.out.mono ?_
          rintro e w' ⟨rfl, rfl⟩
          go_wp2_with (at_builtin; refine wpList_append_own_at _ rfl _ _ 22 rfl w.heap.size 3 i0 (.int .i64 0) 1 8 Tryz.underlying22 hi hz0 hz1 hz2 rfl (by decide) _ k (ints (heldL zs a k)) rfl (HO.out.alloc _) ⟨wr.heap.size, 0, none⟩ 1 1 [.int .i64 (p / 4 % 50)] rfl rfl (new1 _ _ _) (one1 _) (by unfold maxLen; omega) (by omega) (by simp; omega) ?_)
          intro v' w1 hown' hgrow _ _
          have hb1 : Below w.heap.size w w1 := (hb.alloc hsz _).grown hgrow (by simp; omega) (row_base HO.out)
          have HO1 := Lib.hid hown'
          clear hown' hgrow
          go_wp2
          go_roundw
          case rel => exact ⟨k + 1, by omega, by go_num, by rw [HS.out, ints_snoc]; exact HO1.out, hb1⟩
          case measure => simp [intOf]; omega
    · obtain rfl : k = K := by omega
      go_wp2
      go_ret
      exact ⟨_, rfl, HO.out, hb⟩

end Go.Proofs.YthjfdfdgbpbanaaGreatDoor
