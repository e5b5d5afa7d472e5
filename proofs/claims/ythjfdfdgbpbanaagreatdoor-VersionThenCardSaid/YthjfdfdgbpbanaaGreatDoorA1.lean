/- Contracts of Around and Pick: what they return; the world is left alone. -/
import Derived.Test.YthjfdfdgbpbanaaGreatDoorProg
import Derived.WalkKit
import Derived.WalkSpells
import Derived.WalkLawsBesides
import Derived.Lib.Hide
namespace Go.Proofs.YthjfdfdgbpbanaaGreatDoor
open Go.RowKit

/-- The cells xs lie at the address A, below block B. -/
def Row (w : World) (B : Nat) (A : Option Addr) (xs : List Value) : Prop :=
  xs = [] ∨ ∃ b off, A = some ⟨b, off, none⟩ ∧ b < B ∧ ∀ j u, xs[j]? = some u → w.cell? ⟨b, off + j, none⟩ = some u

theorem Row.keep {w w' : World} {B : Nat} {A : Option Addr} {xs : List Value} (h : Row w B A xs) (hk : ∀ p : Addr, p.block < B → w'.cell? p = w.cell? p) : Row w' B A xs := by
  rcases h with rfl | ⟨b, off, rfl, hb, hc⟩
  · exact .inl rfl
  · exact .inr ⟨b, off, rfl, hb, fun j u hu => (hk _ hb).trans (hc j u hu)⟩
theorem Row.below {w w' : World} {B : Nat} {A : Option Addr} {xs : List Value} (h : Row w B A xs) (hb : Below B w w') : Row w' B A xs := h.keep fun _ hp => hb.cell hp
theorem Row.more {w : World} {B B' : Nat} {A : Option Addr} {xs : List Value} (h : Row w B A xs) (hB : B ≤ B') : Row w B' A xs := by
  rcases h with rfl | ⟨b, off, rfl, hb, hc⟩
  · exact .inl rfl
  · exact .inr ⟨b, off, rfl, by omega, hc⟩
theorem Row.at_ {w : World} {B : Nat} {A : Option Addr} {xs : List Value} (h : Row w B A xs) (k : Nat) (hk : k < xs.length) :
    ∃ b off, A = some ⟨b, off, none⟩ ∧ b < B ∧ ∀ j u, xs[j]? = some u → w.cell? ⟨b, off + j, none⟩ = some u := by
  rcases h with rfl | h
  · simp at hk
  · exact h

def ints (zs : List Int) : List Value := zs.map (Value.int .i64)
theorem ints_at (zs : List Int) (k : Nat) (hk : k < zs.length) : (ints zs)[k]? = some (.int .i64 (zs[k]?.getD 0)) := by
  simp [ints, hk]
@[simp] theorem ints_length (zs : List Int) : (ints zs).length = zs.length := by simp [ints]
def Wf (zs : List Int) : Prop := ∀ z ∈ zs, -9223372036854775808 ≤ z ∧ z ≤ 9223372036854775807
theorem Wf.at_ {zs : List Int} (h : Wf zs) (k : Nat) : -9223372036854775808 ≤ zs[k]?.getD 0 ∧ zs[k]?.getD 0 ≤ 9223372036854775807 := by
  by_cases hk : k < zs.length
  · simpa [hk] using h _ (List.getElem_mem hk)
  · simp [List.getElem?_eq_none (Nat.le_of_not_lt hk)]

/-- Around(n, m). -/
def around (n m : Int) : Int := (if n < 0 then -(n + 1) else n) % m
theorem around_neg (n m : Int) (hn : n < 0) : -(n + 1).tmod m = around n m := by
  rw [← Int.neg_tmod, Int.tmod_eq_emod_of_nonneg (by omega), around, if_pos hn]
theorem around_pos (n m : Int) (hn : ¬ n < 0) : n % m = around n m := by rw [around, if_neg hn]
theorem around_lo (n m : Int) (hm : 1 ≤ m) : 0 ≤ around n m := Int.emod_nonneg _ (by omega)
theorem around_hi (n m : Int) (hm : 1 ≤ m) : around n m < m := Int.emod_lt_of_pos _ (by omega)

set_option maxHeartbeats 400000 in
theorem around_any (n m : Int) (w : World) (h0 : -9223372036854775808 ≤ n) (h1 : n ≤ 9223372036854775807) (hm : 1 ≤ m) (hm2 : m ≤ 9223372036854775807) :
    Calls Tryz.prog 21 #[.int .i64 n, .int .i64 m] w fun e w' => e = .returned (.int .i64 (around n m)) ∧ w = w' := by
  by_cases hn : n < 0
  · go_enter Tryz.func21, Tryz.ntmps21
    go_wp2
    go_ret
    exact ⟨by rw [← around_neg n m hn]; rfl, rfl⟩
  · go_enter Tryz.func21, Tryz.ntmps21
    go_wp2
    go_ret
    exact ⟨by rw [← around_pos n m (by omega)]; rfl, rfl⟩

/-- Pick(l, i, m). -/
def pick (zs : List Int) (i m : Int) : Int := if i < 0 ∨ (zs.length : Int) ≤ i then 0 else around (zs[i.toNat]?.getD 0) m
theorem pick_lo (zs : List Int) (i m : Int) (hm : 1 ≤ m) : 0 ≤ pick zs i m := by
  unfold pick; split
  · omega
  · exact around_lo _ _ hm
theorem pick_hi (zs : List Int) (i m : Int) (hm : 1 ≤ m) : pick zs i m < m := by
  unfold pick; split
  · omega
  · exact around_hi _ _ hm

set_option maxHeartbeats 400000 in
theorem pick_any (A : Option Addr) (n c : Nat) (zs : List Int) (B : Nat) (i m : Int) (w : World) (hr : Row w B A (ints zs)) (hn : n = zs.length) (hw : Wf zs)
    (h0 : -9223372036854775808 ≤ i) (h1 : i ≤ 9223372036854775807) (hm : 1 ≤ m) (hm2 : m ≤ 9223372036854775807) :
    Calls Tryz.prog 35 #[.slice A n c, .int .i64 i, .int .i64 m] w fun e w' => e = .returned (.int .i64 (pick zs i m)) ∧ w = w' := by
  by_cases hi : i < 0
  · go_enter Tryz.func35, Tryz.ntmps35
    go_wp2
    go_ret
    exact ⟨by simp [pick, hi], rfl⟩
  · by_cases hi2 : (n : Int) ≤ i
    · have hp : pick zs i m = 0 := by unfold pick; rw [if_pos (.inr (by omega))]
      have Hp := Lib.hid hp
      clear hp hn
      go_enter Tryz.func35, Tryz.ntmps35
      go_wp2
      go_ret
      exact ⟨by rw [Hp.out]; rfl, rfl⟩
    · obtain ⟨k, rfl⟩ := Int.eq_ofNat_of_zero_le (show 0 ≤ i by omega)
      have hk : k < zs.length := by omega
      have hp : pick zs k m = around (zs[k]?.getD 0) m := by
        unfold pick; rw [if_neg (by omega)]; simp
      have Hp := Lib.hid hp
      obtain ⟨b, off, rfl, hb, hc⟩ := hr.at_ k (by simpa using hk)
      have hcell := hc k _ (ints_at zs k hk)
      have hz := hw.at_ k
      have hk2 : k < n := by omega
      clear hp hn hc hk
      generalize zs[k]?.getD 0 = z at hcell hz Hp
      go_enter Tryz.func35, Tryz.ntmps35
      go_wp2_with fail
      refine (around_any _ _ _ (by omega) (by omega) hm hm2).mono ?_
      rintro e w' ⟨rfl, rfl⟩
      go_wp2
      go_ret
      exact ⟨by rw [Hp.out]; rfl, rfl⟩

end Go.Proofs.YthjfdfdgbpbanaaGreatDoor
