/- The contract of SameInts. -/
import Derived.Test.YthjfdfdgbpbanaaGreatDoorA1
import Derived.Lib.Hide
import Derived.BigQuiet
namespace Go.Proofs.YthjfdfdgbpbanaaGreatDoor
open Go.RowKit


theorem bel_drewN {B : Nat} {a w : World} (h : Below B a w) (n : Nat) : Below B a (w.drewN n) := ⟨h.os, h.tape, h.output, h.size, h.block⟩
def sameB (xs ys : List Int) : Bool := decide (xs = ys)

theorem take_same {xs ys : List Int} {k : Nat} (hk : k < xs.length) (hl : xs.length = ys.length) (h : xs.take k = ys.take k) (he : xs[k]?.getD 0 = ys[k]?.getD 0) : xs.take (k + 1) = ys.take (k + 1) := by
  have hk2 : k < ys.length := by omega
  rw [List.take_succ_eq_append_getElem hk, List.take_succ_eq_append_getElem hk2, h]
  have : xs[k] = ys[k] := by simpa [hk, hk2] using he
  rw [this]

set_option maxRecDepth 100000 in
set_option maxHeartbeats 1000000 in
theorem same_any {w : World} {A A' : Option Addr} {n m c c' B B' : Nat} {xs ys : List Int} (hx : Row w B A (ints xs)) (hy : Row w B' A' (ints ys)) (hn : n = xs.length) (hm : m = ys.length) (hs : n ≤ 140737488351232) :
    Calls Tryz.prog 29 #[.slice A n c, .slice A' m c'] w fun e w' => e = .returned (.bool (sameB xs ys)) ∧ Below w.heap.size w w' := by
  have Hn := Lib.hid hn
  have Hm := Lib.hid hm
  by_cases hnm : n = m
  · have hl : xs.length = ys.length := by omega
    have Hl := Lib.hid hl
    have e1 : ((n : Int) != (m : Int)) = false := by simp; omega
    obtain rfl : m = n := hnm.symm
    clear hn hm hl
    go_enter Tryz.func29, Tryz.ntmps29
    go_wp2
    go_loopw [5] (fun i wr => ∃ k : Nat, k ≤ m ∧ i = .int .i64 k ∧ xs.take k = ys.take k ∧ Below w.heap.size w wr ∧ (∀ p, wr.cell? p = w.cell? p)) (fun i _ => m - (intOf i).toNat)
    case atStart => exact ⟨0, Nat.zero_le _, rfl, by simp, Below.refl _ _, fun _ => rfl⟩
    case round =>
      obtain ⟨k, hk, rfl, hT, hb, hc⟩ := hrel
      have HT := Lib.hid hT
      have Hc := Lib.hid hc
      clear hT hc
      by_cases hlt : k < m
      · obtain ⟨b, off, rfl, hbb, cx⟩ := hx.at_ k (by rw [ints_length]; have := Hn.out; omega)
        obtain ⟨b', off', rfl, hbb', cy⟩ := hy.at_ k (by rw [ints_length]; have := Hm.out; omega)
        have x1 := (Hc.out ⟨b, off + k, none⟩).trans (cx k _ (ints_at xs k (by have := Hn.out; omega)))
        have y1 := (Hc.out ⟨b', off' + k, none⟩).trans (cy k _ (ints_at ys k (by have := Hm.out; omega)))
        have Hs : Hid (xs[k]?.getD 0 = ys[k]?.getD 0 → xs.take (k + 1) = ys.take (k + 1)) := fun h => take_same (by have := Hn.out; omega) Hl.out HT.out h
        have Hno : Hid (xs[k]?.getD 0 ≠ ys[k]?.getD 0 → sameB xs ys = false) := fun h => by
          simp only [sameB, decide_eq_false_iff_not]
          intro he
          exact h (by rw [he])
        have hk0 : (0 : Int) ≤ (k : Int) := by omega
        have hkm : (k : Int) < (m : Int) := by omega
        clear cx cy
        generalize xs[k]?.getD 0 = x at *
        generalize ys[k]?.getD 0 = y at *
        by_cases hxy : x = y
        · subst hxy
          have e2 : (x != x) = false := by simp
          have HT1 := Lib.hid (Hs.out rfl)
          clear Hs Hno
          go_wp2
          go_quiet (fail)
          go_wp2
          go_roundw
          case rel => exact ⟨k + 1, by omega, by go_num, HT1.out, bel_drewN hb _, Hc.out⟩
          case measure => simp [intOf]; omega
        · have e2 : (x != y) = true := by simpa using hxy
          have HF := Lib.hid (Hno.out hxy)
          clear hxy
          go_wp2
          go_quiet (fail)
          go_wp2
          go_ret
          exact ⟨by rw [HF.out]; rfl, bel_drewN hb _⟩
      · obtain rfl : k = m := by omega
        have Ht : Hid (sameB xs ys = true) := by
          show sameB xs ys = true
          have h := HT.out
          rw [List.take_of_length_le (by have := Hn.out; omega), List.take_of_length_le (by have := Hm.out; omega)] at h
          simp [sameB, h]
        go_wp2
        go_ret
        exact ⟨by rw [Ht.out]; rfl, hb⟩
  · have e1 : ((n : Int) != (m : Int)) = true := by simp; omega
    have Hf : Hid (sameB xs ys = false) := by
      show sameB xs ys = false
      simp only [sameB, decide_eq_false_iff_not]
      intro he
      exact hnm (by rw [hn, hm, he])
    clear hn hm hnm
    go_enter Tryz.func29, Tryz.ntmps29
    go_wp2
    go_ret
    exact ⟨by rw [Hf.out]; rfl, Below.refl _ _⟩

end Go.Proofs.YthjfdfdgbpbanaaGreatDoor
