/- The walk of TaxSlope. -/
import Derived.Test.YtlgedljhheficaaGreatDoorA27
namespace Go.Proofs.YtlgedljhheficaaGreatDoor
open Go.RowKit

theorem TaxAt.v {w : World} {g : Nat} {nm : ByteArray} {A : Option Addr} {n c : Nat} {brs : List (Int × Int)} (h : TaxAt w g nm A n c brs) : TaxV w nm A n brs := ⟨h.row, h.len, h.small, h.name, h.tab⟩
theorem inB_of {x : Int} (h0 : 0 ≤ x) (h1 : x ≤ 1099511627776) : inB x = true := by simp [inB, h0, h1]
theorem dueR_in {nm : ByteArray} {brs : List (Int × Int)} (hv : validE nm brs = 0) {s : Int} (h0 : 0 ≤ s) (h1 : s ≤ 1099511627776) : dueR nm brs s = (due brs s, 0) := by
  rw [dueR, if_pos hv, if_pos (inB_of h0 h1)]
theorem moreR_in {nm : ByteArray} {brs : List (Int × Int)} (hv : validE nm brs = 0) {s m : Int} (h0 : 0 ≤ s) (m0 : 0 ≤ m) (h1 : s + m ≤ 1099511627776) : moreR nm brs s m = (due brs (s + m) - due brs s, 0) := by
  rw [moreR, if_pos hv, if_pos (inB_of h0 (by omega)), if_pos (inB_of m0 (by omega)), if_pos (inB_of (by omega) h1)]
theorem netR_in {nm : ByteArray} {brs : List (Int × Int)} (hv : validE nm brs = 0) {s : Int} (h0 : 0 ≤ s) (h1 : s ≤ 1099511627776) {r : Int × Int} (hr : NetR nm brs (s - due brs s) r) :
    ∃ m, r = (m, 0) ∧ s ≤ m ∧ m ≤ 1099511627776 ∧ m - due brs m = s - due brs s := by
  have hG := good_of_valid hv
  have hs := due_self hG h0
  rw [NetR, if_pos hv, if_pos (inB_of (by omega) (by omega))] at hr
  obtain ⟨r2, m0, m1, m2, m3⟩ := hr
  obtain ⟨m, z⟩ := r
  simp only at r2 m0 m1 m2 m3
  have hle : s ≤ m := by
    rcases Int.lt_or_le m s with h | h
    · have := due_le hG (show m + 1 ≤ s by omega)
      have := m3 (by omega)
      omega
    · exact h
  have := due_le hG hle
  exact ⟨m, by rw [r2], hle, m1, by omega⟩

set_option maxRecDepth 100000 in
set_option maxHeartbeats 1000000 in
theorem slope_any {w : World} {A : Option Addr} {n : Nat} (c : Nat) {zs : List Int} (x k : Int) (h : IntsV w A n zs) (hT : Tab w) (x0 : -9223372036854775808 ≤ x) (x1 : x ≤ 9223372036854775807) (k0 : -9223372036854775808 ≤ k) (k1 : k ≤ 9223372036854775807) :
    Calls Tryz.prog 5 #[.slice A n c, .int .i64 x, .int .i64 k] w fun e w' => e = .returned (.bool true) ∧ Below w.heap.size w w' := by
  have H := Lib.hid h
  have HT := Lib.hid hT
  clear h hT
  go_enter Tryz.func5, Tryz.ntmps5
  go_wp2_with fail
  (with_reducible refine (Tax_any c H.out).mono ?_)
  rintro e w1 ⟨v, rfl, hown, B1⟩
  obtain ⟨A', c', rfl, hrow⟩ := row_of_owns hown
  have hlen := taxOf_len zs
  have hv := taxOf_valid zs
  obtain ⟨s0, s1⟩ := sum_in zs x
  have hb0 : Below w1.heap.size w1 (w1.alloc (.cells #[.string sale, .slice A' (taxOf zs).length c'] 25)) := (Below.refl _ _).alloc (Nat.le_refl _) _
  have L1 : TaxAt (w1.alloc (.cells #[.string sale, .slice A' (taxOf zs).length c'] 25)) w1.heap.size sale A' (taxOf zs).length c' (taxOf zs) :=
    ⟨by simp, by simp, by simp, (hrow.below hb0).more hb0.size, rfl, by omega, plain_sale, (HT.out.below B1 HT.out.1).below hb0 (Nat.lt_of_lt_of_le HT.out.1 B1.size)⟩
  have B2 : Below w.heap.size w (w1.alloc (.cells #[.string sale, .slice A' (taxOf zs).length c'] 25)) := B1.alloc B1.size _
  have HL1 := Lib.hid L1
  have HB1 := Lib.hid B2
  have Hv := Lib.hid hv
  clear hown hrow hb0 L1 B2 hv H HT
  generalize hbrs : taxOf zs = brs at *
  clear hbrs
  obtain ⟨nb, hnb⟩ : ∃ nb, brs.length = nb := ⟨_, rfl⟩
  rw [hnb] at HL1 HB1 hlen ⊢
  have HN := Lib.hid hnb
  clear hnb
  go_wp2_with fail
  (with_reducible refine (Sum_any c' x HL1.out.row HL1.out.len x0 x1).mono ?_)
  rintro e w2 ⟨rfl, hb⟩
  have HL2 := Lib.hid (HL1.out.below hb)
  have HB2 := Lib.hid (HB1.out.trans (hb.mono HB1.out.size))
  clear hb HL1 HB1
  have a0 := HL2.out.c0
  have a1 := HL2.out.c1
  generalize w1.heap.size = g at *
  clear B1 w1
  have hs0 := due_self (good_of_valid Hv.out) s0
  have HD := Lib.hid (dueR_in Hv.out s0 s1)
  generalize sumOf brs x = s at *
  go_wp2_with fail
  (with_reducible refine (Due_any c' s HL2.out.v).mono ?_)
  rintro e w3 ⟨rfl, hb⟩
  rw [HD.out]
  clear HD
  clear a0 a1
  have HL3 := Lib.hid (HL2.out.below hb)
  have HB3 := Lib.hid (HB2.out.trans (hb.mono HB2.out.size))
  clear hb HL2 HB2
  have a0 := HL3.out.c0
  have a1 := HL3.out.c1
  go_wp2_with fail
  (with_reducible refine (Net_any c' (s - due brs s) HL3.out.v).mono ?_)
  rintro e w4 ⟨r, hr, rfl, hb⟩
  obtain ⟨m, rfl, hm, hm1, hm2⟩ := netR_in Hv.out s0 s1 hr
  clear hr a0 a1
  have HL4 := Lib.hid (HL3.out.below hb)
  have HB4 := Lib.hid (HB3.out.trans (hb.mono HB3.out.size))
  clear hb HL3 HB3
  have a0 := HL4.out.c0
  have a1 := HL4.out.c1
  have HD := Lib.hid (dueR_in Hv.out (s := m) (by omega) hm1)
  obtain ⟨own, hown⟩ : ∃ own, due brs m = own := ⟨_, rfl⟩
  rw [hown] at HD hm2
  clear hown
  have HS1 : Hid (0 < s → due brs (s - 1) ≤ due brs s ∧ due brs s ≤ due brs (s - 1) + 1) := fun h => by
    have := due_step (good_of_valid Hv.out) (s - 1)
    rw [show s - 1 + 1 = s by omega] at this
    exact this
  have HS2 : Hid (∀ f : Int, 0 ≤ f → f ≤ s → 0 ≤ due brs f ∧ due brs f ≤ due brs s) := fun f f0 f1 => by
    have := due_le (good_of_valid Hv.out) f1
    have := due_self (good_of_valid Hv.out) f0
    omega
  obtain ⟨d, hd⟩ : ∃ d, due brs s = d := ⟨_, rfl⟩
  rw [hd] at HS1 HS2 hs0 hm2 ⊢
  have Hd := Lib.hid hd
  clear hd
  go_wp2_with fail
  (with_reducible refine (Due_any c' m HL4.out.v).mono ?_)
  rintro e w5 ⟨rfl, hb⟩
  rw [HD.out]
  clear HD
  clear a0 a1
  have HL5 := Lib.hid (HL4.out.below hb)
  have HB5 := Lib.hid (HB4.out.trans (hb.mono HB4.out.size))
  clear hb HL4 HB4
  have a0 := HL5.out.c0
  have a1 := HL5.out.c1
  have har : ∀ (W : World), Calls Tryz.prog 24 #[.int .i64 k, .int .i64 (s + 1)] W fun e w' => e = .returned (.int .i64 (around k (s + 1))) ∧ W = w' := fun W => around_any k (s + 1) W k0 k1 (by omega) (by omega)
  have Har := Lib.hid har
  have f0 := around_lo k (s + 1) (by omega)
  have f1 := around_hi k (s + 1) (by omega)
  generalize around k (s + 1) = f at *
  clear har
  have hdf := HS2.out f f0 (by omega)
  have HDf := Lib.hid (dueR_in Hv.out (s := f) f0 (by omega))
  have HMf : Hid (moreR sale brs f (s - f) = (d - due brs f, 0)) := by
    have := moreR_in Hv.out (s := f) (m := s - f) f0 (by omega) (by omega)
    rw [show f + (s - f) = s by omega, Hd.out] at this
    exact this
  generalize due brs f = df at *
  by_cases hpos : 0 < s
  · have hl := HS1.out hpos
    have HD := Lib.hid (dueR_in Hv.out (s := s - 1) (by omega) (by omega))
    generalize due brs (s - 1) = dl at *
    clear HS1 HS2
    go_wp2_with fail
    (with_reducible refine (Due_any c' (s - 1) HL5.out.v).mono ?_)
    rintro e w6 ⟨rfl, hb⟩
    rw [HD.out]
    clear HD
    clear a0 a1
    have HL6 := Lib.hid (HL5.out.below hb)
    have HB6 := Lib.hid (HB5.out.trans (hb.mono HB5.out.size))
    clear hb HL5 HB5
    have a0 := HL6.out.c0
    have a1 := HL6.out.c1
    go_wp2_with fail
    (with_reducible refine (Har.out _).mono ?_)
    rintro e w' ⟨rfl, rfl⟩
    go_wp2_with fail
    (with_reducible refine (Due_any c' f HL6.out.v).mono ?_)
    rintro e w7 ⟨rfl, hb⟩
    rw [HDf.out]
    clear a0 a1
    have HL7 := Lib.hid (HL6.out.below hb)
    have HB7 := Lib.hid (HB6.out.trans (hb.mono HB6.out.size))
    clear hb HL6 HB6
    have a0 := HL7.out.c0
    have a1 := HL7.out.c1
    go_wp2_with fail
    (with_reducible refine (More_any c' f (s - f) HL7.out.v).mono ?_)
    rintro e w8 ⟨rfl, hb⟩
    rw [HMf.out]
    clear a0 a1
    have HL8 := Lib.hid (HL7.out.below hb)
    have HB8 := Lib.hid (HB7.out.trans (hb.mono HB7.out.size))
    clear hb HL7 HB7
    have a0 := HL8.out.c0
    have a1 := HL8.out.c1
    go_wp2_with fail
    (with_reducible refine (lives_any w8 HL8.out.tab).mono ?_)
    rintro e w9 ⟨rfl, hb⟩
    have HB9 := HB8.out.trans (hb.mono HB8.out.size)
    go_wp2
    go_ret
    exact ⟨rfl, HB9⟩
  · clear HS1 HS2
    go_wp2_with fail
    (with_reducible refine (Har.out _).mono ?_)
    rintro e w' ⟨rfl, rfl⟩
    go_wp2_with fail
    (with_reducible refine (Due_any c' f HL5.out.v).mono ?_)
    rintro e w7 ⟨rfl, hb⟩
    rw [HDf.out]
    clear a0 a1
    have HL6 := Lib.hid (HL5.out.below hb)
    have HB6 := Lib.hid (HB5.out.trans (hb.mono HB5.out.size))
    clear hb HL5 HB5
    have a0 := HL6.out.c0
    have a1 := HL6.out.c1
    go_wp2_with fail
    (with_reducible refine (More_any c' f (s - f) HL6.out.v).mono ?_)
    rintro e w8 ⟨rfl, hb⟩
    rw [HMf.out]
    clear a0 a1
    have HL7 := Lib.hid (HL6.out.below hb)
    have HB7 := Lib.hid (HB6.out.trans (hb.mono HB6.out.size))
    clear hb HL6 HB6
    have a0 := HL7.out.c0
    have a1 := HL7.out.c1
    go_wp2_with fail
    (with_reducible refine (lives_any w8 HL7.out.tab).mono ?_)
    rintro e w9 ⟨rfl, hb⟩
    have HB9 := HB7.out.trans (hb.mono HB7.out.size)
    go_wp2
    go_ret
    exact ⟨rfl, HB9⟩

end Go.Proofs.YtlgedljhheficaaGreatDoor
