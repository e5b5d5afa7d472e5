/- Contracts of the reference's check, Due, More and Net. -/
import Derived.Test.YtlgedljhheficaaGreatDoorA17
import Derived.Test.YtlgedljhheficaaGreatDoorA43
import Derived.Test.YtlgedljhheficaaGreatDoorA44
namespace Go.Proofs.YtlgedljhheficaaGreatDoor
open Go.RowKit

/-- The error of a tax and a sum. -/
def checkE (nm : ByteArray) (brs : List (Int × Int)) (sum : Int) : Int := if validE nm brs = 0 then (if inB sum = true then 0 else 5) else validE nm brs

set_option maxRecDepth 100000 in
set_option maxHeartbeats 1000000 in
theorem check_any {w : World} {nm : ByteArray} {A : Option Addr} {n : Nat} (c : Nat) {brs : List (Int × Int)} (sum : Int) (h : TaxV w nm A n brs) (hnm : Nm nm) :
    Calls Tryz.prog 39 #[.agg #[.string nm, .slice A n c], .int .i64 sum] w fun e w' => e = .returned (.int .i64 (checkE nm brs sum)) ∧ Below w.heap.size w w' := by
  have hb0 : Below w.heap.size w (w.alloc (.cells #[.string nm, .slice A n c] 25)) := (Below.refl _ _).alloc (Nat.le_refl _) _
  have Hd : Hid (checkE nm brs sum = if validE nm brs = 0 then (if inB sum = true then 0 else 5) else validE nm brs) := rfl
  generalize checkE nm brs sum = D at *
  have H := Lib.hid h
  have HN := Lib.hid hnm
  clear h hnm
  go_enter Tryz.func39, Tryz.ntmps39
  go_wp2_with fail
  refine (rvalid_tax c (H.out.below hb0) HN.out).mono ?_
  rintro e w1 ⟨rfl, hb1⟩
  have G1 : Below w.heap.size w w1 := hb0.trans (hb1.mono (by simp))
  clear hb1 hb0 H HN
  rcases validE_cases nm brs with hv | hv
  · rw [hv]
    rw [if_pos hv] at Hd
    clear hv
    by_cases s0 : 0 ≤ sum
    · by_cases s1 : sum ≤ 1099511627776
      · rw [show inB sum = true by simp [inB, s0, s1]] at Hd
        go_wp2
        go_ret
        exact ⟨by rw [Hd.out]; rfl, G1⟩
      · rw [show inB sum = false by simp [inB, s1]] at Hd
        go_wp2
        go_ret
        exact ⟨by rw [Hd.out]; rfl, G1⟩
    · rw [show inB sum = false by simp [inB, s0]] at Hd
      go_wp2
      go_ret
      exact ⟨by rw [Hd.out]; rfl, G1⟩
  · have hne : ¬ validE nm brs = 0 := by simpa using hv
    have hv0 : (validE nm brs == 0) = false := by simpa using hne
    rw [if_neg hne] at Hd
    generalize validE nm brs = E at *
    clear hne
    go_wp2
    go_ret
    exact ⟨by rw [Hd.out]; rfl, G1⟩

theorem checkE_cases (nm : ByteArray) (brs : List (Int × Int)) (sum : Int) : (checkE nm brs sum = 0 ∧ validE nm brs = 0 ∧ 0 ≤ sum ∧ sum ≤ 1099511627776 ∧ inB sum = true) ∨ (checkE nm brs sum != 0) = true ∧ ((validE nm brs = 0 ∧ inB sum = false ∧ checkE nm brs sum = 5) ∨ (¬ validE nm brs = 0 ∧ checkE nm brs sum = validE nm brs)) := by
  unfold checkE
  by_cases hv : validE nm brs = 0
  · rw [if_pos hv]
    cases hi : inB sum
    · right
      simp [hv]
    · left
      obtain ⟨a, b⟩ := inB_true hi
      exact ⟨by simp, hv, a, b, rfl⟩
  · right
    rw [if_neg hv]
    exact ⟨by simpa using hv, .inr ⟨hv, rfl⟩⟩

set_option maxRecDepth 100000 in
set_option maxHeartbeats 1000000 in
theorem rDue_any {w : World} {nm : ByteArray} {A : Option Addr} {n : Nat} (c : Nat) {brs : List (Int × Int)} (sum : Int) (h : TaxV w nm A n brs) (hnm : Nm nm) :
    Calls Tryz.prog 13 #[.agg #[.string nm, .slice A n c], .int .i64 sum] w fun e w' => e = .returned (.tuple #[.int .i64 (dueR nm brs sum).1, .int .i64 (dueR nm brs sum).2]) ∧ Below w.heap.size w w' := by
  have hb0 : Below w.heap.size w (w.alloc (.cells #[.string nm, .slice A n c] 25)) := (Below.refl _ _).alloc (Nat.le_refl _) _
  have Hd : Hid (dueR nm brs sum = if validE nm brs = 0 then (if inB sum = true then (due brs sum, 0) else (0, 5)) else (0, validE nm brs)) := rfl
  generalize dueR nm brs sum = D at *
  have H := Lib.hid h
  have HN := Lib.hid hnm
  clear h hnm
  go_enter Tryz.func13, Tryz.ntmps13
  go_wp2_with fail
  refine (check_any c sum (H.out.below hb0) HN.out).mono ?_
  rintro e w1 ⟨rfl, hb1⟩
  have G1 : Below w.heap.size w w1 := hb0.trans (hb1.mono (by simp))
  rcases checkE_cases nm brs sum with ⟨hc, hv, s0, s1, hi⟩ | ⟨hc, hd⟩
  · have hI := inR_of_valid hv
    rw [hc]
    rw [if_pos hv, if_pos hi] at Hd
    clear hv hi hc
    have c0 : w1.cell? ⟨w.heap.size, 0, none⟩ = some (.string nm) := (hb1.cell (p := ⟨w.heap.size, 0, none⟩) (by simp)).trans (by simp)
    have c1 : w1.cell? ⟨w.heap.size, 1, none⟩ = some (.slice A n c) := (hb1.cell (p := ⟨w.heap.size, 1, none⟩) (by simp)).trans (by simp)
    clear hb1
    go_wp2_with fail
    have h1 := H.out.below G1
    refine (rdue_any nm A n c brs sum _ h1.row h1.len hI s0 s1).mono ?_
    rintro e w2 ⟨rfl, hb2⟩
    clear h1
    go_wp2
    go_ret2
    exact ⟨by rw [Hd.out]; rfl, G1.trans (hb2.mono G1.size)⟩
  · have Hd2 : Hid (D = (0, checkE nm brs sum)) := by
      have := Hd.out
      rcases hd with ⟨hv, hi, he⟩ | ⟨hv, he⟩
      · rw [if_pos hv, if_neg (by rw [hi]; decide)] at this
        rw [he]; exact this
      · rw [if_neg hv] at this
        rw [he]; exact this
    generalize checkE nm brs sum = E at *
    clear Hd hd
    go_wp2
    go_ret2
    exact ⟨by rw [Hd2.out]; rfl, G1⟩

set_option maxRecDepth 100000 in
set_option maxHeartbeats 1000000 in
theorem rMore_any {w : World} {nm : ByteArray} {A : Option Addr} {n : Nat} (c : Nat) {brs : List (Int × Int)} (sum more : Int) (h : TaxV w nm A n brs) (hnm : Nm nm) :
    Calls Tryz.prog 15 #[.agg #[.string nm, .slice A n c], .int .i64 sum, .int .i64 more] w fun e w' => e = .returned (.tuple #[.int .i64 (moreR nm brs sum more).1, .int .i64 (moreR nm brs sum more).2]) ∧ Below w.heap.size w w' := by
  have hb0 : Below w.heap.size w (w.alloc (.cells #[.string nm, .slice A n c] 25)) := (Below.refl _ _).alloc (Nat.le_refl _) _
  have Hd : Hid (moreR nm brs sum more = if validE nm brs = 0 then (if inB sum = true then (if inB more = true then (if inB (sum + more) = true then (due brs (sum + more) - due brs sum, 0) else (0, 5)) else (0, 5)) else (0, 5)) else (0, validE nm brs)) := rfl
  generalize moreR nm brs sum more = D at *
  have H := Lib.hid h
  have HN := Lib.hid hnm
  clear h hnm
  go_enter Tryz.func15, Tryz.ntmps15
  go_wp2_with fail
  refine (check_any c sum (H.out.below hb0) HN.out).mono ?_
  rintro e w1 ⟨rfl, hb1⟩
  have G1 : Below w.heap.size w w1 := hb0.trans (hb1.mono (by simp))
  rcases checkE_cases nm brs sum with ⟨hc, hv, s0, s1, hi⟩ | ⟨hc, hd⟩
  · have hI := inR_of_valid hv
    rw [hc]
    rw [if_pos hv, if_pos hi] at Hd
    clear hv hi hc
    have c0 : w1.cell? ⟨w.heap.size, 0, none⟩ = some (.string nm) := (hb1.cell (p := ⟨w.heap.size, 0, none⟩) (by simp)).trans (by simp)
    have c1 : w1.cell? ⟨w.heap.size, 1, none⟩ = some (.slice A n c) := (hb1.cell (p := ⟨w.heap.size, 1, none⟩) (by simp)).trans (by simp)
    have l1 : w.heap.size < w1.heap.size := by have := hb1.size; simp at this; omega
    clear hb1
    by_cases m0 : 0 ≤ more
    · by_cases m1 : sum + more ≤ 1099511627776
      · rw [if_pos (show inB more = true by simp [inB]; omega), if_pos (show inB (sum + more) = true by simp [inB]; omega)] at Hd
        have h1 := H.out.below G1
        have Hr := Lib.hid h1.row
        have Hl := Lib.hid h1.len
        have HI := Lib.hid hI
        have db1 := due_bd hI s1
        have db2 := due_bd hI m1
        clear h1 H hI
        obtain ⟨d1, hd1⟩ : ∃ d1, d1 = due brs sum := ⟨_, rfl⟩
        obtain ⟨d2, hd2⟩ : ∃ d2, d2 = due brs (sum + more) := ⟨_, rfl⟩
        have k1 : ∀ W : World, Row W W.heap.size A (bcells brs) → Calls Tryz.prog 40 #[.agg #[.string nm, .slice A n c], .int .i64 sum] W fun e w' => e = .returned (.int .i64 d1) ∧ Below W.heap.size W w' := fun W hW => by rw [hd1]; exact rdue_any nm A n c brs sum W hW Hl.out HI.out s0 s1
        have k2 : ∀ W : World, Row W W.heap.size A (bcells brs) → Calls Tryz.prog 40 #[.agg #[.string nm, .slice A n c], .int .i64 (sum + more)] W fun e w' => e = .returned (.int .i64 d2) ∧ Below W.heap.size W w' := fun W hW => by rw [hd2]; exact rdue_any nm A n c brs (sum + more) W hW Hl.out HI.out (by omega) m1
        have K1 := Lib.hid k1
        have K2 := Lib.hid k2
        rw [← hd1, ← hd2] at Hd
        rw [← hd1] at db1
        rw [← hd2] at db2
        clear k1 k2 hd1 hd2
        have hw : IntKind.i64.wrap (sum + more) = sum + more := IntWalk.i64_in _ (by omega)
        have hw2 : IntKind.i64.wrap (d2 - d1) = d2 - d1 := IntWalk.i64_in _ (by omega)
        go_wp2_with fail
        go_region_with (first
          | (go_at_call_of 40 (Value.int IntKind.i64 sum); refine (K1.out _ ?_).mono ?_; (first | exact Hr.out | exact (Row.below (w := w1.drew) Hr.out hbA).more hbA.size); rintro e wA ⟨rfl, hbA⟩; (first | (have GB := GA.trans (hbA.mono GA.size)) | (have GA := G1.drew.trans (hbA.mono G1.size); have cA0 := (hbA.cell (p := ⟨w.heap.size, 0, none⟩) l1).trans c0; have cA1 := (hbA.cell (p := ⟨w.heap.size, 1, none⟩) l1).trans c1)))
          | (go_at_call_of 40 (Value.int IntKind.i64 (sum + more)); refine (K2.out _ ?_).mono ?_; (first | exact Hr.out | exact (Row.below (w := w1.drew) Hr.out hbA).more hbA.size); rintro e wA ⟨rfl, hbA⟩; (first | (have GB := GA.trans (hbA.mono GA.size)) | (have GA := G1.drew.trans (hbA.mono G1.size); have cA0 := (hbA.cell (p := ⟨w.heap.size, 0, none⟩) l1).trans c0; have cA1 := (hbA.cell (p := ⟨w.heap.size, 1, none⟩) l1).trans c1))))
        all_goals go_wp2
        all_goals go_ret2
        all_goals exact ⟨by rw [Hd.out]; rfl, GB⟩
      · have Hd2 : Hid (D = (0, 5)) := by
          have := Hd.out
          by_cases hm : inB more = true
          · rw [if_pos hm, if_neg (by simp [inB]; omega)] at this; exact this
          · rw [if_neg hm] at this; exact this
        clear Hd
        have hw : IntKind.i64.wrap (1099511627776 - sum) = 1099511627776 - sum := IntWalk.i64_in _ (by omega)
        have hq : 1099511627776 - sum < more := by omega
        go_wp2
        go_ret2
        exact ⟨by rw [Hd2.out]; rfl, G1⟩
    · have Hd2 : Hid (D = (0, 5)) := by
        have := Hd.out
        rw [if_neg (by simp [inB]; omega)] at this; exact this
      clear Hd
      go_wp2
      go_ret2
      exact ⟨by rw [Hd2.out]; rfl, G1⟩
  · have Hd2 : Hid (D = (0, checkE nm brs sum)) := by
      have := Hd.out
      rcases hd with ⟨hv, hi, he⟩ | ⟨hv, he⟩
      · rw [if_pos hv, if_neg (by rw [hi]; decide)] at this
        rw [he]; exact this
      · rw [if_neg hv] at this
        rw [he]; exact this
    generalize checkE nm brs sum = E at *
    clear Hd hd
    go_wp2
    go_ret2
    exact ⟨by rw [Hd2.out]; rfl, G1⟩

end Go.Proofs.YtlgedljhheficaaGreatDoor
