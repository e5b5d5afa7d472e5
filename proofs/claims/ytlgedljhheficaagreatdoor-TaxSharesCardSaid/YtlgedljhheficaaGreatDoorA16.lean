/- The contract of tax.More. -/
import Derived.Test.YtlgedljhheficaaGreatDoorA15
namespace Go.Proofs.YtlgedljhheficaaGreatDoor
open Go.RowKit

/-- What More returns: the tax and the error. -/
def moreR (nm : ByteArray) (brs : List (Int × Int)) (sum more : Int) : Int × Int :=
  if validE nm brs = 0 then (if inB sum = true then (if inB more = true then (if inB (sum + more) = true then (due brs (sum + more) - due brs sum, 0) else (0, 5)) else (0, 5)) else (0, 5)) else (0, validE nm brs)

theorem due_bd {brs : List (Int × Int)} (hI : InR brs) {sum : Int} (h1 : sum ≤ 1099511627776) : 0 ≤ due brs sum ∧ due brs sum ≤ 17592186044416 := by
  have hr := rates_bd hI h1 brs.length (Nat.le_refl _)
  have hl := hI.len
  unfold due
  have : (brs.length : Int) ≤ 16 := by omega
  omega

set_option maxRecDepth 100000 in
set_option maxHeartbeats 1000000 in
theorem More_any {w : World} {nm : ByteArray} {A : Option Addr} {n : Nat} (c : Nat) {brs : List (Int × Int)} (sum more : Int) (h : TaxV w nm A n brs) :
    Calls Tryz.prog 14 #[.agg #[.string nm, .slice A n c], .int .i64 sum, .int .i64 more] w fun e w' => e = .returned (.tuple #[.int .i64 (moreR nm brs sum more).1, .int .i64 (moreR nm brs sum more).2]) ∧ Below w.heap.size w w' := by
  have hb0 : Below w.heap.size w (w.alloc (.cells #[.string nm, .slice A n c] 25)) := (Below.refl _ _).alloc (Nat.le_refl _) _
  have Hd : Hid (moreR nm brs sum more = if validE nm brs = 0 then (if inB sum = true then (if inB more = true then (if inB (sum + more) = true then (due brs (sum + more) - due brs sum, 0) else (0, 5)) else (0, 5)) else (0, 5)) else (0, validE nm brs)) := rfl
  generalize moreR nm brs sum more = D at *
  have H := Lib.hid h
  clear h
  go_enter Tryz.func14, Tryz.ntmps14
  go_wp2_with fail
  refine (valid_tax c (H.out.below hb0)).mono ?_
  rintro e w1 ⟨rfl, hb1⟩
  have G1 : Below w.heap.size w w1 := hb0.trans (hb1.mono (by simp))
  rcases validE_cases nm brs with hv | hv
  · have hI := inR_of_valid hv
    rw [hv]
    rw [if_pos hv] at Hd
    clear hv
    have c0 : w1.cell? ⟨w.heap.size, 0, none⟩ = some (.string nm) := (hb1.cell (p := ⟨w.heap.size, 0, none⟩) (by simp)).trans (by simp)
    have c1 : w1.cell? ⟨w.heap.size, 1, none⟩ = some (.slice A n c) := (hb1.cell (p := ⟨w.heap.size, 1, none⟩) (by simp)).trans (by simp)
    have s1 : w.heap.size < w1.heap.size := by have := hb1.size; simp at this; omega
    clear hb1
    go_wp2_with fail
    refine (inRange_any _ _).mono ?_
    rintro e w2 ⟨rfl, rfl⟩
    cases hi : inB sum
    · rw [hi] at Hd
      clear hi
      go_wp2
      go_ret2
      exact ⟨by rw [Hd.out]; rfl, G1⟩
    · obtain ⟨hs0, hs1⟩ := inB_true hi
      rw [hi] at Hd
      clear hi
      go_wp2_with fail
      refine (inRange_any _ _).mono ?_
      rintro e w2 ⟨rfl, rfl⟩
      cases hi : inB more
      · rw [hi] at Hd
        clear hi
        go_wp2
        go_ret2
        exact ⟨by rw [Hd.out]; rfl, G1⟩
      · obtain ⟨hm0, hm1⟩ := inB_true hi
        rw [hi] at Hd
        clear hi
        go_wp2_with fail
        refine (inRange_any _ _).mono ?_
        rintro e w2 ⟨rfl, rfl⟩
        cases hi : inB (sum + more)
        · rw [hi] at Hd
          clear hi
          go_wp2
          go_ret2
          exact ⟨by rw [Hd.out]; rfl, G1⟩
        · obtain ⟨ht0, ht1⟩ := inB_true hi
          rw [hi] at Hd
          clear hi
          have h1 := H.out.below G1
          have Hr := Lib.hid h1.row
          have Hl := Lib.hid h1.len
          have HI := Lib.hid hI
          have db1 := due_bd hI hs1
          have db2 := due_bd hI ht1
          clear h1 H hI
          obtain ⟨d1, hd1⟩ : ∃ d1, d1 = due brs sum := ⟨_, rfl⟩
          obtain ⟨d2, hd2⟩ : ∃ d2, d2 = due brs (sum + more) := ⟨_, rfl⟩
          have k1 : ∀ W : World, Row W W.heap.size A (bcells brs) → Calls Tryz.prog 38 #[.agg #[.string nm, .slice A n c], .int .i64 sum] W fun e w' => e = .returned (.int .i64 d1) ∧ Below W.heap.size W w' := fun W hW => by rw [hd1]; exact due_any nm A n c brs sum W hW Hl.out HI.out hs0 hs1
          have k2 : ∀ W : World, Row W W.heap.size A (bcells brs) → Calls Tryz.prog 38 #[.agg #[.string nm, .slice A n c], .int .i64 (sum + more)] W fun e w' => e = .returned (.int .i64 d2) ∧ Below W.heap.size W w' := fun W hW => by rw [hd2]; exact due_any nm A n c brs (sum + more) W hW Hl.out HI.out ht0 ht1
          have K1 := Lib.hid k1
          have K2 := Lib.hid k2
          rw [← hd1, ← hd2] at Hd
          rw [← hd1] at db1
          rw [← hd2] at db2
          clear k1 k2 hd1 hd2
          have hw : IntKind.i64.wrap (sum + more) = sum + more := IntWalk.i64_in _ (by omega)
          have hw2 : IntKind.i64.wrap (d2 - d1) = d2 - d1 := IntWalk.i64_in _ (by omega)
          go_wp2_with fail
          go_region_with (first
            | (go_at_call_of 38 (Value.int IntKind.i64 sum); refine (K1.out _ ?_).mono ?_; (first | exact Hr.out | exact (Row.below (w := w1.drew) Hr.out hbA).more hbA.size); rintro e wA ⟨rfl, hbA⟩; (first | (have GB := GA.trans (hbA.mono GA.size)) | (have GA := G1.drew.trans (hbA.mono G1.size); have cA0 := (hbA.cell (p := ⟨w.heap.size, 0, none⟩) s1).trans c0; have cA1 := (hbA.cell (p := ⟨w.heap.size, 1, none⟩) s1).trans c1)))
            | (go_at_call_of 38 (Value.int IntKind.i64 (sum + more)); refine (K2.out _ ?_).mono ?_; (first | exact Hr.out | exact (Row.below (w := w1.drew) Hr.out hbA).more hbA.size); rintro e wA ⟨rfl, hbA⟩; (first | (have GB := GA.trans (hbA.mono GA.size)) | (have GA := G1.drew.trans (hbA.mono G1.size); have cA0 := (hbA.cell (p := ⟨w.heap.size, 0, none⟩) s1).trans c0; have cA1 := (hbA.cell (p := ⟨w.heap.size, 1, none⟩) s1).trans c1))))
          all_goals go_wp2
          all_goals go_ret2
          all_goals exact ⟨by rw [Hd.out]; rfl, GB⟩
  · have hne : ¬ validE nm brs = 0 := by simpa using hv
    rw [if_neg hne] at Hd
    generalize validE nm brs = E at *
    clear hne
    go_wp2
    go_ret2
    exact ⟨by rw [Hd.out]; rfl, G1⟩

end Go.Proofs.YtlgedljhheficaaGreatDoor
