/- The contract of the reference's Net. -/
import Derived.Test.YtlgedljhheficaaGreatDoorA45
namespace Go.Proofs.YtlgedljhheficaaGreatDoor
open Go.RowKit

set_option maxRecDepth 100000 in
set_option maxHeartbeats 1000000 in
theorem rNet_any {w : World} {nm : ByteArray} {A : Option Addr} {n : Nat} (c : Nat) {brs : List (Int × Int)} (net : Int) (h : TaxV w nm A n brs) (hnm : Nm nm) :
    Calls Tryz.prog 17 #[.agg #[.string nm, .slice A n c], .int .i64 net] w (NetPost w nm brs net) := by
  have hb0 : Below w.heap.size w (w.alloc (.cells #[.string nm, .slice A n c] 25)) := (Below.refl _ _).alloc (Nat.le_refl _) _
  have H := Lib.hid h
  have HN := Lib.hid hnm
  clear h hnm
  go_enter Tryz.func17, Tryz.ntmps17
  go_wp2_with fail
  refine (check_any c net (H.out.below hb0) HN.out).mono ?_
  rintro e w1 ⟨rfl, hb1⟩
  have G1 : Below w.heap.size w w1 := hb0.trans (hb1.mono (by simp))
  rcases checkE_cases nm brs net with ⟨hc, hv, s0, s1, hi⟩ | ⟨hc, hd⟩
  · have hI := inR_of_valid hv
    have hG := good_of_valid hv
    have hz := due_zero hG
    have Hfin : Hid (∀ m : Int, NetIs brs net m → NetR nm brs net (m, 0)) := fun m hm => by
      unfold NetR; rw [if_pos hv, if_pos hi]; exact ⟨rfl, hm⟩
    rw [hc]
    have HI := Lib.hid hI
    have Hz := Lib.hid hz
    clear hv hi hc hI hG hz
    have c0 : w1.cell? ⟨w.heap.size, 0, none⟩ = some (.string nm) := (hb1.cell (p := ⟨w.heap.size, 0, none⟩) (by simp)).trans (by simp)
    have c1 : w1.cell? ⟨w.heap.size, 1, none⟩ = some (.slice A n c) := (hb1.cell (p := ⟨w.heap.size, 1, none⟩) (by simp)).trans (by simp)
    have l1 : w.heap.size < w1.heap.size := by have := hb1.size; simp at this; omega
    have h1 := H.out.below G1
    have HV1 := Lib.hid h1
    have HG1 := Lib.hid G1
    clear hb1 hb0 H G1 h1
    go_wp2_with fail
    go_loopw [7, 8] (fun i j wr => ∃ a b : Int, 0 ≤ a ∧ a < b ∧ b ≤ 1099511627777 ∧ i = .int .i64 a ∧ j = .int .i64 b ∧ a - due brs a ≤ net ∧ (b < 1099511627777 → net < b - due brs b) ∧ Below w1.heap.size w1 wr) (fun i j _ => (intOf j).toNat - (intOf i).toNat)
    case atStart => exact ⟨0, 1099511627777, by omega, by omega, by omega, rfl, rfl, by rw [Hz.out]; omega, fun hx => by omega, Below.refl _ _⟩
    case round =>
      obtain ⟨a, b, a0, hab, hb1, rfl, rfl, hlo, hhi, hbel⟩ := hrel
      have Hlo := Lib.hid hlo
      have Hhi := Lib.hid hhi
      have HB := Lib.hid hbel
      have d0 : wr.cell? ⟨w.heap.size, 0, none⟩ = some (.string nm) := (hbel.cell (p := ⟨w.heap.size, 0, none⟩) l1).trans c0
      have d1 : wr.cell? ⟨w.heap.size, 1, none⟩ = some (.slice A n c) := (hbel.cell (p := ⟨w.heap.size, 1, none⟩) l1).trans c1
      have l2 : w.heap.size < wr.heap.size := Nat.lt_of_lt_of_le l1 hbel.size
      clear hlo hhi hbel
      by_cases hlt : 1 < b - a
      · obtain ⟨m, hm, hm1, hm2⟩ : ∃ m : Int, (a + b) / 2 = m ∧ a < m ∧ m < b := ⟨(a + b) / 2, rfl, by omega, by omega⟩
        have db := due_bd HI.out (sum := m) (by omega)
        have hsub : IntKind.i64.wrap (b - a) = b - a := IntWalk.i64_in _ (by omega)
        go_wp2_with fail
        rw [hm]
        clear hm
        have h2 := HV1.out.below HB.out
        refine (rdue_any nm A n c brs m _ h2.row h2.len HI.out (by omega) (by omega)).mono ?_
        rintro e w2 ⟨rfl, hb2⟩
        clear h2
        have HB2 := Lib.hid (HB.out.trans (hb2.mono HB.out.size))
        clear hb2 HB d0 d1
        by_cases ho : m - due brs m ≤ net
        · have Ho := Lib.hid ho
          generalize due brs m = d at ho db ⊢
          have hs2 : IntKind.i64.wrap (m - d) = m - d := IntWalk.i64_in _ (by omega)
          go_wp2
          go_roundw
          case rel => exact ⟨m, b, by omega, hm2, hb1, rfl, rfl, Ho.out, Hhi.out, HB2.out⟩
          case measure => simp [intOf]; omega
        · have Ho := Lib.hid ho
          generalize due brs m = d at ho db ⊢
          have hs2 : IntKind.i64.wrap (m - d) = m - d := IntWalk.i64_in _ (by omega)
          go_wp2
          go_roundw
          case rel => exact ⟨a, m, a0, hm1, by omega, rfl, rfl, Hlo.out, fun _ => by have := Ho.out; omega, HB2.out⟩
          case measure => simp [intOf]; omega
      · obtain rfl : b = a + 1 := by omega
        have hsub : IntKind.i64.wrap (a + 1 - a) = a + 1 - a := IntWalk.i64_in _ (by omega)
        have HP : Hid (NetPost w nm brs net (.returned (.tuple #[.int .i64 a, .int .i64 0])) wr) :=
          ⟨(a, 0), Hfin.out a ⟨a0, by omega, Hlo.out, fun hx => Hhi.out (by omega)⟩, rfl, HG1.out.trans (HB.out.mono HG1.out.size)⟩
        clear Hfin Hlo Hhi
        go_wp2
        go_ret2
        exact HP.out
  · have Hr : Hid (NetR nm brs net (0, checkE nm brs net)) := by
      show NetR nm brs net _
      unfold NetR
      rcases hd with ⟨hv, hi, he⟩ | ⟨hv, he⟩
      · rw [if_pos hv, if_neg (by rw [hi]; decide), he]
      · rw [if_neg hv, he]
    generalize checkE nm brs net = E at *
    clear hd
    go_wp2
    go_ret2
    exact ⟨(0, E), Hr.out, rfl, G1⟩

end Go.Proofs.YtlgedljhheficaaGreatDoor
