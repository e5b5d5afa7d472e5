/- The contract of catalog.taxFormed. -/
import Derived.Test.YtlgedljhheficaaGreatDoorA3
namespace Go.Proofs.YtlgedljhheficaaGreatDoor
open Go.RowKit

theorem bel_drewN {B : Nat} {a w : World} (h : Below B a w) (n : Nat) : Below B a (w.drewN n) := ⟨h.os, h.tape, h.output, h.size, h.block⟩

set_option maxRecDepth 100000 in
set_option maxHeartbeats 1000000 in
theorem tax_formed (nm : ByteArray) (A : Option Addr) (n c : Nat) (brs : List (Int × Int)) (w : World) (hr : Row w w.heap.size A (bcells brs)) (hn : n = brs.length) (hl : n ≤ 140737488351232) :
    Calls Tryz.prog 106 #[.agg #[.string nm, .slice A n c]] w fun e w' => e = .returned (.bool (formedB brs)) ∧ Below w.heap.size w w' := by
  have hb0 : Below w.heap.size w (w.alloc (.cells #[.string nm, .slice A n c] 25)) := (Below.refl _ _).alloc (Nat.le_refl _) _
  by_cases hz : n = 0
  · have hf : formedB brs = false := by
      have : brs = [] := List.eq_nil_of_length_eq_zero (by omega)
      simp [formedB, this]
    have Hf := Lib.hid hf
    subst hz
    clear hn hf
    go_enter Tryz.func106, Tryz.ntmps106
    go_wp2
    go_ret
    exact ⟨by rw [Hf.out]; rfl, hb0⟩
  · obtain ⟨b, off, rfl, hbb, hc⟩ := hr.at_ 0 (by rw [bcells_length]; omega)
    have hcf := hc _ _ (bcells_from brs 0 (by omega))
    have hnz : ((n : Int) == 0) = false := by simp; omega
    have hn1 : 0 < n := by omega
    simp only [Nat.zero_mul, Nat.add_zero] at hcf
    have Hn := Lib.hid hn
    have hne : brs.isEmpty = false := by cases brs <;> simp_all
    clear hz hn
    by_cases hf0 : fromAt brs 0 = 0
    · have Hf : Hid (formedB brs = incB brs n) := by
        show formedB brs = incB brs n
        rw [Hn.out]; simp [formedB, hf0, hne]
      rw [hf0] at hcf
      clear hf0 hne
      have Hc := Lib.hid hc
      clear hc
      go_enter Tryz.func106, Tryz.ntmps106
      go_wp2
      go_loopw [3] (fun i wr => ∃ k : Nat, 1 ≤ k ∧ k ≤ n ∧ i = .int .i64 k ∧ incB brs k = true ∧ Below (w.heap.size + 1) (w.alloc (.cells #[.string nm, .slice (some ⟨b, off, none⟩) n c] 25)) wr) (fun i _ => n - (intOf i).toNat)
      case atStart => exact ⟨1, Nat.le_refl _, by omega, rfl, incB_one brs, Below.refl _ _⟩
      case round =>
        obtain ⟨k, hk1, hk, rfl, hR, hb⟩ := hrel
        have HR := Lib.hid hR
        clear hR
        have hcv : wr.cell? ⟨w.heap.size, 1, none⟩ = some (.slice (some ⟨b, off, none⟩) n c) := (hb.cell (p := ⟨w.heap.size, 1, none⟩) (by simp)).trans (by simp)
        have hsz : w.heap.size < wr.heap.size := by have := hb.size; simp at this; omega
        have hbel : Below w.heap.size w wr := hb0.trans (hb.mono (by omega))
        by_cases hlt : k < n
        · have hcw : ∀ j u, (bcells brs)[j]? = some u → wr.cell? ⟨b, off + j, none⟩ = some u := fun j u hu => (hbel.cell (p := ⟨b, off + j, none⟩) hbb).trans (Hc.out j u hu)
          have hc1 := hcw _ _ (bcells_from brs k (by have := Hn.out; omega))
          have hc2 := hcw _ _ (bcells_from brs (k - 1) (by have := Hn.out; omega))
          have Hs : Hid (fromAt brs (k - 1) < fromAt brs k → incB brs (k + 1) = true) := fun h => incB_succ HR.out h
          have Hno : Hid (fromAt brs k ≤ fromAt brs (k - 1) → incB brs n = false) := fun h => incB_no hlt hk1 h
          have e1 : IntKind.i64.wrap ((k : Int) - 1) = (k : Int) - 1 := IntWalk.i64_in _ (by omega)
          have e2 : ((k : Int) - 1).toNat = k - 1 := by omega
          have e3 : (0 : Int) ≤ (k : Int) - 1 := by omega
          have e4 : (1 : Int) ≤ (k : Int) := by omega
          have e5 : (k : Int) - 1 < (n : Int) := by omega
          have e6 : k - 1 < n := by omega
          clear hcw
          generalize fromAt brs k = f at *
          generalize fromAt brs (k - 1) = g at *
          by_cases hgf : g < f
          · go_wp2
            go_quiet (fail)
            go_wp2
            go_roundw
            case rel => exact ⟨k + 1, by omega, by omega, by go_num, Hs.out hgf, bel_drewN hb _⟩
            case measure => simp [intOf]; omega
          · have hgf2 : f ≤ g := by omega
            go_wp2
            go_quiet (fail)
            go_wp2
            go_ret
            exact ⟨by rw [Hf.out, Hno.out hgf2]; rfl, bel_drewN hbel _⟩
        · have hkn : k = n := by omega
          rw [hkn] at HR
          clear hkn
          go_wp2
          go_ret
          exact ⟨by rw [Hf.out, HR.out]; rfl, hbel⟩
    · have Hf : Hid (formedB brs = false) := by
        show formedB brs = false
        simp [formedB, hf0]
      have hf1 : (fromAt brs 0 != 0) = true := by simpa using hf0
      clear hne hf0 hc
      generalize fromAt brs 0 = f at *
      go_enter Tryz.func106, Tryz.ntmps106
      go_wp2
      go_ret
      exact ⟨by rw [Hf.out]; rfl, hb0⟩

end Go.Proofs.YtlgedljhheficaaGreatDoor
