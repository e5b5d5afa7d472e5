/- The contract of the reference's TaxErrors. -/
import Derived.Test.YtlgedljhheficaaGreatDoorA4
namespace Go.Proofs.YtlgedljhheficaaGreatDoor
open Go.RowKit

/-- Whether the first k brackets violate the form. -/
def formR (brs : List (Int × Int)) : Nat → Bool
  | 0 => decide (brs.length = 0)
  | k + 1 => formR brs k || (decide (k = 0) && decide (fromAt brs k ≠ 0)) || (decide (0 < k) && decide (fromAt brs k ≤ fromAt brs (k - 1)))
theorem formR_spec (brs : List (Int × Int)) (k : Nat) (hk : k ≤ brs.length) : formR brs k = false ↔ 0 < brs.length ∧ (0 < k → fromAt brs 0 = 0) ∧ incB brs k = true := by
  induction k with
  | zero => simp [formR, incB, List.length_pos_iff]
  | succ k ih =>
    have ih := ih (by omega)
    have hi : incB brs (k + 1) = (incB brs k && (k == 0 || decide (fromAt brs (k - 1) < fromAt brs k))) := by simp [incB, List.range_succ]
    rw [hi]
    rcases Nat.eq_zero_or_pos k with rfl | h0
    · simp [formR, incB, List.length_pos_iff]
    · have : ¬ k = 0 := by omega
      simp only [formR, Bool.or_eq_false_iff, ih, Bool.and_eq_false_iff, decide_eq_false_iff_not, Bool.and_eq_true, Bool.or_eq_true, beq_iff_eq, decide_eq_true_eq]
      constructor
      · rintro ⟨⟨⟨a, b, c⟩, _⟩, d⟩
        exact ⟨a, fun _ => b h0, c, .inr (by omega)⟩
      · rintro ⟨a, b, c, d⟩
        exact ⟨⟨⟨a, fun _ => b (by omega), c⟩, .inl this⟩, .inr (by omega)⟩
theorem formR_all (brs : List (Int × Int)) : formR brs brs.length = !formedB brs := by
  cases h : formedB brs
  · cases h2 : formR brs brs.length
    · exfalso
      obtain ⟨a, b, c⟩ := (formR_spec brs _ (Nat.le_refl _)).1 h2
      have h3 : brs.isEmpty = false := by cases brs <;> simp_all
      simp [formedB, h3, b a, c] at h
    · rfl
  · have : 0 < brs.length ∧ fromAt brs 0 = 0 ∧ incB brs brs.length = true := by
      simp only [formedB, Bool.and_eq_true, beq_iff_eq] at h
      refine ⟨?_, h.1.2, h.2⟩
      have := h.1.1
      cases brs <;> simp_all
    simpa using (formR_spec brs _ (Nat.le_refl _)).2 ⟨this.1, fun _ => this.2.1, this.2.2⟩

theorem form_step (brs : List (Int × Int)) (k : Nat) (f g : Int) (F : Bool) (hf : f = fromAt brs k) (hg : g = fromAt brs (k - 1)) (hF : F = formR brs k) :
    (F = true ∧ formR brs (k + 1) = true) ∨ (F = false ∧ ((k : Int) == 0) = true ∧ (f != 0) = true ∧ formR brs (k + 1) = true) ∨ (F = false ∧ ((k : Int) == 0) = true ∧ decide (0 < k) = false ∧ (f != 0) = false ∧ formR brs (k + 1) = false) ∨
    (F = false ∧ ((k : Int) == 0) = false ∧ decide (0 < k) = true ∧ 1 ≤ k ∧ decide (f ≤ g) = true ∧ formR brs (k + 1) = true) ∨ (F = false ∧ ((k : Int) == 0) = false ∧ decide (0 < k) = true ∧ 1 ≤ k ∧ decide (f ≤ g) = false ∧ formR brs (k + 1) = false) := by
  have hs : formR brs (k + 1) = (F || (decide (k = 0) && decide (f ≠ 0)) || (decide (0 < k) && decide (f ≤ g))) := by rw [hf, hg, hF]; rfl
  rw [hs]
  cases F
  · by_cases h0 : k = 0
    · by_cases h1 : f = 0
      · right; right; left; simp [h0, h1]
      · right; left; simp [h0, h1]
    · by_cases h1 : f ≤ g
      · right; right; right; left; simp [h0, h1]; omega
      · right; right; right; right; simp [h0, h1]; omega
  · left; simp
theorem num_step (brs : List (Int × Int)) (k : Nat) (f p : Int) (N : Bool) (hf : f = fromAt brs k) (hp : p = perAt brs k) (hN : N = !rangeB brs k) :
    (N = true ∧ (!rangeB brs (k + 1)) = true) ∨ (N = false ∧ (!rangeB brs (k + 1)) = (decide (f < 0) || decide (1099511627776 < f) || decide (p < 0) || decide (10000 < p))) := by
  rw [rangeB_succ, ← hf, ← hp]
  cases hR : rangeB brs k
  · rw [hR] at hN; left; simp [hN]
  · rw [hR] at hN
    right
    refine ⟨by simpa using hN, ?_⟩
    simp only [brB, Bool.true_and, Bool.not_and]
    have h1 : ∀ a b : Int, (!decide (a ≤ b)) = decide (b < a) := fun a b => by by_cases h : a ≤ b <;> simp [h] <;> omega
    rw [h1, h1, h1, h1]

set_option maxRecDepth 100000 in
set_option maxHeartbeats 2000000 in
theorem tax_errors (nm : ByteArray) (A : Option Addr) (n c : Nat) (brs : List (Int × Int)) (w : World) (hr : Row w w.heap.size A (bcells brs)) (hn : n = brs.length) (hl : n ≤ 140737488351232) :
    Calls Tryz.prog 65 #[.agg #[.string nm, .slice A n c]] w fun e w' => e = .returned (.tuple #[.bool (decide (16 < (n : Int))), .bool (!formedB brs), .bool (!rangeB brs brs.length)]) ∧ Below w.heap.size w w' := by
  have hb0 : Below w.heap.size w (w.alloc (.cells #[.string nm, .slice A n c] 25)) := (Below.refl _ _).alloc (Nat.le_refl _) _
  have Hn := Lib.hid hn
  have Hr := Lib.hid hr
  have HB0 := Lib.hid hb0
  have HF0 : Hid (formR brs 0 = ((n : Int) == 0)) := by
    show decide (brs.length = 0) = _
    rw [← hn]; by_cases h : n = 0 <;> simp [h]
  clear hn hr hb0
  go_enter Tryz.func65, Tryz.ntmps65
  go_wp2
  go_loopw [5, 6, 7] (fun F N i wr => ∃ k : Nat, k ≤ n ∧ i = .int .i64 k ∧ F = .bool (formR brs k) ∧ N = .bool (!rangeB brs k) ∧ Below (w.heap.size + 1) (w.alloc (.cells #[.string nm, .slice A n c] 25)) wr) (fun _ _ i _ => n - (intOf i).toNat)
  case atStart => exact ⟨0, Nat.zero_le _, rfl, by rw [HF0.out], rfl, Below.refl _ _⟩
  case round =>
    obtain ⟨k, hk, rfl, rfl, rfl, hb⟩ := hrel
    have hcv : wr.cell? ⟨w.heap.size, 1, none⟩ = some (.slice A n c) := (hb.cell (p := ⟨w.heap.size, 1, none⟩) (by simp)).trans (by simp)
    have hsz : w.heap.size < wr.heap.size := by have := hb.size; simp at this; omega
    have hbel : Below w.heap.size w wr := HB0.out.trans (hb.mono (by omega))
    by_cases hlt : k < n
    · have hkl : k < brs.length := by have := Hn.out; omega
      obtain ⟨b, off, rfl, hbb, hc⟩ := Hr.out.at_ 0 (by rw [bcells_length]; omega)
      have hcw : ∀ j u, (bcells brs)[j]? = some u → wr.cell? ⟨b, off + j, none⟩ = some u := fun j u hu => (hbel.cell (p := ⟨b, off + j, none⟩) hbb).trans (hc j u hu)
      have hcf := hcw _ _ (bcells_from brs k hkl)
      have hcp := cell_assoc (hcw _ _ (bcells_per brs k hkl))
      have hcg := hcw _ _ (bcells_from brs (k - 1) (by omega))
      have hbw : b < wr.heap.size := by omega
      obtain ⟨f, hf⟩ : ∃ f, f = fromAt brs k := ⟨_, rfl⟩
      obtain ⟨g, hg⟩ : ∃ g, g = fromAt brs (k - 1) := ⟨_, rfl⟩
      obtain ⟨p, hp⟩ : ∃ p, p = perAt brs k := ⟨_, rfl⟩
      obtain ⟨F, hF⟩ : ∃ F, F = formR brs k := ⟨_, rfl⟩
      obtain ⟨N, hN⟩ : ∃ N, N = !rangeB brs k := ⟨_, rfl⟩
      have S1 := form_step brs k f g F hf hg hF
      have S2 := num_step brs k f p N hf hp hN
      rw [← hf] at hcf
      rw [← hg] at hcg
      rw [← hp] at hcp
      rw [← hF, ← hN]
      have HB := Lib.hid hb
      clear hcw hc hkl hf hg hp hF hN hb hbel
      rcases S1 with ⟨rfl, h1⟩ | ⟨rfl, a1, a2, h1⟩ | ⟨rfl, a1, a2, a3, h1⟩ | ⟨rfl, a1, a2, a3, a4, h1⟩ | ⟨rfl, a1, a2, a3, a4, h1⟩
      · have H1 := Lib.hid h1
        clear h1 hcg g
        rcases S2 with ⟨rfl, h2⟩ | ⟨rfl, h2⟩
        all_goals
          have H2 := Lib.hid h2
          clear h2
          go_wp2
          go_quiet (fail)
          go_wp2
          all_goals
            go_roundw
            case rel => exact ⟨k + 1, by omega, by go_num, by rw [H1.out], by rw [H2.out]; (first | done | rfl | (simp; omega)), bel_drewN (HB.out.alloc (by omega) _) _⟩
            case measure => simp [intOf]; omega
      · have H1 := Lib.hid h1
        clear h1 hcg g
        rcases S2 with ⟨rfl, h2⟩ | ⟨rfl, h2⟩
        all_goals
          have H2 := Lib.hid h2
          clear h2
          go_wp2
          go_quiet (fail)
          go_wp2
          all_goals
            go_roundw
            case rel => exact ⟨k + 1, by omega, by go_num, by rw [H1.out], by rw [H2.out]; (first | done | rfl | (simp; omega)), bel_drewN (HB.out.alloc (by omega) _) _⟩
            case measure => simp [intOf]; omega
      · have H1 := Lib.hid h1
        clear h1 hcg g
        rcases S2 with ⟨rfl, h2⟩ | ⟨rfl, h2⟩
        all_goals
          have H2 := Lib.hid h2
          clear h2
          go_wp2
          go_quiet (fail)
          go_wp2
          all_goals
            go_roundw
            case rel => exact ⟨k + 1, by omega, by go_num, by rw [H1.out], by rw [H2.out]; (first | done | rfl | (simp; omega)), bel_drewN (HB.out.alloc (by omega) _) _⟩
            case measure => simp [intOf]; omega
      all_goals
        have H1 := Lib.hid h1
        clear h1
        have e1 : IntKind.i64.wrap ((k : Int) - 1) = (k : Int) - 1 := IntWalk.i64_in _ (by omega)
        have e2 : ((k : Int) - 1).toNat = k - 1 := by omega
        have e3 : (0 : Int) ≤ (k : Int) - 1 := by omega
        have e4 : (1 : Int) ≤ (k : Int) := by omega
        have e5 : (k : Int) - 1 < (n : Int) := by omega
        have e6 : k - 1 < n := by omega
        rcases S2 with ⟨rfl, h2⟩ | ⟨rfl, h2⟩
        all_goals
          have H2 := Lib.hid h2
          clear h2
          go_wp2
          go_quiet (fail)
          go_wp2
          all_goals
            go_roundw
            case rel => exact ⟨k + 1, by omega, by go_num, by rw [H1.out], by rw [H2.out]; (first | done | rfl | (simp; omega)), bel_drewN (HB.out.alloc (by omega) _) _⟩
            case measure => simp [intOf]; omega
    · have hkn : k = n := by omega
      have Hf : Hid (formR brs k = !formedB brs) := by show formR brs k = _; rw [hkn, Hn.out]; exact formR_all brs
      have Hr2 : Hid (rangeB brs k = rangeB brs brs.length) := by show rangeB brs k = _; rw [hkn, Hn.out]
      rw [Hf.out, Hr2.out]
      clear hkn
      go_wp2
      exact bodyPost_ret (v := .tuple #[.bool (decide (16 < (n : Int))), .bool (!formedB brs), .bool (!rangeB brs brs.length)]) (by simp [results, Tryz.results65, go_sem]) rfl ⟨rfl, hbel⟩

end Go.Proofs.YtlgedljhheficaaGreatDoor
