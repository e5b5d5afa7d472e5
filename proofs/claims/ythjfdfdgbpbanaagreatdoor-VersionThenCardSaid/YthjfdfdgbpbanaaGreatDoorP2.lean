/- Plain laws for VersionConserves. -/
import Derived.Test.YthjfdfdgbpbanaaGreatDoorA9
namespace Go.Proofs.YthjfdfdgbpbanaaGreatDoor
open Go.RowKit

def ftab (K : Nat) (f : Nat → Int) : List Int := (List.range K).map f
@[simp] theorem ftab_length (K : Nat) (f : Nat → Int) : (ftab K f).length = K := by simp [ftab]
theorem ftab_at (K : Nat) (f : Nat → Int) (i : Nat) (h : i < K) : wAt (ftab K f) i = f i := by simp [wAt, ftab, h]
theorem ftab_get (K : Nat) (f : Nat → Int) (i : Nat) (h : i < K) : (ftab K f)[i]? = some (f i) := by simp [ftab, h]
theorem ftab_succ (K : Nat) (f : Nat → Int) : ftab (K + 1) f = ftab K f ++ [f K] := by simp [ftab, List.range_succ]
theorem ftab_congr (K : Nat) (f g : Nat → Int) (h : ∀ i, i < K → f i = g i) : ftab K f = ftab K g := by
  unfold ftab; exact List.map_congr_left fun i hi => h i (by simpa using hi)
theorem ftab_set (K : Nat) (f : Nat → Int) (k : Nat) (x : Int) (_ : k < K) : (ftab K f).set k x = ftab K (fun i => if i = k then x else f i) := by
  apply List.ext_getElem?
  intro i
  by_cases e : k = i
  · subst e
    rw [List.getElem?_set_self (by simpa using ‹k < K›), ftab_get _ _ _ ‹k < K›]; simp
  · rw [List.getElem?_set_ne e]
    by_cases hi : i < K
    · rw [ftab_get _ _ _ hi, ftab_get _ _ _ hi, if_neg (fun h => e h.symm)]
    · rw [List.getElem?_eq_none (by simp; omega), List.getElem?_eq_none (by simp; omega)]

theorem tosAt_ok (N : Nat) (zs : List Int) (i : Nat) (ts : List Tr) (k : Nat) (h : ts[k]? = some (tosAt N zs i)) : okAt ts N k = true := by
  unfold okAt okT itemAt numAt denAt
  rw [h]
  simp only [Option.getD_some, tosAt]
  split
  · rename_i hs
    simp only [someT, Bool.and_eq_true, decide_eq_true_eq] at hs
    have a := pick_lo zs (3 * (i : Int) + 1) N (by omega)
    have b := pick_hi zs (3 * (i : Int) + 1) N (by omega)
    have c := pick_lo zs (3 * (i : Int) + 2) 5 (by omega)
    have d := pick_hi zs (3 * (i : Int) + 2) 5 (by omega)
    have e := pick_lo zs (3 * (i : Int) + 2) 7 (by omega)
    have f := pick_hi zs (3 * (i : Int) + 2) 7 (by omega)
    exact decide_eq_true (.inr (by dsimp only; omega))
  · exact decide_eq_true (.inl ⟨rfl, rfl, rfl⟩)
theorem tosL_get (N : Nat) (zs : List Int) (K k : Nat) (h : k < K) : (tosL N zs K)[k]? = some (tosAt N zs k) := by simp [tosL, h]
theorem tosL_valid (N : Nat) (zs : List Int) (K : Nat) : validB (tosL N zs K) N = true := by
  refine validTo_mk fun k hk => ?_
  rw [tosL_length] at hk
  exact tosAt_ok N zs k _ k (tosL_get N zs K k hk)
theorem tosL_num (N : Nat) (zs : List Int) (K k : Nat) (h : k < K) : 0 ≤ numAt (tosL N zs K) k ∧ numAt (tosL N zs K) k ≤ 5 := by
  unfold numAt
  rw [tosL_get _ _ _ _ h]
  simp only [Option.getD_some, tosAt]
  have c := pick_lo zs (3 * (k : Int) + 2) 5 (by omega)
  have d := pick_hi zs (3 * (k : Int) + 2) 5 (by omega)
  split
  · dsimp only; omega
  · dsimp only; omega

/-- A term is small where what is held and the factors are. -/
theorem term_small {ts : List Tr} {hs : List Int} {i : Nat} (h0 : 0 ≤ wAt hs i) (h1 : wAt hs i ≤ 1000) (hd : 0 ≤ denAt ts i) (hn : 0 ≤ numAt ts i) (hn5 : numAt ts i ≤ 5) : term ts hs i ≤ 5000 := by
  unfold term
  have a : wAt hs i / denAt ts i ≤ 1000 := Int.le_trans (Int.ediv_le_self _ h0) h1
  have b : 0 ≤ wAt hs i / denAt ts i := Int.ediv_nonneg h0 hd
  have c := Int.mul_le_mul_of_nonneg_left hn5 b
  omega
theorem sumTo_small {N : Nat} {zs : List Int} {K : Nat} {hs : List Int} (hl : hs.length = K) (h : ∀ i, i < K → 0 ≤ wAt hs i ∧ wAt hs i ≤ 1000) (j : Int) : ∀ k, k ≤ K → sumTo (tosL N zs K) hs j k ≤ (k : Int) * 5000 := by
  intro k hk
  induction k with
  | zero => simp [sumTo]
  | succ k ih =>
    have h1 := ih (by omega)
    have h2 := h k (by omega)
    have h3 := tosL_num N zs K k (by omega)
    have h4 := okT_cases (validTo_at (tosL_valid N zs K) k (by simp; omega))
    have h5 := term_small (ts := tosL N zs K) (hs := hs) (i := k) h2.1 h2.2 (by omega) h3.1 h3.2
    simp only [sumTo]
    have : ((k + 1 : Nat) : Int) * 5000 = (k : Int) * 5000 + 5000 := by omega
    split <;> omega

theorem small_good {K : Nat} {zs hs : List Int} (hK : K ≤ 64) (hl : hs.length = K) (h : ∀ i, i < K → 0 ≤ wAt hs i ∧ wAt hs i ≤ 1000) : argB (tosL K zs K) K hs = true ∧ limB (tosL K zs K) K hs = true := by
  constructor
  · simp only [argB, Bool.and_eq_true, decide_eq_true_eq, unitsB, tosL_length]
    refine ⟨⟨⟨⟨by omega, by omega⟩, tosL_valid K zs K⟩, hl.symm⟩, fun i hi => ?_⟩
    have := h i (by omega)
    omega
  · simp only [limB, decide_eq_true_eq, tosL_length]
    intro j _
    have := sumTo_small (N := K) (zs := zs) hl h j K (Nat.le_refl _)
    unfold mu
    omega
theorem small_conv {K : Nat} {zs hs : List Int} (hK : K ≤ 64) (hl : hs.length = K) (h : ∀ i, i < K → 0 ≤ wAt hs i ∧ wAt hs i ≤ 1000) :
    convE (tosL K zs K) K hs = 0 ∧ nowL (tosL K zs K) K hs = ftab K (fun j => sumTo (tosL K zs K) hs j K) ∧ leftL (tosL K zs K) K hs = ftab K (leftAt (tosL K zs K) hs) := by
  obtain ⟨a, b⟩ := small_good (zs := zs) hK hl h
  have e := convE_ok a b
  refine ⟨e, ?_, ?_⟩
  · unfold nowL; rw [if_pos e, tosL_length]; simp [ftab]
  · unfold leftL; rw [if_pos e, tosL_length]; rfl

/-- Converting two parts gives at most what converting the whole gives. -/
theorem floor_le (a b d : Int) (hd : 1 ≤ d) : a / d + b / d ≤ (a + b) / d := by
  have h1 : (a / d + b / d) * d ≤ a + b := by
    have ha := Int.ediv_mul_le a (show d ≠ 0 by omega)
    have hb := Int.ediv_mul_le b (show d ≠ 0 by omega)
    rw [Int.add_mul]; omega
  exact (Int.le_ediv_iff_mul_le (by omega)).2 h1
theorem sumTo_parts {ts : List Tr} {n : Int} {hs ps rs : List Int} (hv : validB ts n = true) (j : Int) (hj : 0 ≤ j) (hsum : ∀ i, i < ts.length → wAt ps i + wAt rs i = wAt hs i) :
    ∀ k, k ≤ ts.length → sumTo ts ps j k + sumTo ts rs j k ≤ sumTo ts hs j k := by
  intro k hk
  induction k with
  | zero => simp [sumTo]
  | succ k ih =>
    have h1 := ih (by omega)
    have h2 := hsum k (by omega)
    have h3 := okT_cases (validTo_at hv k (by omega))
    simp only [sumTo]
    by_cases hi : itemAt ts k = j
    · rw [if_pos hi, if_pos hi, if_pos hi]
      have hf := floor_le (wAt ps k) (wAt rs k) (denAt ts k) (by omega)
      rw [h2] at hf
      have hm := Int.mul_le_mul_of_nonneg_right hf (show 0 ≤ numAt ts k by omega)
      rw [Int.add_mul] at hm
      unfold term
      omega
    · rw [if_neg hi, if_neg hi, if_neg hi]; omega

theorem back_term (h d : Int) (hd : 1 ≤ d) : 0 ≤ h % d ∧ h % d < d ∧ (h - h % d) % d = 0 ∧ (h - h % d) / d = h / d := by
  have e : h - h % d = d * (h / d) := by have := Int.mul_ediv_add_emod h d; omega
  refine ⟨Int.emod_nonneg _ (by omega), Int.emod_lt_of_pos _ (by omega), ?_, ?_⟩
  · rw [e]; exact Int.mul_emod_right d (h / d)
  · rw [e]; exact Int.mul_ediv_cancel_left _ (by omega)

end Go.Proofs.YthjfdfdgbpbanaaGreatDoor
