/- The plain law of VersionThen: where every Den is at most 1, converting by Then is converting twice. -/
import Derived.Test.YthjfdfdgbpbanaaGreatDoorP3
namespace Go.Proofs.YthjfdfdgbpbanaaGreatDoor
open Go.RowKit

theorem then_at (ts us : List Tr) (K i : Nat) (h : i < K) : (thenN ts us K)[i]? = some (thenAt ts us i) := by simp [thenN, h]
theorem then_item (ts us : List Tr) (K i : Nat) (h : i < K) : itemAt (thenN ts us K) i = (thenAt ts us i).1 := by simp [itemAt, then_at _ _ _ _ h]
theorem then_num (ts us : List Tr) (K i : Nat) (h : i < K) : numAt (thenN ts us K) i = (thenAt ts us i).2.1 := by simp [numAt, then_at _ _ _ _ h]
theorem then_den (ts us : List Tr) (K i : Nat) (h : i < K) : denAt (thenN ts us K) i = (thenAt ts us i).2.2 := by simp [denAt, then_at _ _ _ _ h]
theorem fatTo_at {ts us : List Tr} {m : Nat} (h : fatTo ts us m = false) (k : Nat) (hk : k < m) : fatB ts us k = false := by
  cases hf : fatB ts us k
  · rfl
  · have : fatTo ts us (k + 1) = true := by simp [fatTo, hf]
    rw [fatTo_stays this m (by omega)] at h; cases h
theorem thenE_parts {ts us : List Tr} (h : thenE ts us = 0) : thenArg ts us = true ∧ fatTo ts us ts.length = false := by
  unfold thenE at h
  cases h1 : thenArg ts us
  · rw [h1] at h; simp at h
  · cases h2 : fatTo ts us ts.length
    · exact ⟨rfl, rfl⟩
    · rw [h1, h2] at h; simp at h
theorem convE_parts {ts : List Tr} {n : Int} {hs : List Int} (h : convE ts n hs = 0) : argB ts n hs = true ∧ limB ts n hs = true := by
  unfold convE at h
  cases h1 : argB ts n hs
  · rw [h1] at h; simp at h
  · cases h2 : limB ts n hs
    · rw [h1, h2] at h; simp at h
    · exact ⟨rfl, rfl⟩
theorem wAt_set_self (l : List Int) (k : Nat) (x : Int) (h : k < l.length) : wAt (l.set k x) k = x := by simp [wAt, h]
theorem wAt_set_ne (l : List Int) (k i : Nat) (x : Int) (h : k ≠ i) : wAt (l.set k x) i = wAt l i := by simp [wAt, List.getElem?_set_ne h]

/-- One more unit of item m, sent on. -/
theorem sumTo_set {us : List Tr} {F : List Int} {m : Nat} {x d : Int} {j : Int} (hm : m < F.length) (hx : x = wAt F m + d) (hd : itemAt us m = j → denAt us m = 1) :
    ∀ K, sumTo us (F.set m x) j K = sumTo us F j K + if m < K ∧ itemAt us m = j then d * numAt us m else 0 := by
  intro K
  induction K with
  | zero => simp [sumTo]
  | succ K ih =>
    simp only [sumTo]
    rw [ih]
    by_cases e : m = K
    · subst e
      rw [if_neg (show ¬ (m < m ∧ itemAt us m = j) by omega)]
      by_cases hj : itemAt us m = j
      · rw [if_pos hj, if_pos hj, if_pos ⟨by omega, hj⟩]
        simp only [term, wAt_set_self _ _ _ hm, hd hj, Int.ediv_one, hx]
        rw [Int.add_mul]; omega
      · rw [if_neg hj, if_neg hj, if_neg (by intro h; exact hj h.2)]
    · have ht : term us (F.set m x) K = term us F K := by simp [term, wAt_set_ne _ _ _ _ e]
      rw [ht]
      by_cases hc : m < K ∧ itemAt us m = j
      · rw [if_pos hc, if_pos (⟨by omega, hc.2⟩ : m < K + 1 ∧ itemAt us m = j)]; omega
      · rw [if_neg hc, if_neg (fun h : m < K + 1 ∧ itemAt us m = j => hc ⟨by omega, h.2⟩)]; omega

/-- A live counterpart where every Den is 1. -/
theorem then_live {ts us : List Tr} {i : Nat} (hA : thenArg ts us = true) (hi : i < ts.length) (d1 : denAt ts i ≤ 1) (d2 : ∀ k, k < us.length → denAt us k ≤ 1) (hl : liveB ts us i = true) :
    thenAt ts us i = (itemAt us (midAt ts i), numAt ts i * numAt us (midAt ts i), 1) ∧ denAt ts i = 1 ∧ denAt us (midAt ts i) = 1 := by
  have h := hl
  simp only [liveB, Bool.and_eq_true, decide_eq_true_eq] at h
  obtain ⟨hm, hit, hc⟩ := live_facts hA hi h.1
  rcases hc with hc | ⟨_, _, _, _, q0, _, _, _, s0, _⟩
  · omega
  have e1 : denAt ts i = 1 := by omega
  have e2 : denAt us (midAt ts i) = 1 := by have := d2 _ hm; omega
  refine ⟨?_, e1, e2⟩
  have hq : qAt ts us i = 1 := by simp [qAt, e1, e2]
  have hg : gAt ts us i = 1 := by simp [gAt, hq]
  simp only [thenAt, hl, if_true, hq, hg, Int.ediv_one]
  rfl

theorem then_sum {ts us : List Tr} {hs : List Int} (hA : thenArg ts us = true) (d1 : ∀ i, i < ts.length → denAt ts i ≤ 1) (d2 : ∀ i, i < us.length → denAt us i ≤ 1) (j : Nat) :
    ∀ k, k ≤ ts.length → sumTo us (nowK ts hs us.length k) j us.length = sumTo (thenN ts us ts.length) hs j k := by
  intro k hk
  induction k with
  | zero =>
    rw [nowK_zero]
    have : ∀ K, sumTo us (List.replicate us.length 0) (j : Int) K = 0 := by
      intro K
      induction K with
      | zero => rfl
      | succ K ih =>
        simp only [sumTo, ih, term]
        have : wAt (List.replicate us.length 0) K = 0 := by
          simp only [wAt, List.getElem?_replicate]; split <;> rfl
        rw [this]; simp
    rw [this]; rfl
  | succ k ih =>
    have ihk := ih (by omega)
    have hkl : k < ts.length := by omega
    simp only [sumTo]
    rw [← ihk, then_item _ _ _ _ hkl]
    by_cases hneg : itemAt ts k < 0
    · rw [nowK_skip _ _ _ _ hneg]
      have hl : liveB ts us k = false := by simp [liveB]; omega
      simp only [thenAt, hl]
      simp
    · obtain ⟨hm, hit, hc⟩ := live_facts hA hkl (show 0 ≤ itemAt ts k by omega)
      rw [← nowK_step ts hs us.length k (midAt ts k) hit hm]
      have hd : itemAt us (midAt ts k) = (j : Int) → denAt us (midAt ts k) = 1 := fun e => by
        rcases hc with hc | ⟨_, _, _, _, _, _, _, _, s0, _⟩
        · omega
        · have := d2 _ hm; omega
      rw [sumTo_set (d := term ts hs k) (by simpa using hm) (by rw [wAt, nowK_at _ _ _ _ _ hm]; rfl) hd]
      by_cases hj : itemAt us (midAt ts k) = j
      · have hl : liveB ts us k = true := by simp [liveB]; omega
        obtain ⟨e, e1, e2⟩ := then_live hA hkl (d1 _ hkl) d2 hl
        have e3 : (thenAt ts us k).1 = (j : Int) := by rw [e]; exact hj
        rw [if_pos ⟨hm, hj⟩, if_pos e3]
        simp only [term, then_num _ _ _ _ hkl, then_den _ _ _ _ hkl]
        rw [e, e1]
        simp only [Int.ediv_one, Int.mul_assoc]
      · rw [if_neg (fun h => hj h.2)]
        rw [if_neg]
        simp only [thenAt]
        split
        · exact hj
        · simp

theorem then_valid {ts us : List Tr} {n2 : Int} (hT : thenE ts us = 0) (d1 : ∀ i, i < ts.length → denAt ts i ≤ 1) (d2 : ∀ i, i < us.length → denAt us i ≤ 1) (hv : validB us n2 = true) : validB (thenN ts us ts.length) n2 = true := by
  obtain ⟨hA, hF⟩ := thenE_parts hT
  unfold validB
  rw [thenN_length]
  refine validTo_mk fun k hk => ?_
  unfold okAt
  rw [then_item _ _ _ _ hk, then_num _ _ _ _ hk, then_den _ _ _ _ hk]
  cases hl : liveB ts us k
  · simp [thenAt, hl, okT]
  · obtain ⟨e, e1, e2⟩ := then_live hA hk (d1 _ hk) d2 hl
    have hf := fatTo_at hF k hk
    have h := hl
    simp only [liveB, Bool.and_eq_true, decide_eq_true_eq] at h
    obtain ⟨hm, hit, hc⟩ := live_facts hA hk h.1
    have ho := okT_cases (validTo_at hv _ hm)
    rcases hc with hc | ⟨_, _, p0, p1, _, _, r0, r1, _, _⟩
    · omega
    have hp := prod_bd2 p0 p1 r0 r1
    have hq : qAt ts us k = 1 := by simp [qAt, e1, e2]
    have hg : gAt ts us k = 1 := by simp [gAt, hq]
    simp only [fatB, hl, Bool.true_and, hg, Int.ediv_one, Bool.or_eq_false_iff, decide_eq_false_iff_not] at hf
    have hpp : pAt ts us k = numAt ts k * numAt us (midAt ts k) := rfl
    rw [hpp] at hf
    rw [e]
    simp only [okT, decide_eq_true_eq]
    right
    omega

theorem then_law {ts us : List Tr} {hs : List Int} {n2 : Int} (d1 : ∀ i, i < ts.length → denAt ts i ≤ 1) (d2 : ∀ i, i < us.length → denAt us i ≤ 1)
    (hT : thenE ts us = 0) (hC : convE ts us.length hs = 0) (hD : convE us n2 (nowL ts us.length hs) = 0) :
    convE (thenL ts us) n2 hs = 0 ∧ nowL (thenL ts us) n2 hs = nowL us n2 (nowL ts us.length hs) := by
  obtain ⟨hA, hF⟩ := thenE_parts hT
  obtain ⟨a1, _⟩ := convE_parts hC
  obtain ⟨a2, l2⟩ := convE_parts hD
  have hN : nowL ts us.length hs = nowK ts hs us.length ts.length := by unfold nowL; rw [if_pos hC]; rfl
  have hTL : thenL ts us = thenN ts us ts.length := by unfold thenL; rw [if_pos hT]
  have hsum : ∀ j : Nat, sumTo (thenN ts us ts.length) hs j ts.length = sumTo us (nowL ts us.length hs) j us.length := fun j => by
    rw [hN]; exact (then_sum hA d1 d2 j ts.length (Nat.le_refl _)).symm
  rw [hTL]
  simp only [argB, Bool.and_eq_true, decide_eq_true_eq] at a1 a2
  have hv := then_valid hT d1 d2 a2.1.1.2
  have harg : argB (thenN ts us ts.length) n2 hs = true := by
    simp only [argB, Bool.and_eq_true, decide_eq_true_eq]
    exact ⟨⟨⟨a2.1.1.1, hv⟩, by rw [thenN_length]; exact a1.1.2⟩, a1.2⟩
  have hlim : limB (thenN ts us ts.length) n2 hs = true := by
    simp only [limB, decide_eq_true_eq] at l2 ⊢
    intro j hj
    rw [thenN_length, hsum]
    exact l2 j hj
  have h0 := convE_ok harg hlim
  refine ⟨h0, ?_⟩
  unfold nowL
  rw [if_pos h0, if_pos hC, if_pos (by simpa [nowL, hC] using hD)]
  apply List.map_congr_left
  intro j _
  rw [thenN_length, hsum j]
  unfold nowL
  rw [if_pos hC]

end Go.Proofs.YthjfdfdgbpbanaaGreatDoor
