/- The contracts of version.valid and of slices.Clone on numbers. -/
import Derived.Test.YthjfdfdgbpbanaaGreatDoorA6
import Derived.Carry
namespace Go.Proofs.YthjfdfdgbpbanaaGreatDoor
open Go.RowKit

theorem okT_split (n i p q : Int) (hn : 0 ≤ n) :
    (okT n i p q = false ∧ i < -1) ∨ (okT n i p q = false ∧ ¬ i < -1 ∧ n ≤ i) ∨
    (okT n i p q = false ∧ i = -1 ∧ (p != 0) = true) ∨ (okT n i p q = false ∧ i = -1 ∧ (p != 0) = false ∧ (q != 0) = true) ∨ (okT n i p q = true ∧ i = -1 ∧ (p != 0) = false ∧ (q != 0) = false) ∨
    (okT n i p q = false ∧ 0 ≤ i ∧ i < n ∧ p < 1) ∨ (okT n i p q = false ∧ 0 ≤ i ∧ i < n ∧ ¬ p < 1 ∧ 1048576 < p) ∨
    (okT n i p q = false ∧ 0 ≤ i ∧ i < n ∧ ¬ p < 1 ∧ ¬ 1048576 < p ∧ q < 1) ∨ (okT n i p q = false ∧ 0 ≤ i ∧ i < n ∧ ¬ p < 1 ∧ ¬ 1048576 < p ∧ ¬ q < 1 ∧ 1048576 < q) ∨
    (okT n i p q = true ∧ 0 ≤ i ∧ i < n ∧ ¬ p < 1 ∧ ¬ 1048576 < p ∧ ¬ q < 1 ∧ ¬ 1048576 < q) := by
  have F : ¬ ((i = -1 ∧ p = 0 ∧ q = 0) ∨ (0 ≤ i ∧ i < n ∧ 1 ≤ p ∧ p ≤ 1048576 ∧ 1 ≤ q ∧ q ≤ 1048576)) → okT n i p q = false := fun h => decide_eq_false h
  have T : ((i = -1 ∧ p = 0 ∧ q = 0) ∨ (0 ≤ i ∧ i < n ∧ 1 ≤ p ∧ p ≤ 1048576 ∧ 1 ≤ q ∧ q ≤ 1048576)) → okT n i p q = true := fun h => decide_eq_true h
  by_cases a1 : i < -1
  · exact .inl ⟨F (by omega), a1⟩
  by_cases a2 : n ≤ i
  · exact .inr (.inl ⟨F (by omega), a1, a2⟩)
  by_cases a3 : i = -1
  · by_cases b1 : p = 0
    · by_cases b2 : q = 0
      · exact .inr (.inr (.inr (.inr (.inl ⟨T (by omega), a3, by simpa using b1, by simpa using b2⟩))))
      · exact .inr (.inr (.inr (.inl ⟨F (by omega), a3, by simpa using b1, by simpa using b2⟩)))
    · exact .inr (.inr (.inl ⟨F (by omega), a3, by simpa using b1⟩))
  have a4 : 0 ≤ i := by omega
  have a5 : i < n := by omega
  by_cases b1 : p < 1
  · exact .inr (.inr (.inr (.inr (.inr (.inl ⟨F (by omega), a4, a5, b1⟩)))))
  by_cases b2 : 1048576 < p
  · exact .inr (.inr (.inr (.inr (.inr (.inr (.inl ⟨F (by omega), a4, a5, b1, b2⟩))))))
  by_cases b3 : q < 1
  · exact .inr (.inr (.inr (.inr (.inr (.inr (.inr (.inl ⟨F (by omega), a4, a5, b1, b2, b3⟩)))))))
  by_cases b4 : 1048576 < q
  · exact .inr (.inr (.inr (.inr (.inr (.inr (.inr (.inr (.inl ⟨F (by omega), a4, a5, b1, b2, b3, b4⟩))))))))
  exact .inr (.inr (.inr (.inr (.inr (.inr (.inr (.inr (.inr ⟨T (by omega), a4, a5, b1, b2, b3, b4⟩))))))))

set_option maxRecDepth 100000 in
set_option maxHeartbeats 1000000 in
theorem valid_any {w : World} {A : Option Addr} {m : Nat} (c : Nat) {ts : List Tr} (n : Int) (h : TosV w A m ts) (hs : m ≤ 1000000) (hn0 : 0 ≤ n) (hn1 : n ≤ 1000000) :
    Calls Tryz.prog 57 #[.slice A m c, .int .i64 n] w fun e w' => e = .returned (.bool (validB ts n)) ∧ Below w.heap.size w w' := by
  have Hn := Lib.hid h.len
  have H := Lib.hid h
  clear h
  go_enter Tryz.func57, Tryz.ntmps57
  go_wp2_with fail
  go_loopw [9] (fun i wr => ∃ k : Nat, k ≤ m ∧ i = .int .i64 k ∧ validTo ts n k = true ∧ Below w.heap.size w wr) (fun i _ => m - (intOf i).toNat)
  case atStart => exact ⟨0, Nat.zero_le _, rfl, rfl, Below.refl _ _⟩
  case round =>
    obtain ⟨k, hk, rfl, hR, hb⟩ := hrel
    have HR := Lib.hid hR
    have hsz := hb.size
    clear hR
    by_cases hlt : k < m
    · have hkl : k < ts.length := by have := Hn.out; omega
      obtain ⟨b, off, rfl, hbb, hc⟩ := (H.out.below hb).row.at_ 0 (by rw [tcells_length]; omega)
      obtain ⟨t1, t2, t3⟩ := tcells_at ts k hkl
      have c1 := hc _ _ t1
      have c2 := hc _ _ t2
      have c3 := hc _ _ t3
      simp only [← Nat.add_assoc] at c2 c3
      have Hs : Hid (okT n (itemAt ts k) (numAt ts k) (denAt ts k) = true → validTo ts n (k + 1) = true) := fun h => by
        simp only [validTo, HR.out, Bool.true_and]; exact h
      have Hno : Hid (okT n (itemAt ts k) (numAt ts k) (denAt ts k) = false → validB ts n = false) := fun h => validTo_no (k := k) h _ hkl
      have hb2 : Below w.heap.size w (wr.alloc (.cells #[.int .i64 (itemAt ts k), .int .i64 (numAt ts k), .int .i64 (denAt ts k)] 64)) := hb.alloc hsz _
      clear hc t1 t2 t3 hkl
      generalize itemAt ts k = i at *
      generalize numAt ts k = p at *
      generalize denAt ts k = q at *
      rcases okT_split n i p q hn0 with ⟨ho, h1⟩ | ⟨ho, h1, h2⟩ | ⟨ho, rfl, h2⟩ | ⟨ho, rfl, h2, h3⟩ | ⟨ho, rfl, h2, h3⟩ | ⟨ho, h1, h2, h3⟩ | ⟨ho, h1, h2, h3, h4⟩ | ⟨ho, h1, h2, h3, h4, h5⟩ | ⟨ho, h1, h2, h3, h4, h5, h6⟩ | ⟨ho, h1, h2, h3, h4, h5, h6⟩
      all_goals first
        | (have HF := Lib.hid (Hno.out ho)
           clear ho Hs Hno
           go_wp2
           go_ret
           exact ⟨by rw [HF.out]; rfl, hb2⟩)
        | (have HF := Lib.hid (Hs.out ho)
           clear ho Hs Hno
           go_wp2
           go_roundw
           case rel => exact ⟨k + 1, by omega, by go_num, HF.out, hb2⟩
           case measure => simp [intOf]; omega)
    · have hkn : k = ts.length := by have := Hn.out; omega
      rw [hkn] at HR
      clear hkn
      have HT : Hid (validB ts n = true) := HR
      go_wp2
      go_ret
      exact ⟨by rw [HT.out]; rfl, hb⟩

set_option maxRecDepth 100000 in
set_option maxHeartbeats 1000000 in
theorem clone_ints {w : World} {A : Option Addr} {n c : Nat} {zs : List Int} (h : IntsV w A n zs) (hn : n ≤ 1000000) (hA : A = none → n = 0 ∧ c = 0) :
    Calls Tryz.prog 59 #[.slice A n c] w fun e w' => ∃ v, e = .returned v ∧ w'.ownsRow w.heap.size 3 1 v n (ints zs) ∧ Below w.heap.size w w' := by
  obtain ⟨i0, hi, hz0, hz1, hz2⟩ := info_parts info3
  cases A with
  | none =>
    obtain ⟨rfl, rfl⟩ := hA rfl
    have hz : zs = [] := List.eq_nil_of_length_eq_zero h.len.symm
    have Hz := Lib.hid hz
    clear hA h hz
    have hnil : ∀ W : World, (binOp .eql 22 (.slice none 0 0) (.slice none 0 0)).run Tryz.prog W = .ok (.bool true) W := fun W => by kernel_rfl
    go_enter Tryz.func59, Tryz.ntmps59
    go_wp2
    go_ret
    exact ⟨_, rfl, by rw [Hz.out]; exact World.ownsRow_nil _ _ _ _, Below.refl _ _⟩
  | some a =>
    have hnil : ∀ W : World, (binOp .eql 22 (.slice (some a) n c) (.slice none 0 0)).run Tryz.prog W = .ok (.bool false) W := fun W => by kernel_rfl
    have hown : (w.alloc (.cells #[] 3)).ownsRow w.heap.size 3 1 (.slice (some ⟨w.heap.size, 0, none⟩) 0 0) 0 [] :=
      ⟨rfl, .inr ⟨w.heap.size, 0, _, rfl, Nat.le_refl _, heap_alloc_new w _, by omega, by unfold maxLen; omega, rfl, rfl⟩⟩
    have HO := Lib.hid hown
    have hlen : (ints zs).length = n * 1 := by rw [ints_length]; have := h.len; omega
    have HL := Lib.hid hlen
    have hcells : ∀ j u, (ints zs)[j]? = some u → (w.alloc (.cells #[] 3)).cell? (a.add j) = some u := by
      intro j u hj
      have hjl := (List.getElem?_eq_some_iff.1 hj).1
      obtain ⟨b, off, e, hb, hc⟩ := h.row.at_ j hjl
      cases e
      have e1 : (⟨b, off, none⟩ : Addr).add j = ⟨b, off + j, none⟩ := by
        unfold Addr.add; split
        · subst_vars; rfl
        · rfl
      rw [e1, World.cell?_alloc_past _ _ _ hb]
      exact hc j u hj
    have HC := Lib.hid hcells
    clear hown hlen hcells hA h
    go_enter Tryz.func59, Tryz.ntmps59
    go_wp2_with (at_builtin; refine wpList_append_own_at _ rfl _ _ 22 rfl w.heap.size 3 i0 (.int .i64 0) 1 8 Tryz.underlying22 hi hz0 hz1 hz2 rfl (by decide) _ 0 [] rfl HO.out a n c (ints zs) rfl HL.out HC.out ?c2a ?c3a ?c4a ?c5a ?_)
    case c2a =>
      intro u hu
      simp only [ints, List.mem_map] at hu
      obtain ⟨x, _, rfl⟩ := hu
      rfl
    case c3a => unfold maxLen; omega
    case c4a => omega
    case c5a => simp
    intro v' w1 hown' hgrow _ _
    have HO' := Lib.hid hown'
    have hb1 : Below w.heap.size w w1 := ((Below.refl _ w).alloc (Nat.le_refl _) _).grown hgrow (by simp) (fun k e => by cases e; exact Nat.le_refl _)
    clear hown' hgrow
    go_wp2
    go_ret
    exact ⟨_, rfl, by simpa using HO'.out, hb1⟩

end Go.Proofs.YthjfdfdgbpbanaaGreatDoor
