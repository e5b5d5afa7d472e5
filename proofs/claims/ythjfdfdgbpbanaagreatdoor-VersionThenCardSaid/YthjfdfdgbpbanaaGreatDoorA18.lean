/- Items: their cells; the contracts of the tests of package catalog on an item, and of every on items. -/
import Derived.Test.YthjfdfdgbpbanaaGreatDoorA17
namespace Go.Proofs.YthjfdfdgbpbanaaGreatDoor
open Go.RowKit

structure It where
  name : ByteArray
  object : Bool
  mixed : Bool
  coin : Bool
  wear : Int
  bnd : Int
  level : Int
def It.none : It := ⟨⟨#[]⟩, false, false, false, 0, 0, 0⟩
abbrev It.cells (t : It) : List Value := [.string t.name, .bool t.object, .bool t.mixed, .bool t.coin, .int .i64 t.wear, .int .i64 t.bnd, .int .i64 t.level]
abbrev It.val (t : It) : Value := .agg #[.string t.name, .bool t.object, .bool t.mixed, .bool t.coin, .int .i64 t.wear, .int .i64 t.bnd, .int .i64 t.level]
def itAt (l : List It) (k : Nat) : It := l[k]?.getD It.none
def icells (l : List It) : List Value := l.flatMap It.cells
theorem icells_cons (t : It) (l : List It) : icells (t :: l) = t.cells ++ icells l := by simp [icells]
theorem icells_snoc (l : List It) (t : It) : icells (l ++ [t]) = icells l ++ t.cells := by simp [icells]
theorem icells_length (l : List It) : (icells l).length = l.length * 7 := by
  induction l with
  | nil => rfl
  | cons t l ih => rw [icells_cons, List.length_append, ih]; simp; omega
theorem icells_get (l : List It) (k r : Nat) (h : k < l.length) (hr : r < 7) : (icells l)[k * 7 + r]? = (itAt l k).cells[r]? := by
  induction l generalizing k with
  | nil => simp at h
  | cons t l ih =>
    rw [icells_cons]
    cases k with
    | zero => rw [List.getElem?_append_left (by simp; omega)]; simp [itAt]
    | succ k =>
      rw [List.getElem?_append_right (by simp; omega)]
      have e : (k + 1) * 7 + r - t.cells.length = k * 7 + r := by simp; omega
      rw [e, ih k (by simpa using h)]
      simp [itAt]
theorem itAt_cons (t : It) (l : List It) (k : Nat) : itAt (t :: l) (k + 1) = itAt l k := by simp [itAt]
theorem itAt_mem {l : List It} {k : Nat} (h : k < l.length) : itAt l k ∈ l := by simp [itAt, h]

/-- Items in memory. -/
structure ItemsV (w : World) (A : Option Addr) (n : Nat) (l : List It) : Prop where
  row : Row w w.heap.size A (icells l)
  len : n = l.length
  small : n ≤ 1000000
  name : ∀ t ∈ l, PlainName t.name
theorem ItemsV.below {w w' : World} {A : Option Addr} {n : Nat} {l : List It} (h : ItemsV w A n l) (hb : Below w.heap.size w w') : ItemsV w' A n l := ⟨(h.row.below hb).more hb.size, h.len, h.small, h.name⟩
theorem ItemsV.at_ {w : World} {A : Option Addr} {n : Nat} {l : List It} (h : ItemsV w A n l) (k : Nat) (hk : k < n) : ∃ b off, A = some ⟨b, off, none⟩ ∧ b < w.heap.size ∧
    w.cell? ⟨b, off + k * 7, none⟩ = some (.string (itAt l k).name) ∧ w.cell? ⟨b, off + k * 7 + 1, none⟩ = some (.bool (itAt l k).object) ∧ w.cell? ⟨b, off + k * 7 + 2, none⟩ = some (.bool (itAt l k).mixed) ∧
    w.cell? ⟨b, off + k * 7 + 3, none⟩ = some (.bool (itAt l k).coin) ∧ w.cell? ⟨b, off + k * 7 + 4, none⟩ = some (.int .i64 (itAt l k).wear) ∧ w.cell? ⟨b, off + k * 7 + 5, none⟩ = some (.int .i64 (itAt l k).bnd) ∧ w.cell? ⟨b, off + k * 7 + 6, none⟩ = some (.int .i64 (itAt l k).level) := by
  have hl : k < l.length := by have := h.len; omega
  obtain ⟨b, off, hA, hb, hc⟩ := h.row.at_ 0 (by rw [icells_length]; omega)
  have g := fun r hr => icells_get l k r hl hr
  refine ⟨b, off, hA, hb, ?_, ?_, ?_, ?_, ?_, ?_, ?_⟩
  · exact hc _ _ (g 0 (by omega))
  · rw [Nat.add_assoc]; exact hc _ _ (g 1 (by omega))
  · rw [Nat.add_assoc]; exact hc _ _ (g 2 (by omega))
  · rw [Nat.add_assoc]; exact hc _ _ (g 3 (by omega))
  · rw [Nat.add_assoc]; exact hc _ _ (g 4 (by omega))
  · rw [Nat.add_assoc]; exact hc _ _ (g 5 (by omega))
  · rw [Nat.add_assoc]; exact hc _ _ (g 6 (by omega))

def alikeB (a b : It) : Bool := (a.object == b.object) && (a.mixed == b.mixed) && (a.coin == b.coin)
set_option maxHeartbeats 400000 in
theorem alike_any (a b : It) (w : World) : Calls Tryz.prog 45 #[a.val, b.val] w fun e w' => e = .returned (.bool (alikeB a b)) ∧ Below w.heap.size w w' := by
  have hb0 : Below w.heap.size w ((w.alloc (.cells #[.string a.name, .bool a.object, .bool a.mixed, .bool a.coin, .int .i64 a.wear, .int .i64 a.bnd, .int .i64 a.level] 89)).alloc (.cells #[.string b.name, .bool b.object, .bool b.mixed, .bool b.coin, .int .i64 b.wear, .int .i64 b.bnd, .int .i64 b.level] 89)) := ((Below.refl _ _).alloc (Nat.le_refl _) _).alloc (by simp) _
  obtain ⟨n1, o1, m1, c1, w1, b1, l1⟩ := a
  obtain ⟨n2, o2, m2, c2, w2, b2, l2⟩ := b
  have HA : Hid (alikeB ⟨n1, o1, m1, c1, w1, b1, l1⟩ ⟨n2, o2, m2, c2, w2, b2, l2⟩ = ((o1 == o2) && (m1 == m2) && (c1 == c2))) := rfl
  dsimp only at hb0
  cases h1 : (o1 == o2)
  · rw [h1] at HA
    go_enter Tryz.func45, Tryz.ntmps45
    go_wp2
    go_ret
    exact ⟨by rw [HA.out]; rfl, hb0⟩
  · cases h2 : (m1 == m2)
    · rw [h1, h2] at HA
      go_enter Tryz.func45, Tryz.ntmps45
      go_wp2
      go_ret
      exact ⟨by rw [HA.out]; rfl, hb0⟩
    · rw [h1, h2] at HA
      go_enter Tryz.func45, Tryz.ntmps45
      go_wp2
      go_ret
      exact ⟨by rw [HA.out]; rfl, hb0⟩

theorem itname_any (t : It) (w : World) : Calls Tryz.prog 131 #[t.val] w fun e w' => e = .returned (.string t.name) ∧ Below w.heap.size w w' := by
  go_enter Tryz.func131, Tryz.ntmps131
  go_wp2
  go_ret
  exact ⟨rfl, (Below.refl _ _).alloc (Nat.le_refl _) _⟩

def itFitsB (t : It) : Bool := fitsB t.name
set_option maxHeartbeats 400000 in
theorem itfits_any (t : It) (hp : PlainName t.name) (w : World) (hT : Tab w) : Calls Tryz.prog 125 #[t.val] w fun e w' => e = .returned (.bool (itFitsB t)) ∧ Below w.heap.size w w' := by
  have hb0 : Below w.heap.size w (w.alloc (.cells #[.string t.name, .bool t.object, .bool t.mixed, .bool t.coin, .int .i64 t.wear, .int .i64 t.bnd, .int .i64 t.level] 89)) := (Below.refl _ _).alloc (Nat.le_refl _) _
  have HT := Lib.hid (hT.below hb0 hT.1)
  have Hp := Lib.hid hp
  clear hT hp
  go_enter Tryz.func125, Tryz.ntmps125
  go_wp2_with fail
  refine (fits_plain t.name Hp.out _ HT.out).mono ?_
  rintro e w1 ⟨rfl, hb1⟩
  go_wp2
  go_ret
  exact ⟨rfl, hb0.trans (hb1.mono (by simp))⟩

def itFormedB (t : It) : Bool := if t.object then (!t.mixed && !t.coin && decide (0 ≤ t.bnd) && decide (t.bnd ≤ 2)) else (t.wear == 0 && t.bnd == 0 && t.level == 0)
set_option maxHeartbeats 1000000 in
theorem itformed_any (t : It) (w : World) : Calls Tryz.prog 139 #[t.val] w fun e w' => e = .returned (.bool (itFormedB t)) ∧ Below w.heap.size w w' := by
  have hb0 : Below w.heap.size w (w.alloc (.cells #[.string t.name, .bool t.object, .bool t.mixed, .bool t.coin, .int .i64 t.wear, .int .i64 t.bnd, .int .i64 t.level] 89)) := (Below.refl _ _).alloc (Nat.le_refl _) _
  obtain ⟨nm, ob, mi, co, we, bi, le⟩ := t
  dsimp only at hb0
  cases ob
  · by_cases h1 : we = 0
    · have q1 : (we == 0) = true := by simpa using h1
      by_cases h2 : bi = 0
      · have q2 : (bi == 0) = true := by simpa using h2
        have Hf : Hid (itFormedB ⟨nm, false, mi, co, we, bi, le⟩ = (le == 0)) := by show itFormedB _ = _; simp [itFormedB, h1, h2]
        clear h1 h2
        go_enter Tryz.func139, Tryz.ntmps139
        go_wp2
        go_ret
        exact ⟨by rw [Hf.out]; rfl, hb0⟩
      · have q2 : (bi == 0) = false := by simpa using h2
        have Hf : Hid (itFormedB ⟨nm, false, mi, co, we, bi, le⟩ = false) := by show itFormedB _ = _; simp [itFormedB, h2]
        clear h1 h2
        go_enter Tryz.func139, Tryz.ntmps139
        go_wp2
        go_ret
        exact ⟨by rw [Hf.out]; rfl, hb0⟩
    · have q1 : (we == 0) = false := by simpa using h1
      have Hf : Hid (itFormedB ⟨nm, false, mi, co, we, bi, le⟩ = false) := by show itFormedB _ = _; simp [itFormedB, h1]
      clear h1
      go_enter Tryz.func139, Tryz.ntmps139
      go_wp2
      go_ret
      exact ⟨by rw [Hf.out]; rfl, hb0⟩
  · cases mi
    · cases co
      · by_cases h1 : 0 ≤ bi
        · have Hf : Hid (itFormedB ⟨nm, true, false, false, we, bi, le⟩ = decide (bi ≤ 2)) := by show itFormedB _ = _; simp [itFormedB, h1]
          go_enter Tryz.func139, Tryz.ntmps139
          go_wp2
          go_ret
          exact ⟨by rw [Hf.out]; rfl, hb0⟩
        · have Hf : Hid (itFormedB ⟨nm, true, false, false, we, bi, le⟩ = false) := by show itFormedB _ = _; simp [itFormedB, h1]
          have h1' : decide (0 ≤ bi) = false := by simpa using h1
          go_enter Tryz.func139, Tryz.ntmps139
          go_wp2
          go_ret
          exact ⟨by rw [Hf.out]; rfl, hb0⟩
      · go_enter Tryz.func139, Tryz.ntmps139
        go_wp2
        go_ret
        exact ⟨rfl, hb0⟩
    · go_enter Tryz.func139, Tryz.ntmps139
      go_wp2
      go_ret
      exact ⟨rfl, hb0⟩

def itRangeB (t : It) : Bool := (!t.object || (decide (1 ≤ t.wear) && decide (t.wear ≤ 1048576))) && decide (0 ≤ t.level) && decide (t.level ≤ 100)
set_option maxHeartbeats 1000000 in
theorem itrange_any (t : It) (w : World) : Calls Tryz.prog 150 #[t.val] w fun e w' => e = .returned (.bool (itRangeB t)) ∧ Below w.heap.size w w' := by
  have hb0 : Below w.heap.size w (w.alloc (.cells #[.string t.name, .bool t.object, .bool t.mixed, .bool t.coin, .int .i64 t.wear, .int .i64 t.bnd, .int .i64 t.level] 89)) := (Below.refl _ _).alloc (Nat.le_refl _) _
  obtain ⟨nm, ob, mi, co, we, bi, le⟩ := t
  dsimp only at hb0
  have L : ∀ d : Bool, d = decide (0 ≤ le) → itRangeB ⟨nm, ob, mi, co, we, bi, le⟩ = ((!ob || (decide (1 ≤ we) && decide (we ≤ 1048576))) && d && decide (le ≤ 100)) := fun d h => by rw [h]; rfl
  have HL := Lib.hid L
  clear L
  by_cases hl : 0 ≤ le
  · have Hv := Lib.hid (HL.out true (by simp [hl]))
    clear HL
    cases ob
    · go_enter Tryz.func150, Tryz.ntmps150
      go_wp2
      go_ret
      exact ⟨by rw [Hv.out]; simp, hb0⟩
    · by_cases h1 : 1 ≤ we
      · by_cases h2 : we ≤ 1048576
        · go_enter Tryz.func150, Tryz.ntmps150
          go_wp2
          go_ret
          exact ⟨by rw [Hv.out]; simp [h1, h2], hb0⟩
        · have h2' : decide (we ≤ 1048576) = false := by simpa using h2
          go_enter Tryz.func150, Tryz.ntmps150
          go_wp2
          go_ret
          exact ⟨by rw [Hv.out, h2']; simp, hb0⟩
      · have h1' : decide (1 ≤ we) = false := by simpa using h1
        go_enter Tryz.func150, Tryz.ntmps150
        go_wp2
        go_ret
        exact ⟨by rw [Hv.out, h1']; simp, hb0⟩
  · have hl' : decide (0 ≤ le) = false := by simpa using hl
    have Hv := Lib.hid (HL.out false hl'.symm)
    clear HL
    cases ob
    · go_enter Tryz.func150, Tryz.ntmps150
      go_wp2
      go_ret
      exact ⟨by rw [Hv.out]; simp, hb0⟩
    · by_cases h1 : 1 ≤ we
      · by_cases h2 : we ≤ 1048576
        · go_enter Tryz.func150, Tryz.ntmps150
          go_wp2
          go_ret
          exact ⟨by rw [Hv.out]; simp, hb0⟩
        · have h2' : decide (we ≤ 1048576) = false := by simpa using h2
          go_enter Tryz.func150, Tryz.ntmps150
          go_wp2
          go_ret
          exact ⟨by rw [Hv.out]; simp, hb0⟩
      · have h1' : decide (1 ≤ we) = false := by simpa using h1
        go_enter Tryz.func150, Tryz.ntmps150
        go_wp2
        go_ret
        exact ⟨by rw [Hv.out]; simp, hb0⟩

def allTo (f : It → Bool) (l : List It) (k : Nat) : Bool := (l.take k).all f
theorem allTo_succ (f : It → Bool) (l : List It) (k : Nat) (h : k < l.length) : allTo f l (k + 1) = (allTo f l k && f (itAt l k)) := by
  unfold allTo
  rw [List.take_succ_eq_append_getElem h, List.all_append]
  simp [itAt, h]
theorem all_no (f : It → Bool) (l : List It) (k : Nat) (h : k < l.length) (hf : f (itAt l k) = false) : l.all f = false := by
  rw [List.all_eq_false]
  exact ⟨itAt l k, itAt_mem h, by simp [hf]⟩
theorem all_all (f : It → Bool) (l : List It) (n : Nat) (h : n = l.length) : allTo f l n = l.all f := by
  unfold allTo; rw [h, List.take_length]


set_option maxRecDepth 100000 in
set_option maxHeartbeats 1000000 in
theorem every_it125 {w : World} {A : Option Addr} {n : Nat} (c : Nat) {l : List It} (f : It → Bool) (h : ItemsV w A n l)
    (hF : Hid (∀ (t : It) (W : World), t ∈ l → Below w.heap.size w W → Calls Tryz.prog 125 #[t.val] W fun e w' => e = .returned (.bool (f t)) ∧ Below W.heap.size W w')) :
    Calls Tryz.prog 124 #[.slice A n c, .func (.func 125) #[] #[]] w fun e w' => e = .returned (.bool (l.all f)) ∧ Below w.heap.size w w' := by
  have Hn := Lib.hid h.len
  have H := Lib.hid h
  have hs := h.small
  clear h
  go_enter Tryz.func124, Tryz.ntmps124
  go_wp2_with fail
  go_loopw [9] (fun i wr => ∃ k : Nat, k ≤ n ∧ i = .int .i64 k ∧ allTo f l k = true ∧ Below w.heap.size w wr) (fun i _ => n - (intOf i).toNat)
  case atStart => exact ⟨0, Nat.zero_le _, rfl, rfl, Below.refl _ _⟩
  case round =>
    obtain ⟨k, hk, rfl, hR, hb⟩ := hrel
    have HR := Lib.hid hR
    have hsz := hb.size
    clear hR
    by_cases hlt : k < n
    · have hkl : k < l.length := by have := Hn.out; omega
      obtain ⟨b, off, rfl, hbb, c0, c1, c2, c3, c4, c5, c6⟩ := (H.out.below hb).at_ k hlt
      have Hs := Lib.hid (allTo_succ f l k hkl)
      have Hno := Lib.hid (all_no f l k hkl)
      have hmem := itAt_mem hkl
      have hb2 : Below w.heap.size w (wr.alloc (.cells #[.string (itAt l k).name, .bool (itAt l k).object, .bool (itAt l k).mixed, .bool (itAt l k).coin, .int .i64 (itAt l k).wear, .int .i64 (itAt l k).bnd, .int .i64 (itAt l k).level] 89)) := hb.alloc hsz _
      have HC := Lib.hid (hF.out (itAt l k) _ hmem hb2)
      clear hkl hmem
      generalize itAt l k = t at *
      obtain ⟨nm, ob, mi, co, we, bi, le⟩ := t
      dsimp only at *
      go_wp2_with fail
      refine HC.out.mono ?_
      rintro e w1 ⟨rfl, hb1⟩
      have hb3 : Below w.heap.size w w1 := hb2.trans (hb1.mono (by simp; omega))
      clear HC
      cases hq : f ⟨nm, ob, mi, co, we, bi, le⟩
      · have Hq := Lib.hid (Hno.out hq)
        clear hq Hs Hno
        go_wp2
        go_ret
        exact ⟨by rw [Hq.out]; rfl, hb3⟩
      · rw [hq, HR.out] at Hs
        clear hq Hno
        go_wp2
        go_roundw
        case rel => exact ⟨k + 1, by omega, by go_num, Hs.out, hb3⟩
        case measure => simp [intOf]; omega
    · have hkn : k = n := by omega
      have HT : Hid (l.all f = true) := by
        show l.all f = true
        rw [← all_all f l n Hn.out, ← hkn]; exact HR.out
      clear hkn
      go_wp2
      go_ret
      exact ⟨by rw [HT.out]; rfl, hb⟩

set_option maxRecDepth 100000 in
set_option maxHeartbeats 1000000 in
theorem every_it139 {w : World} {A : Option Addr} {n : Nat} (c : Nat) {l : List It} (f : It → Bool) (h : ItemsV w A n l)
    (hF : Hid (∀ (t : It) (W : World), t ∈ l → Below w.heap.size w W → Calls Tryz.prog 139 #[t.val] W fun e w' => e = .returned (.bool (f t)) ∧ Below W.heap.size W w')) :
    Calls Tryz.prog 124 #[.slice A n c, .func (.func 139) #[] #[]] w fun e w' => e = .returned (.bool (l.all f)) ∧ Below w.heap.size w w' := by
  have Hn := Lib.hid h.len
  have H := Lib.hid h
  have hs := h.small
  clear h
  go_enter Tryz.func124, Tryz.ntmps124
  go_wp2_with fail
  go_loopw [9] (fun i wr => ∃ k : Nat, k ≤ n ∧ i = .int .i64 k ∧ allTo f l k = true ∧ Below w.heap.size w wr) (fun i _ => n - (intOf i).toNat)
  case atStart => exact ⟨0, Nat.zero_le _, rfl, rfl, Below.refl _ _⟩
  case round =>
    obtain ⟨k, hk, rfl, hR, hb⟩ := hrel
    have HR := Lib.hid hR
    have hsz := hb.size
    clear hR
    by_cases hlt : k < n
    · have hkl : k < l.length := by have := Hn.out; omega
      obtain ⟨b, off, rfl, hbb, c0, c1, c2, c3, c4, c5, c6⟩ := (H.out.below hb).at_ k hlt
      have Hs := Lib.hid (allTo_succ f l k hkl)
      have Hno := Lib.hid (all_no f l k hkl)
      have hmem := itAt_mem hkl
      have hb2 : Below w.heap.size w (wr.alloc (.cells #[.string (itAt l k).name, .bool (itAt l k).object, .bool (itAt l k).mixed, .bool (itAt l k).coin, .int .i64 (itAt l k).wear, .int .i64 (itAt l k).bnd, .int .i64 (itAt l k).level] 89)) := hb.alloc hsz _
      have HC := Lib.hid (hF.out (itAt l k) _ hmem hb2)
      clear hkl hmem
      generalize itAt l k = t at *
      obtain ⟨nm, ob, mi, co, we, bi, le⟩ := t
      dsimp only at *
      go_wp2_with fail
      refine HC.out.mono ?_
      rintro e w1 ⟨rfl, hb1⟩
      have hb3 : Below w.heap.size w w1 := hb2.trans (hb1.mono (by simp; omega))
      clear HC
      cases hq : f ⟨nm, ob, mi, co, we, bi, le⟩
      · have Hq := Lib.hid (Hno.out hq)
        clear hq Hs Hno
        go_wp2
        go_ret
        exact ⟨by rw [Hq.out]; rfl, hb3⟩
      · rw [hq, HR.out] at Hs
        clear hq Hno
        go_wp2
        go_roundw
        case rel => exact ⟨k + 1, by omega, by go_num, Hs.out, hb3⟩
        case measure => simp [intOf]; omega
    · have hkn : k = n := by omega
      have HT : Hid (l.all f = true) := by
        show l.all f = true
        rw [← all_all f l n Hn.out, ← hkn]; exact HR.out
      clear hkn
      go_wp2
      go_ret
      exact ⟨by rw [HT.out]; rfl, hb⟩

set_option maxRecDepth 100000 in
set_option maxHeartbeats 1000000 in
theorem every_it150 {w : World} {A : Option Addr} {n : Nat} (c : Nat) {l : List It} (f : It → Bool) (h : ItemsV w A n l)
    (hF : Hid (∀ (t : It) (W : World), t ∈ l → Below w.heap.size w W → Calls Tryz.prog 150 #[t.val] W fun e w' => e = .returned (.bool (f t)) ∧ Below W.heap.size W w')) :
    Calls Tryz.prog 124 #[.slice A n c, .func (.func 150) #[] #[]] w fun e w' => e = .returned (.bool (l.all f)) ∧ Below w.heap.size w w' := by
  have Hn := Lib.hid h.len
  have H := Lib.hid h
  have hs := h.small
  clear h
  go_enter Tryz.func124, Tryz.ntmps124
  go_wp2_with fail
  go_loopw [9] (fun i wr => ∃ k : Nat, k ≤ n ∧ i = .int .i64 k ∧ allTo f l k = true ∧ Below w.heap.size w wr) (fun i _ => n - (intOf i).toNat)
  case atStart => exact ⟨0, Nat.zero_le _, rfl, rfl, Below.refl _ _⟩
  case round =>
    obtain ⟨k, hk, rfl, hR, hb⟩ := hrel
    have HR := Lib.hid hR
    have hsz := hb.size
    clear hR
    by_cases hlt : k < n
    · have hkl : k < l.length := by have := Hn.out; omega
      obtain ⟨b, off, rfl, hbb, c0, c1, c2, c3, c4, c5, c6⟩ := (H.out.below hb).at_ k hlt
      have Hs := Lib.hid (allTo_succ f l k hkl)
      have Hno := Lib.hid (all_no f l k hkl)
      have hmem := itAt_mem hkl
      have hb2 : Below w.heap.size w (wr.alloc (.cells #[.string (itAt l k).name, .bool (itAt l k).object, .bool (itAt l k).mixed, .bool (itAt l k).coin, .int .i64 (itAt l k).wear, .int .i64 (itAt l k).bnd, .int .i64 (itAt l k).level] 89)) := hb.alloc hsz _
      have HC := Lib.hid (hF.out (itAt l k) _ hmem hb2)
      clear hkl hmem
      generalize itAt l k = t at *
      obtain ⟨nm, ob, mi, co, we, bi, le⟩ := t
      dsimp only at *
      go_wp2_with fail
      refine HC.out.mono ?_
      rintro e w1 ⟨rfl, hb1⟩
      have hb3 : Below w.heap.size w w1 := hb2.trans (hb1.mono (by simp; omega))
      clear HC
      cases hq : f ⟨nm, ob, mi, co, we, bi, le⟩
      · have Hq := Lib.hid (Hno.out hq)
        clear hq Hs Hno
        go_wp2
        go_ret
        exact ⟨by rw [Hq.out]; rfl, hb3⟩
      · rw [hq, HR.out] at Hs
        clear hq Hno
        go_wp2
        go_roundw
        case rel => exact ⟨k + 1, by omega, by go_num, Hs.out, hb3⟩
        case measure => simp [intOf]; omega
    · have hkn : k = n := by omega
      have HT : Hid (l.all f = true) := by
        show l.all f = true
        rw [← all_all f l n Hn.out, ← hkn]; exact HR.out
      clear hkn
      go_wp2
      go_ret
      exact ⟨by rw [HT.out]; rfl, hb⟩

theorem run_mapHint {P : Program} (t k e : TypeId) (kd : IntKind) (n : Int) (ht : P.underlying t = some (.map k e)) (w : World) :
    (Instr.makeMap t (some (.int kd n))).run P w = .ok (.map (some w.heap.size)) (w.alloc (.map #[] 0)) := by
  simp [Instr.makeMap, run_underlying ht]; rfl


set_option maxHeartbeats 400000 in
theorem every_nil118 (fv : Value) (w : World) : Calls Tryz.prog 118 #[.slice none 0 0, fv] w fun e w' => e = .returned (.bool true) ∧ w = w' := by
  go_enter Tryz.func118, Tryz.ntmps118
  go_wp2
  refine wp_loop_rounds 1 ?_
  rw [rounds_succ]
  go_wp2
  go_ret
  exact ⟨rfl, rfl⟩

set_option maxHeartbeats 400000 in
theorem every_nil120 (fv : Value) (w : World) : Calls Tryz.prog 120 #[.slice none 0 0, fv] w fun e w' => e = .returned (.bool true) ∧ w = w' := by
  go_enter Tryz.func120, Tryz.ntmps120
  go_wp2
  refine wp_loop_rounds 1 ?_
  rw [rounds_succ]
  go_wp2
  go_ret
  exact ⟨rfl, rfl⟩

set_option maxHeartbeats 400000 in
theorem every_nil122 (fv : Value) (w : World) : Calls Tryz.prog 122 #[.slice none 0 0, fv] w fun e w' => e = .returned (.bool true) ∧ w = w' := by
  go_enter Tryz.func122, Tryz.ntmps122
  go_wp2
  refine wp_loop_rounds 1 ?_
  rw [rounds_succ]
  go_wp2
  go_ret
  exact ⟨rfl, rfl⟩

set_option maxHeartbeats 400000 in
theorem differ_nil132 (fv : Value) (w : World) : Calls Tryz.prog 132 #[.slice none 0 0, fv] w fun e w' => e = .returned (.bool true) ∧ Below w.heap.size w w' := by
  have hmm := fun W : World => run_mapHint (P := Tryz.prog) 224 9 4 .i64 0 Tryz.underlying224 W
  go_enter Tryz.func132, Tryz.ntmps132
  go_wp2
  refine wp_loop_rounds 1 ?_
  rw [rounds_succ]
  go_wp2
  go_ret
  exact ⟨rfl, (Below.refl _ _).alloc (Nat.le_refl _) _⟩

set_option maxHeartbeats 400000 in
theorem differ_nil134 (fv : Value) (w : World) : Calls Tryz.prog 134 #[.slice none 0 0, fv] w fun e w' => e = .returned (.bool true) ∧ Below w.heap.size w w' := by
  have hmm := fun W : World => run_mapHint (P := Tryz.prog) 224 9 4 .i64 0 Tryz.underlying224 W
  go_enter Tryz.func134, Tryz.ntmps134
  go_wp2
  refine wp_loop_rounds 1 ?_
  rw [rounds_succ]
  go_wp2
  go_ret
  exact ⟨rfl, (Below.refl _ _).alloc (Nat.le_refl _) _⟩

set_option maxHeartbeats 400000 in
theorem differ_nil136 (fv : Value) (w : World) : Calls Tryz.prog 136 #[.slice none 0 0, fv] w fun e w' => e = .returned (.bool true) ∧ Below w.heap.size w w' := by
  have hmm := fun W : World => run_mapHint (P := Tryz.prog) 224 9 4 .i64 0 Tryz.underlying224 W
  go_enter Tryz.func136, Tryz.ntmps136
  go_wp2
  refine wp_loop_rounds 1 ?_
  rw [rounds_succ]
  go_wp2
  go_ret
  exact ⟨rfl, (Below.refl _ _).alloc (Nat.le_refl _) _⟩

end Go.Proofs.YthjfdfdgbpbanaaGreatDoor
