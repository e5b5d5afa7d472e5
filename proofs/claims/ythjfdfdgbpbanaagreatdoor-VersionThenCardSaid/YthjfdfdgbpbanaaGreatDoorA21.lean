/- The contract of version.names. -/
import Derived.Test.YthjfdfdgbpbanaaGreatDoorA20
namespace Go.Proofs.YthjfdfdgbpbanaaGreatDoor
open Go.RowKit

/-- A slice's value. -/
structure Sl where
  A : Option Addr
  n : Nat
  c : Nat
abbrev Sl.v (s : Sl) : Value := .slice s.A s.n s.c
/-- A catalog's value. -/
abbrev catS (i r t x : Sl) : Value := .agg #[.slice i.A i.n i.c, .slice r.A r.n r.c, .slice t.A t.n t.c, .slice x.A x.n x.c]
abbrev catSL (i r t x : Sl) : List Value := [.slice i.A i.n i.c, .slice r.A r.n r.c, .slice t.A t.n t.c, .slice x.A x.n x.c]
abbrev catSO (i r t x : Sl) : Obj := .cells #[.slice i.A i.n i.c, .slice r.A r.n r.c, .slice t.A t.n t.c, .slice x.A x.n x.c] 28

/-- The index of the last of the first k items with a name. -/
def idxTo (l : List It) : Nat → ByteArray → Option Nat
  | 0, _ => none
  | k + 1, s => if s = (itAt l k).name then some k else idxTo l k s
theorem idxTo_lt {l : List It} {k : Nat} {s : ByteArray} {i : Nat} (h : idxTo l k s = some i) : i < k ∧ (itAt l i).name = s := by
  induction k with
  | zero => simp [idxTo] at h
  | succ k ih =>
    simp only [idxTo] at h
    split at h
    · rename_i e
      cases h
      exact ⟨by omega, e.symm⟩
    · have := ih h
      exact ⟨by omega, this.2⟩

theorem Row.grownM {w w' : World} {b n B : Nat} {M : ByteArray → Option Nat} {A : Option Addr} {xs : List Value} (h : Row w B A xs) (hm : MapI w b n M) (hg : w.grownBy w' (some b)) : Row w' B A xs := by
  rcases h with rfl | ⟨b', off, rfl, hb, hc⟩
  · exact .inl rfl
  · refine .inr ⟨b', off, rfl, hb, fun j u hu => ?_⟩
    have h := hc j u hu
    have hne : b' ≠ b := by
      intro e
      obtain ⟨D, ⟨es, clock, hb, _⟩, _⟩ := hm
      rw [← e] at hb
      simp [World.cell?, hb] at h
    have hlt : b' < w.heap.size := by
      rcases Nat.lt_or_ge b' w.heap.size with h1 | h1
      · exact h1
      · simp [World.cell?, Array.getElem?_eq_none h1] at h
    exact (World.cell?_of_block (w := w) (hg.block b' hlt (fun e => hne (Option.some.inj e)))).trans h

def NamesPost (w : World) (l : List It) (n : Nat) (e : Ending) (w' : World) : Prop := ∃ b, e = .returned (.map (some b)) ∧ MapI w' b n (idxTo l n) ∧ w.heap.size ≤ b ∧ Below w.heap.size w w'

set_option maxRecDepth 100000 in
set_option maxHeartbeats 1000000 in
theorem names_any {w : World} {i r t x : Sl} {l : List It} (h : ItemsV w i.A i.n l) : Calls Tryz.prog 44 #[catS i r t x] w (NamesPost w l i.n) := by
  obtain ⟨A, n, c⟩ := i
  dsimp only at *
  have hmm := fun W : World => run_mapHint (P := Tryz.prog) 91 9 3 .i64 n Tryz.underlying91 W
  have Hn := Lib.hid h.len
  have H := Lib.hid h
  have hs := h.small
  clear h
  go_enter Tryz.func44, Tryz.ntmps44
  go_wp2_with fail
  have Hm0 := MapI.made (w.alloc (catSO ⟨A, n, c⟩ r t x))
  rw [World.size_alloc] at Hm0
  have HM0 := Lib.hid Hm0
  have hB0 : Below w.heap.size w ((w.alloc (catSO ⟨A, n, c⟩ r t x)).alloc (.map #[] 0)) := ((Below.refl _ _).alloc (Nat.le_refl _) _).alloc (by simp) _
  clear Hm0
  go_loopw [13] (fun i wr => ∃ k : Nat, k ≤ n ∧ i = .int .i64 k ∧ MapI wr (w.heap.size + 1) k (idxTo l k) ∧ Below w.heap.size w wr) (fun i _ => n - (intOf i).toNat)
  case atStart => exact ⟨0, Nat.zero_le _, rfl, HM0.out, hB0⟩
  case round =>
    obtain ⟨k, hk, rfl, hm, hb⟩ := hrel
    have HM := Lib.hid hm
    have hsz := hb.size
    clear hm hmm HM0
    by_cases hlt : k < n
    · have hkl : k < l.length := by have := Hn.out; omega
      obtain ⟨b, off, rfl, hbb, c0, c1, c2, c3, c4, c5, c6⟩ := (H.out.below hb).at_ k hlt
      have hpm := plain_max (H.out.name _ (itAt_mem hkl))
      have hb2 : Below w.heap.size w (wr.alloc (.cells #[.string (itAt l k).name, .bool (itAt l k).object, .bool (itAt l k).mixed, .bool (itAt l k).coin, .int .i64 (itAt l k).wear, .int .i64 (itAt l k).bnd, .int .i64 (itAt l k).level] 89)) := hb.alloc hsz _
      have HT : Hid (idxTo l (k + 1) = fun s => if s = (itAt l k).name then some k else idxTo l k s) := rfl
      have HM2 := HM.out.below ((Below.refl _ wr).alloc (Nat.le_refl _) (.cells #[.string (itAt l k).name, .bool (itAt l k).object, .bool (itAt l k).mixed, .bool (itAt l k).coin, .int .i64 (itAt l k).wear, .int .i64 (itAt l k).bnd, .int .i64 (itAt l k).level] 89))
      obtain ⟨w3, hrun, hM4, hg4⟩ := HM2.put hpm k (by omega) (by omega)
      have hb5 : Below w.heap.size w w3 := hb2.grown hg4 (by simp; omega) (fun g e => by cases e; omega)
      have HM4 := Lib.hid hM4
      clear hkl HM HM2 hM4 hg4
      generalize itAt l k = t at *
      obtain ⟨nm, ob, mi, co, we, bi, le⟩ := t
      dsimp only at *
      go_wp2
      go_roundw
      case rel => exact ⟨k + 1, by omega, by go_num, by rw [HT.out]; exact HM4.out, hb5⟩
      case measure => simp [intOf]; omega
    · obtain rfl : k = n := by omega
      go_wp2
      go_ret
      exact ⟨_, rfl, HM.out, by omega, hb⟩

end Go.Proofs.YthjfdfdgbpbanaaGreatDoor
