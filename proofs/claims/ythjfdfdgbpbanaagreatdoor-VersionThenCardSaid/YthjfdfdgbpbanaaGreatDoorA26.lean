/- What version.Merge does to items, its memory; rewrite on a catalog of items alone. -/
import Derived.Test.YthjfdfdgbpbanaaGreatDoorA25
namespace Go.Proofs.YthjfdfdgbpbanaaGreatDoor
open Go.RowKit

set_option maxRecDepth 100000 in
set_option maxHeartbeats 1000000 in
theorem rewrite_items {w : World} {a : Addr} {n : Nat} (c : Nat) {l : List It} (h : ItemsV w (some a) n l) (Ai : Option Addr) (ni ci F : Nat) (p : Value) :
    Calls Tryz.prog 51 #[catV (some a) n c, .slice Ai ni ci, .func (.func F) #[] #[p]] w fun e w' => e = .returned (.agg #[.slice Ai ni ci, .slice none 0 0, .slice none 0 0, .slice none 0 0]) ∧ Below w.heap.size w w' := by
  have hb0 : Below w.heap.size w (((w.alloc (catO (some a) n c)).alloc (.cells #[.func (.func F) #[] #[p]] 100)).alloc (.cells #[.slice none 0 0, .slice none 0 0, .slice none 0 0, .slice none 0 0] 28)) := (((Below.refl _ _).alloc (Nat.le_refl _) _).alloc (by simp) _).alloc (by simp; omega) _
  have KC := Lib.hid (copies_items c (h.below hb0))
  have k2 := Bk.new ((w.alloc (catO (some a) n c)).alloc (.cells #[.func (.func F) #[] #[p]] 100)) 28 [.slice none 0 0, .slice none 0 0, .slice none 0 0, .slice none 0 0]
  rw [World.size_alloc, World.size_alloc] at k2
  have HK2 := Lib.hid k2
  clear h k2
  go_enter Tryz.func51, Tryz.ntmps51
  go_wp2_with fail
  refine KC.out.mono ?_
  rintro e w1 ⟨v, rfl, ho, hb1⟩
  obtain ⟨Av, cv, rfl, _, _, _⟩ := row_form ho
  have G1 : Below w.heap.size w w1 := hb0.trans (hb1.mono (by simp; omega))
  have k3 := HK2.out.below hb1 (by simp)
  have z0 : w1.cell? ⟨w.heap.size + 1 + 1, 0, none⟩ = some (.slice none 0 0) := k3.cell 0
  have z1 : w1.cell? ⟨w.heap.size + 1 + 1, 1, none⟩ = some (.slice none 0 0) := k3.cell 1
  have z2 : w1.cell? ⟨w.heap.size + 1 + 1, 2, none⟩ = some (.slice none 0 0) := k3.cell 2
  have z3 : w1.cell? ⟨w.heap.size + 1 + 1, 3, none⟩ = some (.slice none 0 0) := k3.cell 3
  have f0 : w1.frozen? ⟨w.heap.size + 1 + 1, 0, none⟩ = false := k3.frozen 0
  have f1 : w1.frozen? ⟨w.heap.size + 1 + 1, 1, none⟩ = false := k3.frozen 1
  have f2 : w1.frozen? ⟨w.heap.size + 1 + 1, 2, none⟩ = false := k3.frozen 2
  have f3 : w1.frozen? ⟨w.heap.size + 1 + 1, 3, none⟩ = false := k3.frozen 3
  have zl : w.heap.size + 1 + 1 < w1.heap.size := k3.lt
  have hne : w.heap.size + 1 + 1 ≠ w1.heap.size := by omega
  have HK3 := Lib.hid k3
  clear ho hb1 hb0 KC HK2 k3
  go_wp2_with fail
  refine wp_loop_rounds 1 ?_
  rw [rounds_succ]
  go_wp2_with fail
  refine wp_loop_rounds 1 ?_
  rw [rounds_succ]
  go_wp2_with fail
  have k9 := ((((HK3.out.set 0 (.slice Ai ni ci)).set 1 (.slice none 0 0)).set 2 (.slice none 0 0)).set 3 (.slice none 0 0)).alloc (.cells #[.slice Ai ni ci, .slice none 0 0, .slice none 0 0, .slice none 0 0] 28)
  have r0 := k9.cell 0
  have r1 := k9.cell 1
  have r2 := k9.cell 2
  have r3 := k9.cell 3
  refine bodyPost_ret (v := .agg #[.slice Ai ni ci, .slice none 0 0, .slice none 0 0, .slice none 0 0]) (by simp [results, Tryz.results51, go_sem, r0, r1, r2, r3]) rfl ⟨rfl, ?_⟩
  refine ((((G1.setCell (p := ⟨w.heap.size + 1 + 1, 0, none⟩) (by simp; omega) _).setCell (p := ⟨w.heap.size + 1 + 1, 1, none⟩) (by simp; omega) _).setCell (p := ⟨w.heap.size + 1 + 1, 2, none⟩) (by simp; omega) _).setCell (p := ⟨w.heap.size + 1 + 1, 3, none⟩) (by simp; omega) _).alloc ?_ _
  have := G1.size
  simpa [World.setCell] using this

/-- The item that Merge puts in the place of an old one. -/
def mergeIt (ln : List It) (t : It) : It := match idxTo ln ln.length t.name with | some b => itAt ln b | none => t
def mergeTo (lo ln : List It) (k : Nat) : List It := (List.range lo.length).map fun i => if i < k then mergeIt ln (itAt lo i) else itAt lo i
@[simp] theorem mergeTo_length (lo ln : List It) (k : Nat) : (mergeTo lo ln k).length = lo.length := by simp [mergeTo]
theorem itAt_merge (lo ln : List It) (k i : Nat) (hi : i < lo.length) : itAt (mergeTo lo ln k) i = if i < k then mergeIt ln (itAt lo i) else itAt lo i := by simp [itAt, mergeTo, hi]
theorem it_ext {l m : List It} (hl : l.length = m.length) (h : ∀ i, i < l.length → itAt l i = itAt m i) : l = m := by
  apply List.ext_getElem?
  intro i
  by_cases hi : i < l.length
  · have := h i hi
    simp only [itAt, List.getElem?_eq_getElem hi, List.getElem?_eq_getElem (show i < m.length by omega), Option.getD_some] at this
    rw [List.getElem?_eq_getElem hi, List.getElem?_eq_getElem (by omega), this]
  · rw [List.getElem?_eq_none (by omega), List.getElem?_eq_none (by omega)]
theorem mergeTo_zero (lo ln : List It) : mergeTo lo ln 0 = lo := it_ext (by simp) fun i hi => by rw [itAt_merge _ _ _ _ (by simpa using hi), if_neg (by omega)]
theorem itAt_set (l : List It) (k i : Nat) (t : It) (hk : k < l.length) : itAt (l.set k t) i = if i = k then t else itAt l i := by
  by_cases e : i = k
  · subst e; simp [itAt, hk]
  · rw [if_neg e]
    simp only [itAt]
    rw [List.getElem?_set_ne (fun h => e h.symm)]
theorem mergeTo_set (lo ln : List It) (k : Nat) (hk : k < lo.length) : (mergeTo lo ln k).set k (mergeIt ln (itAt lo k)) = mergeTo lo ln (k + 1) := by
  refine it_ext (by simp) fun i hi => ?_
  have hi' : i < lo.length := by simpa using hi
  rw [itAt_set _ _ _ _ (by simpa using hk), itAt_merge _ _ _ _ hi', itAt_merge _ _ _ _ hi']
  by_cases e : i = k
  · subst e; rw [if_pos rfl, if_pos (by omega)]
  · rw [if_neg e]
    by_cases h2 : i < k
    · rw [if_pos h2, if_pos (by omega)]
    · rw [if_neg h2, if_neg (by omega)]
theorem mergeTo_skip (lo ln : List It) (k : Nat) (hk : k < lo.length) (h : mergeIt ln (itAt lo k) = itAt lo k) : mergeTo lo ln k = mergeTo lo ln (k + 1) := by
  refine it_ext (by simp) fun i hi => ?_
  have hi' : i < lo.length := by simpa using hi
  rw [itAt_merge _ _ _ _ hi', itAt_merge _ _ _ _ hi']
  by_cases e : i = k
  · subst e; rw [if_neg (by omega), if_pos (by omega), h]
  · by_cases h2 : i < k
    · rw [if_pos h2, if_pos (by omega)]
    · rw [if_neg h2, if_neg (by omega)]
/-- The items of the new version that the old one lacks, among the first k. -/
def newTo (lo ln : List It) : Nat → List It
  | 0 => []
  | k + 1 => if (idxTo lo lo.length (itAt ln k).name).isSome then newTo lo ln k else newTo lo ln k ++ [itAt ln k]
def placeAt (lo ln : List It) (k : Nat) : Int := match idxTo lo lo.length (itAt ln k).name with | some a => (a : Int) | none => ((lo.length + (newTo lo ln k).length : Nat) : Int)
def mergeL (lo ln : List It) (k : Nat) : List It := mergeTo lo ln lo.length ++ newTo lo ln k
def mergeE (lo ln : List It) : Nat → Int
  | 0 => 0
  | k + 1 => if mergeE lo ln k ≠ 0 then mergeE lo ln k else keepErr ln (itAt lo k)

theorem icells_set (l : List It) (k : Nat) (t : It) (h : k < l.length) : icells (l.set k t) = (((((((icells l).set (k * 7) (.string t.name)).set (k * 7 + 1) (.bool t.object)).set (k * 7 + 2) (.bool t.mixed)).set (k * 7 + 3) (.bool t.coin)).set (k * 7 + 4) (.int .i64 t.wear)).set (k * 7 + 5) (.int .i64 t.bnd)).set (k * 7 + 6) (.int .i64 t.level) := by
  induction l generalizing k with
  | nil => simp at h
  | cons a l ih =>
    cases k with
    | zero => simp [icells]
    | succ k =>
      have := ih k (by simpa using h)
      have e : (k + 1) * 7 = k * 7 + 1 + 1 + 1 + 1 + 1 + 1 + 1 := by omega
      rw [List.set_cons_succ, icells_cons, this, icells_cons, e]
      simp [List.set_cons_succ]

end Go.Proofs.YthjfdfdgbpbanaaGreatDoor
