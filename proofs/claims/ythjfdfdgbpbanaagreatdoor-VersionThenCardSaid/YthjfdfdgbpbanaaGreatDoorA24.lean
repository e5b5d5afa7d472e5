/- Clone of items, copies of a catalog of items alone, rewrite of one, and version.Missing. -/
import Derived.Test.YthjfdfdgbpbanaaGreatDoorA22
import Derived.Deep.RegionHeld3
namespace Go.Proofs.YthjfdfdgbpbanaaGreatDoor
open Go.RowKit

theorem info89 : (Tryz.prog.info? 89).map (fun i => (i.zero, i.size, i.bytes)) = some (some (.agg #[.string ⟨#[]⟩, .bool false, .bool false, .bool false, .int .i64 0, .int .i64 0, .int .i64 0]), 7, 48) := by kernel_rfl
theorem icells_one (l : List It) : ∀ u ∈ icells l, u.oneCell' = true := by
  intro u hu
  simp only [icells, List.mem_flatMap, List.mem_cons, List.not_mem_nil, or_false] at hu
  obtain ⟨t, _, h | h | h | h | h | h | h⟩ := hu <;> (subst h; rfl)

set_option maxRecDepth 100000 in
set_option maxHeartbeats 1000000 in
theorem clone_items {w : World} {a : Addr} {n c : Nat} {l : List It} (h : ItemsV w (some a) n l) (hn : n ≤ 1000000) :
    Calls Tryz.prog 50 #[.slice (some a) n c] w (RowPost w 89 7 n (icells l)) := by
  obtain ⟨i0, hi, hz0, hz1, hz2⟩ := info_parts info89
  have hnil : ∀ W : World, (binOp .eql 23 (.slice (some a) n c) (.slice none 0 0)).run Tryz.prog W = .ok (.bool false) W := fun W => by kernel_rfl
  have hown : (w.alloc (.cells #[] 89)).ownsRow w.heap.size 89 7 (.slice (some ⟨w.heap.size, 0, none⟩) 0 0) 0 [] :=
    ⟨rfl, .inr ⟨w.heap.size, 0, _, rfl, Nat.le_refl _, heap_alloc_new w _, by omega, by unfold maxLen; omega, rfl, rfl⟩⟩
  have HO := Lib.hid hown
  have hlen : (icells l).length = n * 7 := by rw [icells_length]; have := h.len; omega
  have HL := Lib.hid hlen
  have hcells : ∀ j u, (icells l)[j]? = some u → (w.alloc (.cells #[] 89)).cell? (a.add j) = some u := by
    intro j u hj
    have hjl := (List.getElem?_eq_some_iff.1 hj).1
    obtain ⟨b, off, e, hb, hc⟩ := h.row.at_ j hjl
    cases e
    have e1 : (⟨b, off, none⟩ : Addr).add j = ⟨b, off + j, none⟩ := by
      unfold Addr.add; split
      · subst_vars; rfl
      · rfl
    rw [e1, World.cell?_alloc_past _ _ _ hb]
    exact hc j u hj
  have HC := Lib.hid hcells
  clear hown hlen hcells h
  go_enter Tryz.func50, Tryz.ntmps50
  go_wp2_with (at_builtin; refine wpList_append_own_at _ rfl _ _ 23 rfl w.heap.size 89 i0 (.agg #[.string ⟨#[]⟩, .bool false, .bool false, .bool false, .int .i64 0, .int .i64 0, .int .i64 0]) 7 48 Tryz.underlying23 hi hz0 hz1 hz2 rfl (by decide) _ 0 [] rfl HO.out a n c (icells l) rfl HL.out HC.out (icells_one l) ?c3a ?c4a ?c5a ?_)
  case c3a => unfold maxLen; omega
  case c4a => omega
  case c5a => simp
  intro v' w1 hown' hgrow _ _
  have HO' := Lib.hid hown'
  have hb1 : Below w.heap.size w w1 := ((Below.refl _ w).alloc (Nat.le_refl _) _).grown hgrow (by simp) (fun k e => by cases e; exact Nat.le_refl _)
  clear hown' hgrow
  go_wp2
  go_ret
  exact ⟨_, rfl, by simpa using HO'.out, hb1⟩

theorem each_nil105 (fv : Value) (w : World) : Calls Tryz.prog 105 #[.slice none 0 0, fv] w fun e w' => e = .returned (.slice none 0 0) ∧ w = w' := by
  go_enter Tryz.func105, Tryz.ntmps105
  go_wp2
  go_ret
  exact ⟨rfl, rfl⟩

theorem each_nil107 (fv : Value) (w : World) : Calls Tryz.prog 107 #[.slice none 0 0, fv] w fun e w' => e = .returned (.slice none 0 0) ∧ w = w' := by
  go_enter Tryz.func107, Tryz.ntmps107
  go_wp2
  go_ret
  exact ⟨rfl, rfl⟩

theorem each_nil109 (fv : Value) (w : World) : Calls Tryz.prog 109 #[.slice none 0 0, fv] w fun e w' => e = .returned (.slice none 0 0) ∧ w = w' := by
  go_enter Tryz.func109, Tryz.ntmps109
  go_wp2
  go_ret
  exact ⟨rfl, rfl⟩

/-- A catalog of items alone, by value: its items in a row of their own. -/
def CatPost (w : World) (n : Nat) (l : List It) (e : Ending) (w' : World) : Prop :=
  ∃ v, e = .returned (.agg #[v, .slice none 0 0, .slice none 0 0, .slice none 0 0]) ∧ w'.ownsRow w.heap.size 89 7 v n (icells l) ∧ Below w.heap.size w w'

end Go.Proofs.YthjfdfdgbpbanaaGreatDoor
