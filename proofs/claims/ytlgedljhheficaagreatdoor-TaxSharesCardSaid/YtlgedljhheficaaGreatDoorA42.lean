/- Contracts of the reference's names, in and lists on a catalog that has one tax and nothing else. -/
import Derived.Test.YtlgedljhheficaaGreatDoorA12
import Derived.Maps.AppendAt
namespace Go.Proofs.YtlgedljhheficaaGreatDoor
open Go.RowKit

theorem info9 : (Tryz.prog.info? 9).map (fun i => (i.zero, i.size, i.bytes)) = some (some (.string ⟨#[]⟩), 1, 16) := by kernel_rfl

set_option maxRecDepth 100000 in
set_option maxHeartbeats 1000000 in
theorem in_empty (A : Option Addr) (c : Nat) (s : ByteArray) (w : World) : Calls Tryz.prog 61 #[.slice A 0 c, .string s] w fun e w' => e = .returned (.bool false) ∧ w = w' := by
  go_enter Tryz.func61, Tryz.ntmps61
  go_wp2
  refine wp_loop_rounds 1 ?_
  rw [rounds_succ]
  go_wp2
  go_ret
  exact ⟨rfl, rfl⟩

set_option maxRecDepth 100000 in
set_option maxHeartbeats 1000000 in
theorem lists_one (g : Nat) (w : World) : Calls Tryz.prog 66 #[catV g] w fun e w' => e = .returned (.slice none 0 0) ∧ Below w.heap.size w w' := by
  have hb0 : Below w.heap.size w (w.alloc (catO g)) := (Below.refl _ _).alloc (Nat.le_refl _) _
  go_enter Tryz.func66, Tryz.ntmps66
  go_wp2
  refine wp_loop_rounds 1 ?_
  rw [rounds_succ]
  go_wp2
  refine wp_loop_rounds 1 ?_
  rw [rounds_succ]
  go_wp2
  go_ret
  exact ⟨rfl, hb0⟩

/-- What names returns: four lists, of which the last one has one name. -/
def NamesPost (w : World) (nm : ByteArray) (e : Ending) (w' : World) : Prop :=
  ∃ g h c, e = .returned (.slice (some ⟨g, 0, none⟩) 4 4) ∧ g < w'.heap.size ∧ h < w'.heap.size ∧ w'.cell? ⟨g, 0, none⟩ = some (.slice none 0 0) ∧ w'.cell? ⟨g, 1, none⟩ = some (.slice none 0 0) ∧ w'.cell? ⟨g, 2, none⟩ = some (.slice none 0 0) ∧ w'.cell? ⟨g, 3, none⟩ = some (.slice (some ⟨h, 0, none⟩) 1 c) ∧ 1 ≤ c ∧
    w'.cell? ⟨h, 0, none⟩ = some (.string nm) ∧ Below w.heap.size w w'

set_option maxRecDepth 100000 in
set_option maxHeartbeats 2000000 in
theorem names_list {w : World} {g : Nat} {nm : ByteArray} (hg : g < w.heap.size) (h0 : w.cell? ⟨g, 0, none⟩ = some (.string nm)) :
    Calls Tryz.prog 59 #[catV g] w (NamesPost w nm) := by
  obtain ⟨i0, hinf, hz0, hz1, hz2⟩ := info_parts info9
  go_enter Tryz.func59, Tryz.ntmps59
  go_wp2
  refine wp_loop_rounds 1 ?_
  rw [rounds_succ]
  go_wp2
  refine wp_loop_rounds 1 ?_
  rw [rounds_succ]
  go_wp2
  refine wp_loop_rounds 1 ?_
  rw [rounds_succ]
  go_wp2
  refine wp_loop_rounds 2 ?_
  rw [rounds_succ]
  go_wp2_with (at_builtin; refine wpList_append_own_at _ rfl _ _ 104 rfl w.heap.size 9 i0 (.string ⟨#[]⟩) 1 16 Tryz.underlying104 hinf hz0 hz1 hz2 rfl (by decide) _ 0 [] rfl (World.ownsRow_nil _ _ _ _) ⟨w.heap.size + 1, 0, none⟩ 1 1 [.string nm] rfl rfl ?c1 ?c2 ?c3 ?c4 ?c5 ?_)
  case c1 =>
    intro j u hj
    match j, hj with
    | 0, hj => simp at hj; subst hj; simp [Addr.add]
    | j + 1, hj => simp at hj
  case c2 =>
    intro u hu
    simp only [List.mem_cons, List.not_mem_nil, or_false] at hu
    rcases hu with rfl; rfl
  case c3 => unfold maxLen; omega
  case c4 => omega
  case c5 => simp; omega
  intro v' w1 hown hgrow _ _
  have hB : Below w.heap.size w w1 := (((Below.refl _ w).alloc (Nat.le_refl _) _).alloc (by simp) _).grown hgrow (by simp; omega) (fun k e => by cases e)
  have hbb : w1.heap[w.heap.size]? = some (catO g) := by
    have := hgrow.block w.heap.size (by simp; omega) (by simp [Value.ownBlock])
    rw [this, Below.heap_alloc _ _ _ (by simp)]
    exact heap_alloc_new w _
  have hex : ∃ g c, v' = .slice (some ⟨g, 0, none⟩) 1 c ∧ g < w1.heap.size ∧ 1 ≤ c := by
    rcases hown.2 with ⟨_, h0⟩ | ⟨g, cap, cur, rfl, _, hg, hc, _⟩
    · simp at h0
    · exact ⟨_, _, rfl, (Array.getElem?_eq_some_iff.1 hg).1, by simpa using hc⟩
  obtain ⟨h, c, rfl, hh, hc⟩ := hex
  have c0 := hown.cellAt 0 (by decide)
  simp at c0
  have b3 : w1.cell? ⟨w.heap.size, 3, none⟩ = some (.slice (some ⟨g, 0, none⟩) 1 1) := by simp [World.cell?, hbb]
  clear hown hgrow
  go_wp2
  rw [rounds_succ]
  go_wp2
  go_ret
  refine ⟨w1.heap.size, h, c, rfl, by simp, by simp; omega, by simp, by simp, by simp, by simp, hc, ?_, hB.alloc hB.size _⟩
  rw [World.cell?_alloc_past _ _ _ hh]
  exact c0

end Go.Proofs.YtlgedljhheficaaGreatDoor
