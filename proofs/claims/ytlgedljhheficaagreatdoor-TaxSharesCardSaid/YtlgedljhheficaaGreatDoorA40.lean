/- Contracts of the reference lexer's Tokens and of Word on the names of the taxes that are made. -/
import Derived.Test.YtlgedljhheficaaGreatDoorA36
import Derived.Test.YtlgedljhheficaaGreatDoorA39
namespace Go.Proofs.YtlgedljhheficaaGreatDoor
open Go.RowKit

theorem info156 : (Tryz.prog.info? 156).map (fun i => (i.zero, i.size, i.bytes)) = some (some (.agg #[.int .i64 0, .string ⟨#[]⟩, .int .i64 0, .int .i64 0]), 4, 40) := by kernel_rfl

set_option maxRecDepth 100000 in
set_option maxHeartbeats 2000000 in
theorem rtokens_letter (s : ByteArray) (w : World) (hs : Letters s) (hp : 0 < s.size) (hl : s.size ≤ 16) :
    Calls Tryz.prog 117 #[.string s] w fun e w' => ∃ g c, e = .returned (.tuple #[.slice (some ⟨g, 0, none⟩) 1 c, .int .i64 0, .int .i64 0]) ∧ g < w'.heap.size ∧ w'.cell? ⟨g, 0, none⟩ = some (.int .i64 0) ∧ w'.cell? ⟨g, 1, none⟩ = some (.string s) ∧ Below w.heap.size w w' := by
  obtain ⟨i0, hinf, hz0, hz1, hz2⟩ := info_parts info156
  obtain ⟨a, b⟩ := hs 0 hp
  have Hs := Lib.hid hs
  have hex : s.extract 0 s.size = s := extract_all s
  clear hs
  go_enter Tryz.func117, Tryz.ntmps117
  go_wp2_with fail
  refine (rskip_letter s 0 _ Hs.out).mono ?_
  rintro e w' ⟨rfl, rfl⟩
  go_wp2
  refine wp_loop_rounds 2 ?_
  rw [rounds_succ]
  go_wp2_with fail
  refine (rend_letter s _ Hs.out hp hl).mono ?_
  rintro e w' ⟨rfl, rfl⟩
  go_wp2_with fail
  refine (class_letter _ _ a b).mono ?_
  rintro e w' ⟨rfl, rfl⟩
  go_wp2_with fail
  refine (class_letter _ _ a b).mono ?_
  rintro e w' ⟨rfl, rfl⟩
  go_wp2_with (at_builtin; refine wpList_append_own_at _ rfl _ _ 152 rfl w.heap.size 156 i0 (.agg #[.int .i64 0, .string ⟨#[]⟩, .int .i64 0, .int .i64 0]) 4 40 Tryz.underlying152 hinf hz0 hz1 hz2 rfl (by decide) _ 0 [] rfl (World.ownsRow_nil _ _ _ _) ⟨w.heap.size + 1, 0, none⟩ 1 1 [.int .i64 0, .string s, .int .i64 0, .int .i64 0] rfl rfl ?c1 ?c2 ?c3 ?c4 ?c5 ?_)
  case c1 =>
    intro j u hj
    match j, hj with
    | 0, hj => simp at hj; subst hj; simp [Addr.add]
    | 1, hj => simp at hj; subst hj; simp [Addr.add]
    | 2, hj => simp at hj; subst hj; simp [Addr.add]
    | 3, hj => simp at hj; subst hj; simp [Addr.add]
    | j + 4, hj => simp at hj
  case c2 =>
    intro u hu
    simp only [List.mem_cons, List.not_mem_nil, or_false] at hu
    rcases hu with rfl | rfl | rfl | rfl <;> rfl
  case c3 => unfold maxLen; omega
  case c4 => omega
  case c5 => simp; omega
  intro v' w1 hown hgrow _ _
  have hB : Below w.heap.size w w1 := (((Below.refl _ w).alloc (Nat.le_refl _) _).alloc (by simp) _).grown hgrow (by simp; omega) (fun k e => by cases e)
  have hex : ∃ g c, v' = .slice (some ⟨g, 0, none⟩) 1 c ∧ g < w1.heap.size := by
    rcases hown.2 with ⟨_, h0⟩ | ⟨g, cap, cur, rfl, _, hg, _⟩
    · simp at h0
    · exact ⟨_, _, rfl, (Array.getElem?_eq_some_iff.1 hg).1⟩
  obtain ⟨g, c, rfl, hg⟩ := hex
  have c0 := hown.cellAt 0 (by decide)
  have c1 := hown.cellAt 1 (by decide)
  simp at c0 c1
  clear hown hgrow
  go_wp2_with fail
  refine (rskip_letter s s.size _ Hs.out).mono ?_
  rintro e w' ⟨rfl, rfl⟩
  go_wp2
  rw [rounds_succ]
  go_wp2
  exact bodyPost_ret (v := .tuple #[.slice (some ⟨g, 0, none⟩) 1 c, .int .i64 0, .int .i64 0]) (by simp [results, Tryz.results117, go_sem]) rfl ⟨g, c, rfl, hg, c0, c1, hB⟩

set_option maxRecDepth 100000 in
set_option maxHeartbeats 1000000 in
theorem word_letter (s : ByteArray) (w : World) (hs : Letters s) (hp : 0 < s.size) (hl : s.size ≤ 16) :
    Calls Tryz.prog 60 #[.string s] w fun e w' => e = .returned (.bool true) ∧ Below w.heap.size w w' := by
  have K := Lib.hid (rtokens_letter s w hs hp hl)
  clear hs
  go_enter Tryz.func60, Tryz.ntmps60
  go_wp2_with fail
  refine K.out.mono ?_
  rintro e w' ⟨g, c, rfl, hg, c0, c1, hB⟩
  clear K
  go_wp2
  go_ret
  exact ⟨rfl, hB⟩
set_option maxRecDepth 100000 in
set_option maxHeartbeats 1000000 in
theorem word_empty (w : World) : Calls Tryz.prog 60 #[.string ⟨#[]⟩] w fun e w' => e = .returned (.bool false) ∧ w = w' := by
  go_enter Tryz.func60, Tryz.ntmps60
  go_wp2_with fail
  refine (rtokens_empty w).mono ?_
  rintro e w' ⟨rfl, rfl⟩
  go_wp2
  go_ret
  exact ⟨rfl, rfl⟩
set_option maxRecDepth 100000 in
set_option maxHeartbeats 1000000 in
theorem word_big (w : World) : Calls Tryz.prog 60 #[.string big] w fun e w' => e = .returned (.bool false) ∧ w = w' := by
  have K := Lib.hid (rtokens_big w)
  change Hid (Calls Tryz.prog 117 #[.string big] w _) at K
  generalize big = s at *
  go_enter Tryz.func60, Tryz.ntmps60
  go_wp2_with fail
  refine K.out.mono ?_
  rintro e w' ⟨rfl, rfl⟩
  go_wp2
  go_ret
  exact ⟨rfl, rfl⟩
theorem letters_sale : Letters sale := by unfold Letters; decide +kernel
theorem letters_stall : Letters stall := by unfold Letters; decide +kernel
theorem word_nm {nm : ByteArray} (w : World) (h : Nm nm) : Calls Tryz.prog 60 #[.string nm] w fun e w' => e = .returned (.bool (fitsB nm)) ∧ Below w.heap.size w w' := by
  rcases h with rfl | rfl | rfl | rfl
  · rw [show fitsB sale = true by decide +kernel]; exact word_letter _ w letters_sale (by decide) (by decide)
  · rw [show fitsB stall = true by decide +kernel]; exact word_letter _ w letters_stall (by decide) (by decide)
  · rw [show fitsB noName = false by decide +kernel]
    exact (word_empty w).mono (by rintro e w' ⟨rfl, rfl⟩; exact ⟨rfl, Below.refl _ _⟩)
  · rw [show fitsB big = false by decide +kernel]
    exact (word_big w).mono (by rintro e w' ⟨rfl, rfl⟩; exact ⟨rfl, Below.refl _ _⟩)

end Go.Proofs.YtlgedljhheficaaGreatDoor
