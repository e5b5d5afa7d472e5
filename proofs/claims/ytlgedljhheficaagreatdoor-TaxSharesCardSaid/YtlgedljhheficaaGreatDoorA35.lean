/- The contracts of the generator's next and number. -/
import Derived.Test.YtlgedljhheficaaGreatDoorA28
import Derived.BigQuiet
namespace Go.Proofs.YtlgedljhheficaaGreatDoor
open Go.RowKit

/-- A generator at block g. -/
structure GAt (w : World) (g : Nat) (A : Option Addr) (n c : Nat) (zs : List Int) (i : Int) : Prop where
  bk : Bk w g 85 [.slice A n c, .int .i64 i]
  l : IntsV w A n zs
  far : ∀ b off, A = some ⟨b, off, none⟩ → b ≠ g
  i0 : 0 ≤ i
  i1 : i ≤ 1000
section
variable {w w' : World} {g : Nat} {A : Option Addr} {n c : Nat} {zs : List Int} {i : Int}
theorem GAt.c0 (h : GAt w g A n c zs i) : w.cell? ⟨g, 0, none⟩ = some (.slice A n c) := h.bk.cell 0
theorem GAt.c1 (h : GAt w g A n c zs i) : w.cell? ⟨g, 1, none⟩ = some (.int .i64 i) := h.bk.cell 1
theorem GAt.below (h : GAt w g A n c zs i) (hb : Below w.heap.size w w') : GAt w' g A n c zs i := ⟨h.bk.below hb h.bk.lt, h.l.below hb, h.far, h.i0, h.i1⟩
theorem row_other {B b : Nat} {xs : List Value} (h : Row w B A xs) (hg : w.grownBy w' (some b)) (hf : ∀ b' off, A = some ⟨b', off, none⟩ → b' ≠ b) (hB : B ≤ w.heap.size) : Row w' B A xs := by
  rcases h with rfl | ⟨b', off, rfl, hb, hc⟩
  · exact .inl rfl
  · exact .inr ⟨b', off, rfl, hb, fun j u hu => (World.cell?_of_block (w := w) (hg.block b' (by omega) (fun e => hf b' off rfl (Option.some.inj e)))).trans (hc j u hu)⟩
theorem GAt.keep {b : Nat} (h : GAt w g A n c zs i) (hg : w.grownBy w' (some b)) (hne : g ≠ b) (hf : ∀ b' off, A = some ⟨b', off, none⟩ → b' ≠ b) : GAt w' g A n c zs i :=
  ⟨h.bk.grown hg (fun e => hne (Option.some.inj e)), ⟨(row_other h.l.row hg hf (Nat.le_refl _)).more hg.size, h.l.len, h.l.wf⟩, h.far, h.i0, h.i1⟩

theorem grown_set (w : World) (g k : Nat) (u : Value) : w.grownBy (w.setCell ⟨g, k, none⟩ u) (some g) := ⟨rfl, rfl, rfl, by simp [World.setCell], fun i _ hi => Below.heap_setCell _ _ _ _ (fun e => hi (by rw [e]))⟩
theorem GAt.step (h : GAt w g A n c zs i) (hi : i + 1 ≤ 1000) : GAt (w.setCell ⟨g, 1, none⟩ (.int .i64 (i + 1))) g A n c zs (i + 1) := by
  have h0 := h.i0
  refine ⟨h.bk.set 1 _, ⟨(row_other h.l.row (grown_set w g 1 _) h.far (Nat.le_refl _)).more (grown_set w g 1 _).size, h.l.len, h.l.wf⟩, h.far, by omega, hi⟩

/-- What next leaves. -/
def NextPost (w : World) (g : Nat) (A : Option Addr) (n c : Nat) (zs : List Int) (i m : Int) (e : Ending) (w' : World) : Prop :=
  e = .returned (.int .i64 (pick zs i m)) ∧ GAt w' g A n c zs (i + 1) ∧ w.grownBy w' (some g)

set_option maxRecDepth 100000 in
set_option maxHeartbeats 1000000 in
theorem next_any (m : Int) (h : GAt w g A n c zs i) (hi : i + 1 ≤ 1000) (m0 : 1 ≤ m) (m1 : m ≤ 9223372036854775807) :
    Calls Tryz.prog 48 #[.pointer (some ⟨g, 0, none⟩), .int .i64 m] w (NextPost w g A n c zs i m) := by
  have c0 := h.c0
  have c1 := h.c1
  have f1 := h.bk.frozen 1
  have hlt := h.bk.lt
  have i0 := h.i0
  have hs := h.step hi
  have hG := Lib.hid (grown_set w g 1 (.int .i64 (i + 1)))
  have HS := Lib.hid hs
  clear h hs
  go_enter Tryz.func48, Tryz.ntmps48
  go_wp2_with fail
  obtain ⟨W, hW⟩ : ∃ W, w.setCell ⟨g, 1, none⟩ (.int .i64 (i + 1)) = W := ⟨_, rfl⟩
  rw [hW] at HS hG ⊢
  clear hW
  have d0 := HS.out.c0
  have d1 := HS.out.c1
  have K := Lib.hid (fun q => pick_q A n c zs _ i m W HS.out.l.row HS.out.l.len HS.out.l.wf (by omega) (by omega) m0 m1 q)
  have aw : IntKind.i64.wrap (i + 1 - 1) = i := (IntWalk.i64_in _ (by omega)).trans (by omega)
  go_quiet ((go_at_call 27; exact Calls.quiet_of_same (K.out _)))
  go_wp2
  go_ret
  exact ⟨rfl, ⟨HS.out.bk, ⟨HS.out.l.row, HS.out.l.len, HS.out.l.wf⟩, HS.out.far, HS.out.i0, HS.out.i1⟩, ⟨hG.out.os, hG.out.tape, hG.out.output, hG.out.size, hG.out.block⟩⟩

theorem grown_trans {a b c : World} {row : Option Nat} (h : a.grownBy b row) (k : b.grownBy c row) : a.grownBy c row :=
  ⟨k.os.trans h.os, k.tape.trans h.tape, k.output.trans h.output, Nat.le_trans h.size k.size, fun i hi hne => (k.block i (Nat.lt_of_lt_of_le hi h.size) hne).trans (h.block i hi hne)⟩

/-- What number leaves. -/
def NumberPost (w : World) (g : Nat) (A : Option Addr) (n c : Nat) (zs : List Int) (i : Int) (e : Ending) (w' : World) : Prop :=
  ∃ v, e = .returned (.int .i64 v) ∧ GAt w' g A n c zs (i + 1) ∧ w.grownBy w' (some g)
abbrev twelve : Array Value := #[.int .i64 0, .int .i64 1, .int .i64 (-1), .int .i64 2, .int .i64 100, .int .i64 101, .int .i64 1000000, .int .i64 1000001, .int .i64 1048576, .int .i64 1048577, .int .i64 10000, .int .i64 10001]
theorem twelve_at (j : Nat) (h : j < 12) : ∃ v, twelve[j]? = some (.int .i64 v) := by
  rcases (show j = 0 ∨ j = 1 ∨ j = 2 ∨ j = 3 ∨ j = 4 ∨ j = 5 ∨ j = 6 ∨ j = 7 ∨ j = 8 ∨ j = 9 ∨ j = 10 ∨ j = 11 by omega) with rfl | rfl | rfl | rfl | rfl | rfl | rfl | rfl | rfl | rfl | rfl | rfl <;> exact ⟨_, rfl⟩

set_option maxRecDepth 100000 in
set_option maxHeartbeats 1000000 in
theorem number_any (h : GAt w g A n c zs i) (hi : i + 1 ≤ 1000) :
    Calls Tryz.prog 76 #[.pointer (some ⟨g, 0, none⟩)] w (NumberPost w g A n c zs i) := by
  have hlt := h.bk.lt
  have hb0 : Below w.heap.size w (w.alloc (.cells twelve 3)) := (Below.refl _ _).alloc (Nat.le_refl _) _
  have H := Lib.hid (h.below hb0)
  have HB := Lib.hid hb0
  have q0 := pick_lo zs i 12 (by omega)
  have q1 := pick_hi zs i 12 (by omega)
  obtain ⟨j, hj⟩ : ∃ j : Nat, pick zs i 12 = j := ⟨(pick zs i 12).toNat, by omega⟩
  have K := next_any 12 H.out hi (by omega) (by omega)
  unfold NextPost at K
  rw [hj] at K q1
  have HK := Lib.hid K
  clear K hj q0 h hb0
  obtain ⟨v, hv⟩ := twelve_at j (by omega)
  have Hc : Hid ((w.alloc (.cells twelve 3)).heap[w.heap.size]? = some (.cells twelve 3 (0, 0))) := heap_alloc_new w _
  have HV := Lib.hid hv
  clear hv
  go_enter Tryz.func76, Tryz.ntmps76
  go_wp2_with fail
  (with_reducible refine HK.out.mono ?_)
  rintro e w2 ⟨rfl, hg, hgr⟩
  have hc2 : w2.cell? ⟨w.heap.size, j, none⟩ = some (.int .i64 v) := by
    have := (hgr.block w.heap.size (by simp) (fun e => by have := Option.some.inj e; omega)).trans Hc.out
    simp only [World.cell?, this]
    exact HV.out
  have HG := Lib.hid hg
  have HGR := Lib.hid hgr
  have hsz : w.heap.size < w2.heap.size := by have := hgr.size; simp at this; omega
  clear hg hgr HK Hc
  go_wp2
  go_ret
  exact ⟨v, rfl, HG.out, grown_trans (grown_of_below HB.out _) HGR.out⟩
end

end Go.Proofs.YtlgedljhheficaaGreatDoor
