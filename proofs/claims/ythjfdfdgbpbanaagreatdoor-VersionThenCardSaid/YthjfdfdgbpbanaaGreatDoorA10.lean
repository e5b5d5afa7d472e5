/- Rows for VersionConserves' first loop; the contract of Convert at small numbers. -/
import Derived.Test.YthjfdfdgbpbanaaGreatDoorP2
namespace Go.Proofs.YthjfdfdgbpbanaaGreatDoor
open Go.RowKit

theorem row_form {W : World} {base : Nat} {e : TypeId} {size n : Nat} {v : Value} {xs : List Value} (h : W.ownsRow base e size v n xs) : ∃ A c, v = .slice A n c ∧ Row W W.heap.size A xs ∧ (A = none → n = 0 ∧ c = 0) ∧ ∀ a, A = some a → v.ownBlock = some a.block := by
  obtain ⟨hl, h⟩ := h
  rcases h with ⟨rfl, rfl⟩ | ⟨g, cap, cur, rfl, hb, hh, hn, hm, hs, ht⟩
  · exact ⟨none, 0, rfl, .inl (List.eq_nil_of_length_eq_zero (by simpa using hl)), (fun _ => ⟨rfl, rfl⟩), (fun a e => by cases e)⟩
  · obtain ⟨A, c, hv, hr⟩ := row_of_owns (W := W) (base := base) (e := e) (size := size) (n := n) (v := .slice (some ⟨g, 0, none⟩) n cap) (xs := xs) ⟨hl, .inr ⟨g, cap, cur, rfl, hb, hh, hn, hm, hs, ht⟩⟩
    cases hv
    exact ⟨_, _, rfl, hr, (fun e => by cases e), (fun a e => by cases e; rfl)⟩
theorem row_some {W : World} {base : Nat} {e : TypeId} {size n : Nat} {v : Value} {xs : List Value} (h : W.ownsRow base e size v n xs) (hn : 0 < n) : ∃ g cap, v = .slice (some ⟨g, 0, none⟩) n cap := by
  rcases h.2 with ⟨_, h0⟩ | ⟨g, cap, cur, hv, _⟩
  · omega
  · exact ⟨g, cap, hv⟩

/-- The rows of the first loop: all (below w3), part and rest (above). -/
structure L1 (w2 w3 W : World) (va vp vr : Value) (K k : Nat) (al pa re : List Int) : Prop where
  all : W.ownsRow w2.heap.size 3 1 va K (ints al)
  alt : ∀ g, va.ownBlock = some g → g < w3.heap.size
  op : W.ownsRow w3.heap.size 3 1 vp k (ints pa)
  or_ : W.ownsRow w3.heap.size 3 1 vr k (ints re)
  ap : ∀ g, vp.ownBlock = some g → vr.ownBlock ≠ some g
  below : Below w2.heap.size w2 W
  le : w2.heap.size ≤ w3.heap.size
  le3 : w3.heap.size ≤ W.heap.size
section
variable {w2 w3 W : World} {va vp vr : Value} {K k : Nat} {al pa re : List Int}
theorem L1.drewN (h : L1 w2 w3 W va vp vr K k al pa re) (n : Nat) : L1 w2 w3 (W.drewN n) va vp vr K k al pa re := ⟨h.all, h.alt, h.op, h.or_, h.ap, bel_drewN h.below n, h.le, h.le3⟩
theorem ne_row {W : World} {B E s n g : Nat} {v : Value} {xs : List Value} (h : W.ownsRow B E s v n xs) (hg : g < B) : v.ownBlock ≠ some g := fun e => by have := (h.lt g e).1; omega
theorem L1.store {ga ca : Nat} (h : L1 w2 w3 W (.slice (some ⟨ga, 0, none⟩) K ca) vp vr K k al pa re) (j : Nat) (x : Int) : L1 w2 w3 (W.setCell ⟨ga, j, none⟩ (.int .i64 x)) (.slice (some ⟨ga, 0, none⟩) K ca) vp vr K k (al.set j x) pa re := by
  have hlt := h.alt ga rfl
  have hge := (h.all.lt ga rfl).1
  refine ⟨by rw [← ints_set]; exact (h.all.stored j _).1, h.alt, h.op.kept (grown_setCell W ga j _) (.inr (ne_row h.op hlt)), h.or_.kept (grown_setCell W ga j _) (.inr (ne_row h.or_ hlt)), h.ap, h.below.setCell hge _, h.le, ?_⟩
  have := h.le3
  simpa [World.setCell] using this
theorem L1.appP {v' : Value} {w1 : World} {o : Obj} {x : Int} (h : L1 w2 w3 W va vp vr K k al pa re) (ho : w1.ownsRow w3.heap.size 3 1 v' (k + 1) (ints pa ++ [.int .i64 x])) (hg : (W.alloc o).grownBy w1 vp.ownBlock) (hat : v'.ownBlock = vp.ownBlock ∨ v'.ownBlock = some (W.heap.size + 1)) :
    w1.ownsRow w3.heap.size 3 1 vr k (ints re) ∧ w1.ownsRow w2.heap.size 3 1 va K (ints al) ∧ Below w2.heap.size w2 w1 ∧ (∀ g, v'.ownBlock = some g → vr.ownBlock ≠ some g) ∧ w3.heap.size ≤ w1.heap.size := by
  refine ⟨?_, ?_, ?_, ?_, ?_⟩
  · refine (h.or_.alloc o).kept hg ?_
    cases e : vr.ownBlock with
    | none => exact .inl rfl
    | some g => exact .inr fun e2 => h.ap g e2.symm e
  · refine (h.all.alloc o).kept hg ?_
    cases e : va.ownBlock with
    | none => exact .inl rfl
    | some g => exact .inr fun e2 => ne_row h.op (h.alt g e) e2.symm
  · exact (h.below.alloc h.below.size o).grown hg (by have := h.below.size; simp; omega) fun g e => Nat.le_trans h.le (h.op.lt g e).1
  · intro g e e2
    rcases hat with hat | hat
    · rw [hat] at e; exact h.ap g e e2
    · rw [hat] at e; cases e
      have := (h.or_.lt _ e2).2; omega
  · have := hg.size; have := h.le3; simp at *; omega
theorem L1.appBoth {vp' vr' : Value} {w1 w1' : World} {o o' : Obj} {x y : Int} (h : L1 w2 w3 W va vp vr K k al pa re)
    (ho : w1.ownsRow w3.heap.size 3 1 vp' (k + 1) (ints pa ++ [.int .i64 x])) (hg : (W.alloc o).grownBy w1 vp.ownBlock) (hat : vp'.ownBlock = vp.ownBlock ∨ vp'.ownBlock = some (W.heap.size + 1))
    (ho' : w1'.ownsRow w3.heap.size 3 1 vr' (k + 1) (ints re ++ [.int .i64 y])) (hg' : (w1.alloc o').grownBy w1' vr.ownBlock) (hat' : vr'.ownBlock = vr.ownBlock ∨ vr'.ownBlock = some (w1.heap.size + 1)) :
    L1 w2 w3 w1' va vp' vr' K (k + 1) al (pa ++ [x]) (re ++ [y]) := by
  obtain ⟨h1, h2, h3, h4, h5⟩ := h.appP ho hg hat
  refine ⟨?_, h.alt, ?_, by rw [ints_snoc]; exact ho', ?_, ?_, h.le, ?_⟩
  · refine (h2.alloc o').kept hg' ?_
    cases e : va.ownBlock with
    | none => exact .inl rfl
    | some g => exact .inr fun e2 => ne_row h1 (h.alt g e) e2.symm
  · rw [ints_snoc]
    refine (ho.alloc o').kept hg' ?_
    cases e : vp'.ownBlock with
    | none => exact .inl rfl
    | some g => exact .inr fun e2 => h4 g e e2.symm
  · intro g e e2
    rcases hat' with hat' | hat'
    · rw [hat'] at e2; exact h4 g e e2
    · rw [hat'] at e2; cases e2
      have := (ho.lt _ e).2; omega
  · exact (h3.alloc h3.size o').grown hg' (by have := h3.size; simp; omega) fun g e => Nat.le_trans h.le (h1.lt g e).1
  · have := hg'.size; simp at this; omega
end

theorem conv_small {w : World} {A A' : Option Addr} {K : Nat} (c c' : Nat) {zs hs : List Int} (ht : TosV w A K (tosL K zs K)) (hh : IntsV w A' K hs) (hK : K ≤ 64) (hA' : A' = none → K = 0 ∧ c' = 0)
    (h : ∀ i, i < K → 0 ≤ wAt hs i ∧ wAt hs i ≤ 1000) :
    Calls Tryz.prog 27 #[.slice A K c, .int .i64 K, .slice A' K c'] w fun e w' => ∃ A1 c1 A2 c2, e = .returned (.tuple #[.slice A1 K c1, .slice A2 K c2, .int .i64 0]) ∧
      Row w' w'.heap.size A1 (ints (ftab K (fun j => sumTo (tosL K zs K) hs j K))) ∧ Row w' w'.heap.size A2 (ints (ftab K (leftAt (tosL K zs K) hs))) ∧ Below w.heap.size w w' := by
  obtain ⟨a, b⟩ := small_good (zs := zs) hK hh.len.symm h
  obtain ⟨e0, e1, e2⟩ := small_conv (zs := zs) hK hh.len.symm h
  refine (conv_good c c' K ht hh (by omega) (by omega) hA' a).mono ?_
  rintro e w' ⟨A1, c1, A2, c2, he, h1, h2, hb⟩
  rw [e1] at h1 he
  rw [e2] at h2 he
  rw [e0] at he
  simp only [ftab_length] at he
  exact ⟨A1, c1, A2, c2, he, h1, h2, hb⟩

end Go.Proofs.YthjfdfdgbpbanaaGreatDoor
