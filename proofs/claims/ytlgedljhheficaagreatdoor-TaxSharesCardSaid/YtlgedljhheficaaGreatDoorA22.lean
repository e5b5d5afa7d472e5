/- Words for blocks that a call made, and the plain side of share.Split. -/
import Derived.Test.YtlgedljhheficaaGreatDoorA20
import Derived.Laws.MakeOwn
namespace Go.Proofs.YtlgedljhheficaaGreatDoor
open Go.RowKit

/-- Block g is the cells xs, of element type t. -/
def Bk (w : World) (g : Nat) (t : TypeId) (xs : List Value) : Prop := w.heap[g]? = some (.cells xs.toArray t (0, 0))
section
variable {w w' : World} {g : Nat} {t : TypeId} {xs : List Value}
theorem Bk.lt (h : Bk w g t xs) : g < w.heap.size := (Array.getElem?_eq_some_iff.1 h).1
theorem Bk.cell (h : Bk w g t xs) (k : Nat) : w.cell? ⟨g, k, none⟩ = xs[k]? := by
  unfold Bk at h; simp [World.cell?, h]
theorem Bk.frozen (h : Bk w g t xs) (k : Nat) : w.frozen? ⟨g, k, none⟩ = false := by
  unfold Bk at h; simp [World.frozen?, h]
theorem Bk.new (w : World) (t : TypeId) (xs : List Value) : Bk (w.alloc (.cells xs.toArray t)) w.heap.size t xs := heap_alloc_new w _
theorem Bk.drew (h : Bk w g t xs) : Bk w.drew g t xs := h
theorem Bk.drewN (h : Bk w g t xs) (n : Nat) : Bk (w.drewN n) g t xs := h
theorem Bk.alloc (h : Bk w g t xs) (o : Obj) : Bk (w.alloc o) g t xs := (Below.heap_alloc w o g h.lt).trans h
theorem Bk.set (h : Bk w g t xs) (k : Nat) (u : Value) : Bk (w.setCell ⟨g, k, none⟩ u) g t (xs.set k u) := by
  unfold Bk at h ⊢
  simp [World.setCell, Array.getElem?_modify, h]
theorem Bk.far (h : Bk w g t xs) {p : Addr} (hp : g ≠ p.block) (u : Value) : Bk (w.setCell p u) g t xs := (Below.heap_setCell w p u g hp).trans h
theorem Bk.below {B : Nat} (h : Bk w g t xs) (hb : Below B w w') (hg : g < B) : Bk w' g t xs := (hb.block g hg).trans h
theorem Bk.grown {row : Option Nat} (h : Bk w g t xs) (hb : w.grownBy w' row) (hg : some g ≠ row) : Bk w' g t xs := (hb.block g h.lt hg).trans h
end

/-- The first k of n places hold f, the others 0. -/
def fill (f : Nat → Int) (n k : Nat) : List Int := (List.range n).map fun i => if i < k then f i else 0
theorem fill_length (f : Nat → Int) (n k : Nat) : (fill f n k).length = n := by simp [fill]
theorem fill_set (f : Nat → Int) (n k : Nat) : (fill f n k).set k (f k) = fill f n (k + 1) := by
  apply List.ext_getElem?
  intro i
  simp only [fill, List.getElem?_set, List.length_map, List.length_range, List.getElem?_map]
  by_cases hik : k = i
  · subst hik
    by_cases hk : k < n
    · simp [hk]
    · simp [hk]
  · rw [if_neg hik]
    by_cases hi : i < n
    · simp only [List.getElem?_range hi, Option.map_some, Option.some.injEq]
      by_cases h1 : i < k
      · rw [if_pos h1, if_pos (by omega)]
      · rw [if_neg h1, if_neg (by omega)]
    · simp [hi]
theorem fill_all (f : Nat → Int) (n : Nat) : fill f n n = (List.range n).map f := by
  unfold fill
  apply List.map_congr_left
  intro i hi
  rw [if_pos (by simpa using hi)]
theorem fill_at (f : Nat → Int) (n k i : Nat) (hi : i < n) : (fill f n k)[i]? = some (if i < k then f i else 0) := by
  simp [fill, hi]
theorem ints_set (zs : List Int) (k : Nat) (z : Int) : (ints zs).set k (.int .i64 z) = ints (zs.set k z) := by simp [ints, List.map_set]
theorem u64s_set (zs : List Int) (k : Nat) (z : Int) : (u64s zs).set k (.int .u64 z) = u64s (zs.set k z) := by simp [u64s, List.map_set]

theorem info3 : (Tryz.prog.info? 3).map (fun i => (i.zero, i.size, i.bytes)) = some (some (.int .i64 0), 1, 8) := by kernel_rfl
theorem info120 : (Tryz.prog.info? 120).map (fun i => (i.zero, i.size, i.bytes)) = some (some (.int .u64 0), 1, 8) := by kernel_rfl
theorem made_zero (z : Value) (n : Nat) : madeCells #[z] n = (List.replicate n z).toArray := by
  apply Array.ext
  · simp [madeCells]
  · intro i h1 h2
    simp [madeCells, Nat.mod_one]
theorem fill_zero (f : Nat → Int) (n : Nat) : fill f n 0 = List.replicate n 0 := by
  simp [fill, List.map_const']
theorem make_ints (f : Nat → Int) (n : Nat) (hn : n ≤ 1000) (W : World) :
    (Instr.makeSlice 22 (.int .i64 (n : Int)) (.int .i64 (n : Int))).run Tryz.prog W = .ok (.slice (some ⟨W.heap.size, 0, none⟩) n n) (W.alloc (.cells (ints (fill f n 0)).toArray 3)) := by
  obtain ⟨i, hi, hz0, hz1, hz2⟩ := info_parts info3
  have h := run_make (P := Tryz.prog) W 22 3 i (.int .i64 0) Tryz.underlying22 hi hz0 .i64 .i64 n n (by omega) (by omega) (by rw [hz2]; omega) (by omega)
  rw [hz1] at h
  simp only [Int.toNat_natCast, Nat.mul_one] at h
  have e : madeCells (Value.int .i64 0).cells n = (ints (fill f n 0)).toArray := by
    show madeCells #[.int .i64 0] n = _
    rw [made_zero, fill_zero]
    simp [ints]
  rw [e] at h
  exact h
theorem make_u64s (f : Nat → Int) (n : Nat) (hn : n ≤ 1000) (W : World) :
    (Instr.makeSlice 119 (.int .i64 (n : Int)) (.int .i64 (n : Int))).run Tryz.prog W = .ok (.slice (some ⟨W.heap.size, 0, none⟩) n n) (W.alloc (.cells (u64s (fill f n 0)).toArray 120)) := by
  obtain ⟨i, hi, hz0, hz1, hz2⟩ := info_parts info120
  have h := run_make (P := Tryz.prog) W 119 120 i (.int .u64 0) Tryz.underlying119 hi hz0 .i64 .i64 n n (by omega) (by omega) (by rw [hz2]; omega) (by omega)
  rw [hz1] at h
  simp only [Int.toNat_natCast, Nat.mul_one] at h
  have e : madeCells (Value.int .u64 0).cells n = (u64s (fill f n 0)).toArray := by
    show madeCells #[.int .u64 0] n = _
    rw [made_zero, fill_zero]
    simp [u64s]
  rw [e] at h
  exact h

/-- The sum of the first k. -/
def sumTo (f : Nat → Int) : Nat → Int
  | 0 => 0
  | k + 1 => sumTo f k + f k

end Go.Proofs.YtlgedljhheficaaGreatDoor
