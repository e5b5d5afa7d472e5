/- Plain laws for Convert's walk, blocks that are known whole, and the contract of Convert where it refuses its arguments. -/
import Derived.Test.YthjfdfdgbpbanaaGreatDoorA7
import Derived.Deep.DeepCutAuto
import Derived.Deep.RegionWith
namespace Go.Proofs.YthjfdfdgbpbanaaGreatDoor
open Go.RowKit

/-- Block g is known whole. -/
def Bk (w : World) (g : Nat) (t : TypeId) (xs : List Value) : Prop := w.heap[g]? = some (.cells xs.toArray t (0, 0))
section
variable {w w' : World} {g : Nat} {t : TypeId} {xs : List Value}
theorem Bk.lt (h : Bk w g t xs) : g < w.heap.size := (Array.getElem?_eq_some_iff.1 h).1
theorem Bk.cell (h : Bk w g t xs) (k : Nat) : w.cell? ⟨g, k, none⟩ = xs[k]? := by
  unfold Bk at h; simp [World.cell?, h]
theorem Bk.frozen (h : Bk w g t xs) (k : Nat) : w.frozen? ⟨g, k, none⟩ = false := by
  unfold Bk at h; simp [World.frozen?, h]
theorem Bk.new (w : World) (t : TypeId) (xs : List Value) : Bk (w.alloc (.cells xs.toArray t)) w.heap.size t xs := heap_alloc_new w _
theorem Bk.drew (h : Bk w g t xs) : Bk w.drew g t xs := h
theorem Bk.drewN (h : Bk w g t xs) (n : Nat) : Bk (w.drewN n) g t xs := h
theorem Bk.alloc (h : Bk w g t xs) (o : Obj) : Bk (w.alloc o) g t xs := (Below.heap_alloc w o g h.lt).trans h
theorem Bk.set (h : Bk w g t xs) (k : Nat) (u : Value) : Bk (w.setCell ⟨g, k, none⟩ u) g t (xs.set k u) := by
  unfold Bk at h ⊢
  simp [World.setCell, Array.getElem?_modify, h]
theorem Bk.far (h : Bk w g t xs) {p : Addr} (hp : g ≠ p.block) (u : Value) : Bk (w.setCell p u) g t xs := (Below.heap_setCell w p u g hp).trans h
theorem Bk.below {B : Nat} (h : Bk w g t xs) (hb : Below B w w') (hg : g < B) : Bk w' g t xs := (hb.block g hg).trans h
theorem Bk.grown {row : Option Nat} (h : Bk w g t xs) (hb : w.grownBy w' row) (hg : some g ≠ row) : Bk w' g t xs := (hb.block g h.lt hg).trans h
theorem Bk.row (h : Bk w g t xs) : Row w w.heap.size (some ⟨g, 0, none⟩) xs := .inr ⟨g, 0, rfl, h.lt, fun j u hu => by rw [Nat.zero_add]; exact (h.cell j).trans hu⟩
end
theorem Row.alloc {w : World} {A : Option Addr} {xs : List Value} (h : Row w w.heap.size A xs) (o : Obj) : Row (w.alloc o) (w.alloc o).heap.size A xs :=
  (h.below ((Below.refl _ w).alloc (Nat.le_refl _) o)).more (by simp)

theorem made_zero (z : Value) (n : Nat) : madeCells #[z] n = (List.replicate n z).toArray := by
  apply Array.ext
  · simp [madeCells]
  · intro i h1 h2
    simp [madeCells, Nat.mod_one]
theorem make_ints (n : Nat) (hn : n ≤ 1000) (W : World) :
    (Instr.makeSlice 22 (.int .i64 (n : Int)) (.int .i64 (n : Int))).run Tryz.prog W = .ok (.slice (some ⟨W.heap.size, 0, none⟩) n n) (W.alloc (.cells (ints (List.replicate n 0)).toArray 3)) := by
  obtain ⟨i, hi, hz0, hz1, hz2⟩ := info_parts info3
  have h := run_make (P := Tryz.prog) W 22 3 i (.int .i64 0) Tryz.underlying22 hi hz0 .i64 .i64 n n (by omega) (by omega) (by rw [hz2]; omega) (by omega)
  rw [hz1] at h
  simp only [Int.toNat_natCast, Nat.mul_one] at h
  have e : madeCells (Value.int .i64 0).cells n = (ints (List.replicate n 0)).toArray := by
    show madeCells #[.int .i64 0] n = _
    rw [made_zero]
    simp [ints]
  rw [e] at h
  exact h

theorem ints_set (zs : List Int) (k : Nat) (z : Int) : (ints zs).set k (.int .i64 z) = ints (zs.set k z) := by simp [ints, List.map_set]

/-- The sums after k counterparts. -/
def nowK (ts : List Tr) (hs : List Int) (n k : Nat) : List Int := (List.range n).map fun j : Nat => sumTo ts hs (j : Int) k
@[simp] theorem nowK_length (ts : List Tr) (hs : List Int) (n k : Nat) : (nowK ts hs n k).length = n := by simp [nowK]
theorem nowK_zero (ts : List Tr) (hs : List Int) (n : Nat) : nowK ts hs n 0 = List.replicate n 0 := by simp [nowK, sumTo, List.map_const']
theorem nowK_at (ts : List Tr) (hs : List Int) (n k j : Nat) (h : j < n) : (nowK ts hs n k)[j]? = some (sumTo ts hs j k) := by simp [nowK, h]
theorem nowK_skip (ts : List Tr) (hs : List Int) (n k : Nat) (h : itemAt ts k < 0) : nowK ts hs n (k + 1) = nowK ts hs n k := by
  unfold nowK
  apply List.map_congr_left
  intro j _
  simp only [sumTo]
  rw [if_neg (by omega)]; omega
theorem nowK_step (ts : List Tr) (hs : List Int) (n k j : Nat) (h : itemAt ts k = j) (hj : j < n) : (nowK ts hs n k).set j (sumTo ts hs j k + term ts hs k) = nowK ts hs n (k + 1) := by
  apply List.ext_getElem?
  intro i
  by_cases e : j = i
  · subst e
    rw [List.getElem?_set_self (by simpa using hj), nowK_at _ _ _ _ _ hj]
    simp [sumTo, h]
  · rw [List.getElem?_set_ne e]
    by_cases hi : i < n
    · rw [nowK_at _ _ _ _ _ hi, nowK_at _ _ _ _ _ hi]
      simp only [sumTo]
      rw [if_neg (by omega)]; simp
    · rw [List.getElem?_eq_none (by simp; omega), List.getElem?_eq_none (by simp; omega)]
/-- What is left after k counterparts. -/
def leftK (ts : List Tr) (hs : List Int) (m k : Nat) : List Int := (List.range m).map fun i => if i < k then leftAt ts hs i else wAt hs i
@[simp] theorem leftK_length (ts : List Tr) (hs : List Int) (m k : Nat) : (leftK ts hs m k).length = m := by simp [leftK]
theorem leftK_zero (ts : List Tr) (hs : List Int) : leftK ts hs hs.length 0 = hs := by
  apply List.ext_getElem?
  intro i
  by_cases h : i < hs.length
  · simp [leftK, wAt, h]
  · rw [List.getElem?_eq_none (by simp; omega), List.getElem?_eq_none (by omega)]
theorem leftK_at (ts : List Tr) (hs : List Int) (m k : Nat) (h : k < m) : (leftK ts hs m k)[k]? = some (wAt hs k) := by simp [leftK, h]
theorem leftK_skip (ts : List Tr) (hs : List Int) (m k : Nat) (h : itemAt ts k < 0) : leftK ts hs m (k + 1) = leftK ts hs m k := by
  unfold leftK
  apply List.map_congr_left
  intro i _
  by_cases e : i = k
  · subst e; rw [if_pos (by omega), if_neg (by omega), leftAt, if_pos h]
  · by_cases h2 : i < k
    · rw [if_pos (by omega), if_pos h2]
    · rw [if_neg (by omega), if_neg h2]
theorem leftK_step (ts : List Tr) (hs : List Int) (m k : Nat) (h : ¬ itemAt ts k < 0) (hk : k < m) : (leftK ts hs m k).set k (wAt hs k % denAt ts k) = leftK ts hs m (k + 1) := by
  apply List.ext_getElem?
  intro i
  by_cases e : k = i
  · subst e
    rw [List.getElem?_set_self (by simpa using hk)]
    simp [leftK, hk, leftAt, h]
  · rw [List.getElem?_set_ne e]
    by_cases hi : i < m
    · simp only [leftK, List.getElem?_map, List.getElem?_range hi, Option.map_some, Option.some.injEq]
      by_cases h2 : i < k
      · rw [if_pos h2, if_pos (by omega)]
      · rw [if_neg h2, if_neg (by omega)]
    · rw [List.getElem?_eq_none (by simp; omega), List.getElem?_eq_none (by simp; omega)]
theorem leftK_all (ts : List Tr) (hs : List Int) (m : Nat) : leftK ts hs m m = (List.range m).map (leftAt ts hs) := by
  unfold leftK
  apply List.map_congr_left
  intro i hi
  rw [if_pos (by simpa using hi)]

theorem convPost_err {w w' : World} {ts : List Tr} {n : Int} {hs : List Int} {E : Int} (h : convE ts n hs = E) (hE : E ≠ 0) (hb : Below w.heap.size w w') :
    ConvPost w ts n hs (.returned (.tuple #[.slice none 0 0, .slice none 0 0, .int .i64 E])) w' := by
  have h1 : nowL ts n hs = [] := by unfold nowL; rw [if_neg (by omega)]
  have h2 : leftL ts n hs = [] := by unfold leftL; rw [if_neg (by omega)]
  refine ⟨none, 0, none, 0, ?_, ?_, ?_, hb⟩
  · rw [h1, h2, h]; rfl
  · rw [h1]; exact .inl rfl
  · rw [h2]; exact .inl rfl
theorem convE_bad {ts : List Tr} {n : Int} {hs : List Int} (h : argB ts n hs = false) : convE ts n hs = 1 := by unfold convE; rw [if_pos h]

set_option maxRecDepth 100000 in
set_option maxHeartbeats 1000000 in
theorem conv_bad {w : World} {A A' : Option Addr} {m m' : Nat} (c c' : Nat) {ts : List Tr} (n : Int) {hs : List Int} (ht : TosV w A m ts) (hh : IntsV w A' m' hs) (hm : m ≤ 1000000) (hm' : m' ≤ 1000000)
    (h0 : -9223372036854775808 ≤ n) (h1 : n ≤ 9223372036854775807) (hbad : argB ts n hs = false) :
    Calls Tryz.prog 27 #[.slice A m c, .int .i64 n, .slice A' m' c'] w (ConvPost w ts n hs) := by
  have HE := Lib.hid (convE_bad hbad)
  by_cases hn : n < 0
  · go_enter Tryz.func27, Tryz.ntmps27
    go_wp2
    go_ret3
    exact convPost_err HE.out (by omega) (Below.refl _ _)
  by_cases hn2 : 64 < n
  · go_enter Tryz.func27, Tryz.ntmps27
    go_wp2
    go_ret3
    exact convPost_err HE.out (by omega) (Below.refl _ _)
  have K1 := Lib.hid (valid_any c n ht hm (by omega) (by omega))
  have HU := Lib.hid hh
  have Hlt := Lib.hid ht.len
  have Hlh := Lib.hid hh.len
  cases hv : validB ts n
  · rw [hv] at K1
    clear hbad hv ht hh
    go_enter Tryz.func27, Tryz.ntmps27
    go_wp2_with fail
    refine K1.out.mono ?_
    rintro e w1 ⟨rfl, hb1⟩
    go_wp2
    go_ret3
    exact convPost_err HE.out (by omega) hb1
  rw [hv] at K1
  by_cases hl : m = m'
  · have hu : unitsB hs = false := by
      cases hu : unitsB hs
      · rfl
      · have : argB ts n hs = true := by
          simp only [argB, hv, hu, Bool.and_true, Bool.and_eq_true, decide_eq_true_eq]
          exact ⟨⟨by omega, by omega⟩, by rw [← ht.len, ← hh.len]; exact hl⟩
        rw [this] at hbad; cases hbad
    have Hu := Lib.hid hu
    have e1 : ((m : Int) != (m' : Int)) = false := by simp; omega
    clear hbad hv ht hh hu hl
    go_enter Tryz.func27, Tryz.ntmps27
    go_wp2_with fail
    refine K1.out.mono ?_
    rintro e w1 ⟨rfl, hb1⟩
    have K2 := units_any (c := c') (HU.out.below hb1).row Hlh.out (by omega)
    rw [Hu.out] at K2
    have HK2 := Lib.hid K2
    clear K2
    go_wp2_with fail
    refine HK2.out.mono ?_
    rintro e w2 ⟨rfl, rfl⟩
    go_wp2
    go_ret3
    exact convPost_err HE.out (by omega) hb1
  · have e1 : ((m : Int) != (m' : Int)) = true := by simp; omega
    clear hbad hv ht hh hl
    go_enter Tryz.func27, Tryz.ntmps27
    go_wp2_with fail
    refine K1.out.mono ?_
    rintro e w1 ⟨rfl, hb1⟩
    go_wp2
    go_ret3
    exact convPost_err HE.out (by omega) hb1

end Go.Proofs.YthjfdfdgbpbanaaGreatDoor
