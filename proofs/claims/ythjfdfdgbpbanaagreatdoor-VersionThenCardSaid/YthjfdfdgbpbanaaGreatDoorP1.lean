/- Plain laws of counterparts: what is valid, what becomes of a bag, and what is left of it. -/
import Derived.Test.YthjfdfdgbpbanaaGreatDoorA3
namespace Go.Proofs.YthjfdfdgbpbanaaGreatDoor
open Go.RowKit

abbrev Tr := Int × Int × Int
def itemAt (ts : List Tr) (k : Nat) : Int := (ts[k]?.getD (0, 0, 0)).1
def numAt (ts : List Tr) (k : Nat) : Int := (ts[k]?.getD (0, 0, 0)).2.1
def denAt (ts : List Tr) (k : Nat) : Int := (ts[k]?.getD (0, 0, 0)).2.2
def tcells (ts : List Tr) : List Value := ts.flatMap fun t => [.int .i64 t.1, .int .i64 t.2.1, .int .i64 t.2.2]
theorem tcells_length (ts : List Tr) : (tcells ts).length = ts.length * 3 := by
  induction ts with
  | nil => rfl
  | cons t ts ih => simp only [tcells, List.flatMap_cons, List.length_append, List.length_cons, List.length_nil] at ih ⊢; omega
theorem tcells_cons (t : Tr) (ts : List Tr) : tcells (t :: ts) = [.int .i64 t.1, .int .i64 t.2.1, .int .i64 t.2.2] ++ tcells ts := by simp [tcells]
theorem tcells_snoc (ts : List Tr) (t : Tr) : tcells (ts ++ [t]) = tcells ts ++ [.int .i64 t.1, .int .i64 t.2.1, .int .i64 t.2.2] := by simp [tcells]
theorem tcells_at (ts : List Tr) (k : Nat) (h : k < ts.length) : (tcells ts)[k * 3]? = some (.int .i64 (itemAt ts k)) ∧ (tcells ts)[k * 3 + 1]? = some (.int .i64 (numAt ts k)) ∧ (tcells ts)[k * 3 + 2]? = some (.int .i64 (denAt ts k)) := by
  induction ts generalizing k with
  | nil => simp at h
  | cons t ts ih =>
    rw [tcells_cons]
    cases k with
    | zero => simp [itemAt, numAt, denAt]
    | succ k =>
      have := ih k (by simpa using h)
      have e : (k + 1) * 3 = 3 + k * 3 := by omega
      rw [e]
      refine ⟨?_, ?_, ?_⟩
      · rw [List.getElem?_append_right (by simp), show 3 + k * 3 - [Value.int .i64 t.1, .int .i64 t.2.1, .int .i64 t.2.2].length = k * 3 from by simp]
        simpa [itemAt] using this.1
      · rw [List.getElem?_append_right (by simp; omega), show 3 + k * 3 + 1 - [Value.int .i64 t.1, .int .i64 t.2.1, .int .i64 t.2.2].length = k * 3 + 1 from by simp; omega]
        simpa [numAt] using this.2.1
      · rw [List.getElem?_append_right (by simp; omega), show 3 + k * 3 + 2 - [Value.int .i64 t.1, .int .i64 t.2.1, .int .i64 t.2.2].length = k * 3 + 2 from by simp; omega]
        simpa [denAt] using this.2.2
theorem tcells_int (ts : List Tr) : ∀ u ∈ tcells ts, ∃ x, u = .int .i64 x := by
  intro u hu
  simp only [tcells, List.mem_flatMap, List.mem_cons, List.not_mem_nil, or_false] at hu
  obtain ⟨p, _, h | h | h⟩ := hu <;> exact ⟨_, h⟩

/-- Counterpart k is valid for n items. -/
def okT (n i p q : Int) : Bool := decide ((i = -1 ∧ p = 0 ∧ q = 0) ∨ (0 ≤ i ∧ i < n ∧ 1 ≤ p ∧ p ≤ 1048576 ∧ 1 ≤ q ∧ q ≤ 1048576))
def okAt (ts : List Tr) (n : Int) (k : Nat) : Bool := okT n (itemAt ts k) (numAt ts k) (denAt ts k)
def validTo (ts : List Tr) (n : Int) : Nat → Bool
  | 0 => true
  | k + 1 => validTo ts n k && okAt ts n k
def validB (ts : List Tr) (n : Int) : Bool := validTo ts n ts.length
theorem validTo_no {ts : List Tr} {n : Int} {k : Nat} (h : okAt ts n k = false) : ∀ m, k < m → validTo ts n m = false := by
  intro m hm
  induction m with
  | zero => omega
  | succ m ih =>
    by_cases e : k = m
    · subst e; simp [validTo, h]
    · simp [validTo, ih (by omega)]
theorem validTo_at {ts : List Tr} {n : Int} {m : Nat} (h : validTo ts n m = true) (k : Nat) (hk : k < m) : okAt ts n k = true := by
  cases ho : okAt ts n k
  · rw [validTo_no ho m hk] at h; cases h
  · rfl
theorem validTo_mk {ts : List Tr} {n : Int} {m : Nat} (h : ∀ k, k < m → okAt ts n k = true) : validTo ts n m = true := by
  induction m with
  | zero => rfl
  | succ m ih => simp [validTo, ih fun k hk => h k (by omega), h m (by omega)]

/-- What counterpart i gives of what is held. -/
def term (ts : List Tr) (hs : List Int) (i : Nat) : Int := wAt hs i / denAt ts i * numAt ts i
/-- The units of item j from the first k counterparts. -/
def sumTo (ts : List Tr) (hs : List Int) (j : Int) : Nat → Int
  | 0 => 0
  | k + 1 => sumTo ts hs j k + if itemAt ts k = j then term ts hs k else 0
def mu : Int := 1099511627776
theorem term_nonneg {ts : List Tr} {hs : List Int} {i : Nat} (h0 : 0 ≤ wAt hs i) (hd : 0 ≤ denAt ts i) (hn : 0 ≤ numAt ts i) : 0 ≤ term ts hs i :=
  Int.mul_nonneg (Int.ediv_nonneg h0 hd) hn
theorem okT_cases {n i p q : Int} (h : okT n i p q = true) : (i = -1 ∧ p = 0 ∧ q = 0) ∨ (0 ≤ i ∧ i < n ∧ 1 ≤ p ∧ p ≤ 1048576 ∧ 1 ≤ q ∧ q ≤ 1048576) := by simpa [okT] using h
theorem sumTo_mono {ts : List Tr} {hs : List Int} {n : Int} {j : Int} (hv : validB ts n = true) (hu : unitsB hs = true) (hl : hs.length = ts.length) {a b : Nat} (hab : a ≤ b) (hb : b ≤ ts.length) : sumTo ts hs j a ≤ sumTo ts hs j b := by
  induction b with
  | zero => obtain rfl : a = 0 := by omega
            exact Int.le_refl _
  | succ b ih =>
    by_cases e : a = b + 1
    · subst e; exact Int.le_refl _
    · have h1 := ih (by omega) (by omega)
      have ho := okT_cases (validTo_at hv b (by omega))
      have hw : 0 ≤ wAt hs b := by
        simp only [unitsB, decide_eq_true_eq] at hu
        exact (hu b (by omega)).1
      have := term_nonneg (ts := ts) (hs := hs) (i := b) hw (by omega) (by omega)
      simp only [sumTo]
      split <;> omega
theorem sumTo_nonneg {ts : List Tr} {hs : List Int} {n : Int} {j : Int} (hv : validB ts n = true) (hu : unitsB hs = true) (hl : hs.length = ts.length) {b : Nat} (hb : b ≤ ts.length) : 0 ≤ sumTo ts hs j b :=
  sumTo_mono (a := 0) hv hu hl (Nat.zero_le _) hb

def leftAt (ts : List Tr) (hs : List Int) (i : Nat) : Int := if itemAt ts i < 0 then wAt hs i else wAt hs i % denAt ts i
/-- No sum is too large. -/
def limB (ts : List Tr) (n : Int) (hs : List Int) : Bool := decide (∀ j : Nat, j < n.toNat → sumTo ts hs (j : Int) ts.length ≤ mu)
def argB (ts : List Tr) (n : Int) (hs : List Int) : Bool := decide (0 ≤ n) && decide (n ≤ 64) && validB ts n && decide (ts.length = hs.length) && unitsB hs
/-- The error of Convert. -/
def convE (ts : List Tr) (n : Int) (hs : List Int) : Int := if argB ts n hs = false then 1 else if limB ts n hs = false then 4 else 0
def nowL (ts : List Tr) (n : Int) (hs : List Int) : List Int := if convE ts n hs = 0 then (List.range n.toNat).map (fun j : Nat => sumTo ts hs (j : Int) ts.length) else []
def leftL (ts : List Tr) (n : Int) (hs : List Int) : List Int := if convE ts n hs = 0 then (List.range ts.length).map (leftAt ts hs) else []

/-- What Convert leaves. -/
def ConvPost (w : World) (ts : List Tr) (n : Int) (hs : List Int) (e : Ending) (w' : World) : Prop :=
  ∃ A1 c1 A2 c2, e = .returned (.tuple #[.slice A1 (nowL ts n hs).length c1, .slice A2 (leftL ts n hs).length c2, .int .i64 (convE ts n hs)]) ∧
    Row w' w'.heap.size A1 (ints (nowL ts n hs)) ∧ Row w' w'.heap.size A2 (ints (leftL ts n hs)) ∧ Below w.heap.size w w'

end Go.Proofs.YthjfdfdgbpbanaaGreatDoor
