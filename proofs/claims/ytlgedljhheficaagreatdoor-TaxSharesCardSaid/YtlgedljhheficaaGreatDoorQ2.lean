/- The plain law of a division by two digits: the corrections of a digit's guess. No program in sight. The plain law of the largest remainders: a sort of indices by insertion, and the choice of the greatest one by one. No program in sight. The plain law of shares by the largest remainders: what is left over, sums, bounds. No program in sight. slices.SortFunc on up to 12 indices, at the order of share.Split: it leaves the order of the largest remainders. Contracts of the reference's Amount and Divide. The contract of math/bits.Div64 where the high part is not zero and the divisor is of moderate size. The walk of math/bits.Div64 where the high part is not zero. The contract of share.divide where total and part are within the whole, and this is an amount; with it share.Split in every good case. The contract of the reference's Split in every good case. The contracts of Shares, the program's and the reference's, where no share is split: a bad tax, a bad part, parts that are all zero. The program's Shares and the reference's answer alike on every tax and all parts; where they answer, the shares are what the law asks. The contract of the reference's Ints at a bound of 6. The walk of TaxShares. The walk of TaxShares, the third argument true; both. -/
import Derived.Test.YtlgedljhheficaaGreatDoorA1
import Derived.Test.YtlgedljhheficaaGreatDoorA23
import Derived.Test.YtlgedljhheficaaGreatDoorA18
import Derived.Lib.EndianBits
import Derived.Deep.CutBlock
import Derived.Deep.DeepCutAuto
import Derived.Deep.AppendLies
import Derived.Test.YtlgedljhheficaaGreatDoorA24
import Derived.Test.YtlgedljhheficaaGreatDoorA45
import Derived.Test.YtlgedljhheficaaGreatDoorA38
import Derived.Test.YtlgedljhheficaaGreatDoorA34
import Derived.Test.YtlgedljhheficaaGreatDoorA29
import Derived.Test.YtlgedljhheficaaGreatDoorA47
namespace Go.Proofs.YtlgedljhheficaaGreatDoor

/-- A digit's guess: the divisor's two digits, the dividend's upper part and its next digit. -/
structure Dig (un y1 y0 d : Nat) : Prop where
  y1lo : 2147483648 ≤ y1
  y1hi : y1 < 4294967296
  y0hi : y0 < 4294967296
  dhi : d < 4294967296
  lt : un < y1 * 4294967296 + y0
/-- The digit. -/
def digQ (un y1 y0 d : Nat) : Nat := (un * 4294967296 + d) / (y1 * 4294967296 + y0)
/-- A guess that is not too small, and its rest. -/
structure Guess (un y1 y0 d q r : Nat) : Prop where
  eq : q * y1 + r = un
  ge : digQ un y1 y0 d ≤ q
  le : q ≤ 4294967297
section
variable {un y1 y0 d q r : Nat}
theorem digQ_mul (un y1 y0 d : Nat) : digQ un y1 y0 d * (y1 * 4294967296 + y0) ≤ un * 4294967296 + d := Nat.div_mul_le_self _ _
theorem digQ_lt (h : Dig un y1 y0 d) : digQ un y1 y0 d < 4294967296 := by
  have := h.y1lo
  have := h.lt
  have := h.dhi
  unfold digQ
  rw [Nat.div_lt_iff_lt_mul (by omega)]
  omega
theorem le_digQ (h : Dig un y1 y0 d) (hq : q * (y1 * 4294967296 + y0) ≤ un * 4294967296 + d) : q ≤ digQ un y1 y0 d := by
  have := h.y1lo
  unfold digQ
  rw [Nat.le_div_iff_mul_le (by omega)]
  exact hq
theorem lt_of_over (h : Dig un y1 y0 d) (hq : un * 4294967296 + d < q * (y1 * 4294967296 + y0)) : digQ un y1 y0 d < q := by
  have := h.y1lo
  unfold digQ
  rw [Nat.div_lt_iff_lt_mul (by omega)]
  exact hq
theorem mul_dig (q y1 y0 : Nat) : q * (y1 * 4294967296 + y0) = q * y1 * 4294967296 + q * y0 := by
  rw [Nat.mul_add, Nat.mul_assoc]
theorem Guess.start (h : Dig un y1 y0 d) : Guess un y1 y0 d (un / y1) (un % y1) := by
  have h1 := h.y1lo
  have h2 := h.y1hi
  have h3 := h.y0hi
  have h4 := h.lt
  have h5 := h.dhi
  refine ⟨by rw [Nat.mul_comm]; exact Nat.div_add_mod un y1, ?_, ?_⟩
  · rw [Nat.le_div_iff_mul_le (by omega)]
    have := digQ_mul un y1 y0 d
    rw [mul_dig] at this
    omega
  · have : un / y1 < 4294967298 := by
      rw [Nat.div_lt_iff_lt_mul (by omega)]
      omega
    omega
/-- The test fails: the guess is the digit. -/
theorem Guess.stop (h : Dig un y1 y0 d) (g : Guess un y1 y0 d q r) (ht : q * y0 ≤ 4294967296 * r + d) : q = digQ un y1 y0 d := by
  have h1 := g.eq
  have h2 := g.ge
  have h3 : q ≤ digQ un y1 y0 d := le_digQ h (by rw [mul_dig]; omega)
  omega
theorem Guess.step (h : Dig un y1 y0 d) (g : Guess un y1 y0 d q r) (ht : 4294967296 ≤ q ∨ 4294967296 * r + d < q * y0) : 1 ≤ q ∧ Guess un y1 y0 d (q - 1) (r + y1) := by
  have h1 := g.eq
  have h2 := g.ge
  have h3 := g.le
  have h4 := digQ_lt h
  have hlt : digQ un y1 y0 d < q := by
    rcases ht with h5 | h5
    · omega
    · exact lt_of_over h (by rw [mul_dig]; omega)
  refine ⟨by omega, ?_, by omega, by omega⟩
  have e : (q - 1) * y1 = q * y1 - y1 := by rw [Nat.sub_mul, Nat.one_mul]
  have : y1 ≤ q * y1 := Nat.le_mul_of_pos_left _ (by omega)
  omega
/-- The rest is a digit too long: the guess is the digit. -/
theorem Guess.brk (h : Dig un y1 y0 d) (g : Guess un y1 y0 d q r) (hr : 4294967296 ≤ r) (hq : q ≤ 4294967296) : q = digQ un y1 y0 d := by
  have h1 := g.eq
  have h2 := g.ge
  have hy := h.y0hi
  have h3 : q ≤ digQ un y1 y0 d := le_digQ h (by
    rw [mul_dig]
    have : q * y0 ≤ 4294967296 * 4294967295 := Nat.mul_le_mul hq (by omega)
    omega)
  omega
/-- What the digit leaves. -/
theorem dig_rest (h : Dig un y1 y0 d) : un * 4294967296 + d - digQ un y1 y0 d * (y1 * 4294967296 + y0) < y1 * 4294967296 + y0 ∧ un * 4294967296 + d = digQ un y1 y0 d * (y1 * 4294967296 + y0) + (un * 4294967296 + d - digQ un y1 y0 d * (y1 * 4294967296 + y0)) := by
  have h1 := digQ_mul un y1 y0 d
  have h2 := h.y1lo
  have h3 : un * 4294967296 + d < (digQ un y1 y0 d + 1) * (y1 * 4294967296 + y0) := by
    have := Nat.lt_succ_self (digQ un y1 y0 d)
    unfold digQ at this ⊢
    exact (Nat.div_lt_iff_lt_mul (by omega)).1 this
  rw [Nat.add_mul, Nat.one_mul] at h3
  omega
end

theorem join_digits {Y B q1 q0 R u1 u2 a b N : Nat} (hN : N = (u1 * B + a) * B + b) (e1 : u1 * B + a = q1 * Y + u2) (e2 : u2 * B + b = q0 * Y + R) (r2 : R < Y) : N / Y = q1 * B + q0 ∧ N % Y = R := by
  have hpos : 0 < Y := by omega
  have e3 : N = Y * (q1 * B + q0) + R := by
    rw [hN, e1, Nat.add_mul, Nat.add_assoc, e2, Nat.mul_add, Nat.mul_comm q1 Y, Nat.mul_assoc, Nat.mul_comm q0 Y, Nat.add_assoc]
  rw [e3]
  exact ⟨by rw [Nat.mul_add_div hpos, Nat.div_eq_of_lt r2, Nat.add_zero], by rw [Nat.mul_add_mod, Nat.mod_eq_of_lt r2]⟩
/-- Two digits, one behind the other, are the whole quotient. -/
theorem two_digits {u1 y1 y0 a b : Nat} (h1 : Dig u1 y1 y0 a) {u2 : Nat} (hu : u2 = u1 * 4294967296 + a - digQ u1 y1 y0 a * (y1 * 4294967296 + y0)) (h2 : Dig u2 y1 y0 b) {N : Nat} (hN : N = (u1 * 4294967296 + a) * 4294967296 + b) :
    N / (y1 * 4294967296 + y0) = digQ u1 y1 y0 a * 4294967296 + digQ u2 y1 y0 b ∧
    N % (y1 * 4294967296 + y0) = u2 * 4294967296 + b - digQ u2 y1 y0 b * (y1 * 4294967296 + y0) := by
  obtain ⟨r1, e1⟩ := dig_rest h1
  obtain ⟨r2, e2⟩ := dig_rest h2
  rw [← hu] at r1 e1
  exact join_digits hN e1 e2 r2

end Go.Proofs.YtlgedljhheficaaGreatDoor

namespace Go.Proofs.YtlgedljhheficaaGreatDoor

/-- Index i comes ahead of j: by the greater remainder, then by the index. -/
def ahead (r : Nat → Int) (i j : Nat) : Bool := decide (r j < r i) || (decide (r i = r j) && decide (i < j))
theorem ahead_iff (r : Nat → Int) (i j : Nat) : ahead r i j = true ↔ r j < r i ∨ (r i = r j ∧ i < j) := by simp [ahead]
theorem ahead_no (r : Nat → Int) (i j : Nat) : ahead r i j = false ↔ r i < r j ∨ (r i = r j ∧ j ≤ i) := by
  rw [← Bool.not_eq_true, ahead_iff]
  omega
theorem ahead_trans {r : Nat → Int} {i j k : Nat} (h1 : ahead r j i = false) (h2 : ahead r k j = false) : ahead r k i = false := by
  rw [ahead_no] at *
  omega
theorem ahead_asymm {r : Nat → Int} {i j : Nat} (h : ahead r i j = true) : ahead r j i = false := by
  rw [ahead_iff] at h
  rw [ahead_no]
  omega

def swpF (f : Nat → Nat) (j : Nat) : Nat → Nat := fun i => if i = j then f (j - 1) else if i = j - 1 then f j else f i
/-- The element at j moves down as long as it comes ahead of its neighbour. -/
def bub (r : Nat → Int) : Nat → (Nat → Nat) → Nat → Nat
  | 0, f => f
  | j + 1, f => if ahead r (f (j + 1)) (f j) = true then bub r j (swpF f (j + 1)) else f
/-- The first k + 1 elements are sorted. -/
def isrt (r : Nat → Int) (f : Nat → Nat) : Nat → Nat → Nat
  | 0 => f
  | k + 1 => bub r (k + 1) (isrt r f k)

structure PermN (n : Nat) (f : Nat → Nat) : Prop where
  lt : ∀ i, i < n → f i < n
  inj : ∀ i j, i < n → j < n → f i = f j → i = j
  surj : ∀ x, x < n → ∃ i, i < n ∧ f i = x
theorem PermN.id (n : Nat) : PermN n (fun i => i) := ⟨fun _ h => h, fun _ _ _ _ h => h, fun x hx => ⟨x, hx, rfl⟩⟩
theorem PermN.swp {n : Nat} {f : Nat → Nat} (h : PermN n f) {j : Nat} (hj : j + 1 < n) : PermN n (swpF f (j + 1)) := by
  have e1 : swpF f (j + 1) (j + 1) = f j := by simp [swpF]
  have e2 : swpF f (j + 1) j = f (j + 1) := by simp [swpF]
  have e3 : ∀ i, i ≠ j + 1 → i ≠ j → swpF f (j + 1) i = f i := fun i h1 h2 => by simp [swpF, h1, h2]
  have val : ∀ i, i < n → ∃ i', i' < n ∧ swpF f (j + 1) i = f i' ∧ (i = j + 1 ∧ i' = j ∨ i = j ∧ i' = j + 1 ∨ (i ≠ j + 1 ∧ i ≠ j ∧ i' = i)) := fun i hi => by
    by_cases h1 : i = j + 1
    · subst h1; exact ⟨j, by omega, e1, by omega⟩
    · by_cases h2 : i = j
      · subst h2; exact ⟨i + 1, by omega, e2, by omega⟩
      · exact ⟨i, hi, e3 i h1 h2, by omega⟩
  refine ⟨fun i hi => ?_, fun a b ha hb he => ?_, fun x hx => ?_⟩
  · obtain ⟨i', h1, h2, _⟩ := val i hi
    rw [h2]; exact h.lt i' h1
  · obtain ⟨a', h1, h2, h3⟩ := val a ha
    obtain ⟨b', h4, h5, h6⟩ := val b hb
    rw [h2, h5] at he
    have := h.inj a' b' h1 h4 he
    omega
  · obtain ⟨i, hi, he⟩ := h.surj x hx
    by_cases h1 : i = j + 1
    · subst h1; exact ⟨j, by omega, by rw [e2]; exact he⟩
    · by_cases h2 : i = j
      · subst h2; exact ⟨i + 1, hj, by rw [e1]; exact he⟩
      · exact ⟨i, hi, by rw [e3 i h1 h2]; exact he⟩
theorem PermN.bub {n : Nat} {r : Nat → Int} : ∀ {j : Nat} {f : Nat → Nat}, PermN n f → j < n → PermN n (bub r j f)
  | 0, _, h, _ => h
  | j + 1, f, h, hj => by
    unfold Go.Proofs.YtlgedljhheficaaGreatDoor.bub
    split
    · exact (h.swp hj).bub (by omega)
    · exact h
theorem PermN.isrt {n : Nat} {r : Nat → Int} {f : Nat → Nat} (h : PermN n f) : ∀ {k : Nat}, k < n → PermN n (isrt r f k)
  | 0, _ => h
  | k + 1, hk => (h.isrt (k := k) (by omega)).bub hk

/-- No later one comes ahead, up to K. -/
def Srt (r : Nat → Int) (f : Nat → Nat) (K : Nat) : Prop := ∀ a b, a < b → b ≤ K → ahead r (f b) (f a) = false
theorem bub_srt {r : Nat → Int} {K : Nat} : ∀ {j : Nat} {f : Nat → Nat}, j ≤ K → (∀ a b, a < b → b ≤ K → a ≠ j → b ≠ j → ahead r (f b) (f a) = false) → (∀ b, j < b → b ≤ K → ahead r (f b) (f j) = false) → Srt r (bub r j f) K
  | 0, f, _, h1, h2 => by
    intro a b hab hb
    by_cases ha : a = 0
    · subst ha; exact h2 b hab hb
    · exact h1 a b hab hb ha (by omega)
  | j + 1, f, hj, h1, h2 => by
    unfold bub
    have e1 : swpF f (j + 1) (j + 1) = f j := by simp [swpF]
    have e2 : swpF f (j + 1) j = f (j + 1) := by simp [swpF]
    have e3 : ∀ i, i ≠ j + 1 → i ≠ j → swpF f (j + 1) i = f i := fun i h1 h2 => by simp [swpF, h1, h2]
    split
    · rename_i hlt
      refine bub_srt (by omega) (fun a b hab hb ha hbj => ?_) (fun b hjb hb => ?_)
      · by_cases a1 : a = j + 1
        · subst a1
          rw [e1, e3 b (by omega) hbj]
          exact h1 j b (by omega) hb (by omega) (by omega)
        · by_cases b1 : b = j + 1
          · subst b1
            rw [e1, e3 a a1 ha]
            exact h1 a j (by omega) (by omega) (by omega) (by omega)
          · rw [e3 a a1 ha, e3 b b1 hbj]
            exact h1 a b hab hb a1 b1
      · rw [e2]
        by_cases b1 : b = j + 1
        · subst b1
          rw [e1]
          exact ahead_asymm hlt
        · rw [e3 b b1 (by omega)]
          exact h2 b (by omega) hb
    · rename_i hno
      have hno : ahead r (f (j + 1)) (f j) = false := by simpa using hno
      intro a b hab hb
      by_cases a1 : a = j + 1
      · subst a1; exact h2 b hab hb
      · by_cases b1 : b = j + 1
        · subst b1
          by_cases a2 : a = j
          · subst a2; exact hno
          · exact ahead_trans (h1 a j (by omega) (by omega) a1 (by omega)) hno
        · exact h1 a b hab hb a1 b1
/-- What lies behind is left alone. -/
theorem bub_far {r : Nat → Int} : ∀ {j : Nat} {f : Nat → Nat} {i : Nat}, j < i → bub r j f i = f i
  | 0, _, _, _ => rfl
  | j + 1, f, i, h => by
    unfold bub
    split
    · rw [bub_far (by omega)]
      have h1 : i ≠ j + 1 := by omega
      have h2 : i ≠ j := by omega
      simp [swpF, h1, h2]
    · rfl
theorem isrt_srt (r : Nat → Int) (f : Nat → Nat) : ∀ k, Srt r (isrt r f k) k
  | 0 => fun a b hab hb => by omega
  | k + 1 => by
    refine bub_srt (Nat.le_refl _) (fun a b hab hb ha hb2 => isrt_srt r f k a b hab (by omega)) (fun b h1 h2 => by omega)

/-- The order of the remainders. -/
def ordN (r : Nat → Int) (n : Nat) : Nat → Nat := isrt r (fun i => i) (n - 1)
theorem ordN_perm (r : Nat → Int) {n : Nat} (h : 1 ≤ n) : PermN n (ordN r n) := (PermN.id n).isrt (by omega)
theorem ordN_srt (r : Nat → Int) {n : Nat} {a b : Nat} (hab : a < b) (hb : b < n) : ahead r (ordN r n b) (ordN r n a) = false := isrt_srt r _ (n - 1) a b hab (by omega)

/-- What is left of the remainders when the first k of the order have been taken. -/
def restOf (r : Nat → Int) (os : Nat → Nat) (k i : Nat) : Int := if ∃ j, j < k ∧ os j = i then -1 else r i
/-- The first of the greatest, among the first m. -/
def best (x : Nat → Int) : Nat → Nat
  | 0 => 0
  | m + 1 => if x (best x m) < x (m + 1) then m + 1 else best x m
theorem best_le (x : Nat → Int) : ∀ m, best x m ≤ m
  | 0 => Nat.le_refl _
  | m + 1 => by
    have := best_le x m
    unfold best
    split <;> omega
theorem best_spec (x : Nat → Int) : ∀ m i, i ≤ m → x i ≤ x (best x m) ∧ (i < best x m → x i < x (best x m))
  | 0, i, h => by
    obtain rfl : i = 0 := by omega
    simp [best]
  | m + 1, i, h => by
    have hb := best_le x m
    unfold best
    split
    · rename_i hlt
      by_cases hi : i = m + 1
      · subst hi; exact ⟨Int.le_refl _, fun h => by omega⟩
      · have := (best_spec x m i (by omega)).1
        exact ⟨by omega, fun _ => by omega⟩
    · rename_i hno
      by_cases hi : i = m + 1
      · subst hi; exact ⟨by omega, fun h => by omega⟩
      · exact best_spec x m i (by omega)
theorem best_ord {r : Nat → Int} {n : Nat} (hn : 1 ≤ n) (hr : ∀ i, i < n → 0 ≤ r i) {k : Nat} (hk : k < n) : best (restOf r (ordN r n) k) (n - 1) = ordN r n k := by
  have hp := ordN_perm r hn
  have hb := best_le (restOf r (ordN r n) k) (n - 1)
  have hok := hp.lt k hk
  have hrk : restOf r (ordN r n) k (ordN r n k) = r (ordN r n k) := by
    unfold restOf
    rw [if_neg]
    rintro ⟨j, hj, he⟩
    have := hp.inj j k (by omega) hk he
    omega
  have h1 := best_spec (restOf r (ordN r n) k) (n - 1) (ordN r n k) (by omega)
  obtain ⟨m, hm, hme⟩ := hp.surj (best (restOf r (ordN r n) k) (n - 1)) (by omega)
  generalize hB : best (restOf r (ordN r n) k) (n - 1) = b at *
  have hr0 := hr _ hok
  rcases Nat.lt_trichotomy m k with h | h | h
  · have : restOf r (ordN r n) k b = -1 := by
      unfold restOf
      rw [if_pos ⟨m, h, hme⟩]
    omega
  · subst h; exact hme.symm
  · have hrb : restOf r (ordN r n) k b = r b := by
      unfold restOf
      rw [if_neg]
      rintro ⟨j, hj, he⟩
      have := hp.inj j m (by omega) hm (by rw [he, hme])
      omega
    have hs := ordN_srt r h hm
    rw [hme, ahead_no] at hs
    have h2 := best_spec (restOf r (ordN r n) k) (n - 1) (ordN r n k) (by omega)
    rw [hB] at h2
    rw [hrk, hrb] at h2
    have h3 : ordN r n k ≠ b := fun e => by
      have := hp.inj k m hk hm (by rw [e, hme])
      omega
    omega
theorem restOf_next {r : Nat → Int} {os : Nat → Nat} {k : Nat} (i : Nat) : restOf r os (k + 1) i = if i = os k then -1 else restOf r os k i := by
  unfold restOf
  by_cases h : i = os k
  · rw [if_pos h, if_pos ⟨k, by omega, h.symm⟩]
  · rw [if_neg h]
    by_cases h2 : ∃ j, j < k ∧ os j = i
    · obtain ⟨j, hj, he⟩ := h2
      rw [if_pos ⟨j, by omega, he⟩, if_pos ⟨j, hj, he⟩]
    · rw [if_neg h2, if_neg]
      rintro ⟨j, hj, he⟩
      by_cases hjk : j = k
      · subst hjk; exact h he.symm
      · exact h2 ⟨j, by omega, he⟩

end Go.Proofs.YtlgedljhheficaaGreatDoor

namespace Go.Proofs.YtlgedljhheficaaGreatDoor

theorem sumTo_congr {f g : Nat → Int} : ∀ {n : Nat}, (∀ i, i < n → f i = g i) → sumTo f n = sumTo g n
  | 0, _ => rfl
  | n + 1, h => by
    show sumTo f n + f n = sumTo g n + g n
    rw [sumTo_congr (fun i hi => h i (by omega)), h n (by omega)]
theorem sumTo_swp (g : Nat → Int) (f : Nat → Nat) {j : Nat} : ∀ {n : Nat}, j + 1 < n → sumTo (fun i => g (swpF f (j + 1) i)) n = sumTo (fun i => g (f i)) n
  | 0, h => by omega
  | n + 1, h => by
    have e1 : swpF f (j + 1) (j + 1) = f j := by simp [swpF]
    have e2 : swpF f (j + 1) j = f (j + 1) := by simp [swpF]
    have e3 : ∀ i, i ≠ j + 1 → i ≠ j → swpF f (j + 1) i = f i := fun i h1 h2 => by simp [swpF, h1, h2]
    by_cases hn : n = j + 1
    · subst hn
      show sumTo (fun i => g (swpF f (j + 1) i)) j + g (swpF f (j + 1) j) + g (swpF f (j + 1) (j + 1)) = sumTo (fun i => g (f i)) j + g (f j) + g (f (j + 1))
      rw [e1, e2, sumTo_congr (g := fun i => g (f i)) (fun i hi => by rw [e3 i (by omega) (by omega)])]
      omega
    · show sumTo (fun i => g (swpF f (j + 1) i)) n + g (swpF f (j + 1) n) = sumTo (fun i => g (f i)) n + g (f n)
      rw [sumTo_swp g f (by omega), e3 n (by omega) (by omega)]
theorem sumTo_bub (g : Nat → Int) (r : Nat → Int) {n : Nat} : ∀ {j : Nat} {f : Nat → Nat}, j < n → sumTo (fun i => g (bub r j f i)) n = sumTo (fun i => g (f i)) n
  | 0, _, _ => rfl
  | j + 1, f, h => by
    unfold bub
    split
    · rw [sumTo_bub g r (by omega), sumTo_swp g f h]
    · rfl
theorem sumTo_isrt (g : Nat → Int) (r : Nat → Int) (f : Nat → Nat) {n : Nat} : ∀ {k : Nat}, k < n → sumTo (fun i => g (isrt r f k i)) n = sumTo (fun i => g (f i)) n
  | 0, _ => rfl
  | k + 1, h => by
    show sumTo (fun i => g (bub r (k + 1) (isrt r f k) i)) n = _
    rw [sumTo_bub g r h]
    exact sumTo_isrt g r f (by omega)
theorem sumTo_ord (g : Nat → Int) (r : Nat → Int) {n : Nat} (hn : 1 ≤ n) : sumTo (fun i => g (ordN r n i)) n = sumTo g n := sumTo_isrt g r (fun i => i) (by omega)
theorem sumTo_add (f g : Nat → Int) : ∀ n, sumTo (fun i => f i + g i) n = sumTo f n + sumTo g n
  | 0 => rfl
  | n + 1 => by
    show sumTo (fun i => f i + g i) n + (f n + g n) = sumTo f n + f n + (sumTo g n + g n)
    rw [sumTo_add f g n]; omega
theorem sumTo_mul (c : Int) (f : Nat → Int) : ∀ n, sumTo (fun i => c * f i) n = c * sumTo f n
  | 0 => by simp [sumTo]
  | n + 1 => by
    show sumTo (fun i => c * f i) n + c * f n = c * (sumTo f n + f n)
    rw [sumTo_mul c f n, Int.mul_add]
theorem sumTo_lo {f : Nat → Int} {n : Nat} (h : ∀ i, i < n → 0 ≤ f i) : 0 ≤ sumTo f n := by
  induction n with
  | zero => exact Int.le_refl _
  | succ n ih =>
    have := ih (fun i hi => h i (by omega))
    have := h n (by omega)
    show 0 ≤ sumTo f n + f n
    omega
theorem sumTo_le_mul {f : Nat → Int} {c : Int} {n : Nat} (h : ∀ i, i < n → f i ≤ c) : sumTo f n ≤ n * c := by
  induction n with
  | zero => simp [sumTo]
  | succ n ih =>
    have h1 := ih (fun i hi => h i (by omega))
    have h2 := h n (by omega)
    show sumTo f n + f n ≤ ((n + 1 : Nat) : Int) * c
    have e : ((n + 1 : Nat) : Int) * c = n * c + c := by rw [Int.natCast_add, Int.add_mul]; simp
    omega
theorem sumTo_ind (k : Nat) : ∀ n, sumTo (fun m => if m < k then 1 else 0) n = (min k n : Nat)
  | 0 => by simp [sumTo]
  | n + 1 => by
    show sumTo (fun m => if m < k then 1 else 0) n + (if n < k then 1 else 0) = _
    rw [sumTo_ind k n]
    split <;> omega
/-- A sum over the first ones, when nothing comes behind. -/
theorem sumTo_tail {f : Nat → Int} {k : Nat} : ∀ {n : Nat}, k ≤ n → (∀ i, k ≤ i → i < n → f i = 0) → sumTo f n = sumTo f k
  | 0, h, _ => by rw [show k = 0 by omega]
  | n + 1, h, h0 => by
    by_cases hk : k = n + 1
    · rw [hk]
    · show sumTo f n + f n = sumTo f k
      rw [h0 n (by omega) (by omega), sumTo_tail (by omega) (fun i h1 h2 => h0 i h1 (by omega))]
      omega

/-- Quotients and remainders of shares. -/
structure Parts (n : Nat) (p : Nat → Int) (S T : Int) (q r : Nat → Int) : Prop where
  pos : 1 ≤ n
  p0 : ∀ i, i < n → 0 ≤ p i
  sum : sumTo p n = S
  S1 : 1 ≤ S
  T0 : 0 ≤ T
  T1 : T ≤ S
  eq : ∀ i, i < n → T * p i = q i * S + r i
  r0 : ∀ i, i < n → 0 ≤ r i
  r1 : ∀ i, i < n → r i < S
  q0 : ∀ i, i < n → 0 ≤ q i
section
variable {n : Nat} {p : Nat → Int} {S T : Int} {q r : Nat → Int}
theorem Parts.total (h : Parts n p S T q r) : T * S = sumTo q n * S + sumTo r n := by
  have e1 : sumTo (fun i => T * p i) n = T * S := by rw [sumTo_mul, h.sum]
  have e2 : sumTo (fun i => T * p i) n = sumTo (fun i => S * q i + r i) n := sumTo_congr fun i hi => by rw [h.eq i hi, Int.mul_comm]
  rw [sumTo_add (fun i => S * q i) r, sumTo_mul S q, e1] at e2
  rw [e2, Int.mul_comm]
theorem Parts.left (h : Parts n p S T q r) : (T - sumTo q n) * S = sumTo r n := by
  have := h.total
  rw [Int.sub_mul]
  omega
theorem Parts.left0 (h : Parts n p S T q r) : 0 ≤ T - sumTo q n := by
  have h1 := h.left
  have h2 := sumTo_lo h.r0
  have h3 := h.S1
  rcases Int.lt_or_le (T - sumTo q n) 0 with h4 | h4
  · have := Int.mul_neg_of_neg_of_pos h4 (show 0 < S by omega)
    omega
  · exact h4
/-- Among the first ones there is a remainder. -/
theorem Parts.some (h : Parts n p S T q r) {k : Nat} (hk : (k : Int) < T - sumTo q n) : k < n ∧ 0 < r (ordN r n k) := by
  have h1 := h.left
  have hS := h.S1
  have hp := ordN_perm r h.pos
  have hkn : k < n := by
    rcases Nat.lt_or_ge k n with h2 | h2
    · exact h2
    · exfalso
      have h3 := sumTo_le_mul (c := S) (fun i hi => Int.le_of_lt (h.r1 i hi))
      have h4 : ((n : Int) + 1) * S ≤ (T - sumTo q n) * S := Int.mul_le_mul_of_nonneg_right (by omega) (by omega)
      rw [Int.add_mul] at h4
      omega
  refine ⟨hkn, ?_⟩
  have hr0 := h.r0 _ (hp.lt k hkn)
  rcases Int.lt_or_le 0 (r (ordN r n k)) with h2 | h2
  · exact h2
  · exfalso
    have hz : ∀ i, k ≤ i → i < n → r (ordN r n i) = 0 := fun i h3 h4 => by
      have h5 := h.r0 _ (hp.lt i h4)
      by_cases h6 : i = k
      · subst h6; omega
      · have h7 := ordN_srt r (show k < i by omega) h4
        rw [ahead_no] at h7
        omega
    have e1 := sumTo_ord r r h.pos
    rw [sumTo_tail (k := k) (by omega) hz] at e1
    have h3 : sumTo (fun i => r (ordN r n i)) k ≤ k * S := sumTo_le_mul fun i hi => Int.le_of_lt (h.r1 _ (hp.lt i (by omega)))
    have h4 : ((k : Int) + 1) * S ≤ (T - sumTo q n) * S := Int.mul_le_mul_of_nonneg_right (by omega) (by omega)
    rw [Int.add_mul] at h4
    omega
theorem Parts.q_le (h : Parts n p S T q r) {i : Nat} (hi : i < n) : q i ≤ p i := by
  have h1 := h.eq i hi
  have h2 := h.r0 i hi
  have h3 : T * p i ≤ S * p i := Int.mul_le_mul_of_nonneg_right h.T1 (h.p0 i hi)
  have h4 : q i * S ≤ p i * S := by rw [Int.mul_comm (p i) S]; omega
  have := h.S1
  exact Int.le_of_mul_le_mul_right h4 (by omega)
theorem Parts.q_lt (h : Parts n p S T q r) {i : Nat} (hi : i < n) (hr : 0 < r i) : q i < p i := by
  have h1 := h.eq i hi
  have h3 : T * p i ≤ S * p i := Int.mul_le_mul_of_nonneg_right h.T1 (h.p0 i hi)
  have h4 : q i * S < p i * S := by rw [Int.mul_comm (p i) S]; omega
  have := h.S1
  exact Int.lt_of_mul_lt_mul_right h4 (by omega)
theorem bumped_ord {os : Nat → Nat} (hp : PermN n os) {k m : Nat} (hm : m < n) : bumped q os k (os m) = q (os m) + if m < k then 1 else 0 := by
  unfold bumped
  by_cases h : m < k
  · rw [if_pos ⟨m, h, rfl⟩, if_pos h]
  · rw [if_neg h, if_neg]
    rintro ⟨j, hj, he⟩
    have := hp.inj j m (by omega) hm he
    omega
/-- The shares are within the parts, and add up to the whole. -/
theorem Parts.share (h : Parts n p S T q r) {k : Nat} (hk : T - sumTo q n = k) {i : Nat} (hi : i < n) : 0 ≤ bumped q (ordN r n) k i ∧ bumped q (ordN r n) k i ≤ p i := by
  have h1 := h.q0 i hi
  have h2 := h.q_le hi
  unfold bumped
  split
  · rename_i he
    obtain ⟨j, hj, he⟩ := he
    have h3 := (h.some (k := j) (by omega)).2
    rw [he] at h3
    have := h.q_lt hi h3
    omega
  · omega
theorem Parts.kn (h : Parts n p S T q r) {k : Nat} (hk : T - sumTo q n = k) : k ≤ n := by
  cases k with
  | zero => omega
  | succ k =>
    have := (h.some (k := k) (by omega)).1
    omega
theorem Parts.shares_sum (h : Parts n p S T q r) {k : Nat} (hk : T - sumTo q n = k) : sumTo (bumped q (ordN r n) k) n = T := by
  have hp := ordN_perm r h.pos
  have hkn := h.kn hk
  rw [← sumTo_ord (bumped q (ordN r n) k) r h.pos, sumTo_congr (g := fun m => q (ordN r n m) + if m < k then 1 else 0) (fun m hm => bumped_ord hp hm), sumTo_add (fun m => q (ordN r n m)) (fun m => if m < k then 1 else 0), sumTo_ord q r h.pos, sumTo_ind]
  omega
end

end Go.Proofs.YtlgedljhheficaaGreatDoor

namespace Go.Proofs.YtlgedljhheficaaGreatDoor
open Go.RowKit

theorem bub_succ (r : Nat → Int) (j : Nat) (f : Nat → Nat) : bub r (j + 1) f = if ahead r (f (j + 1)) (f j) = true then bub r j (swpF f (j + 1)) else f := rfl
/-- Indices as a list. -/
def fl (n : Nat) (f : Nat → Nat) : List Int := (List.range n).map fun i => (f i : Int)
theorem fl_length (n : Nat) (f : Nat → Nat) : (fl n f).length = n := by simp [fl]
theorem fl_at {n : Nat} {f : Nat → Nat} {i : Nat} (h : i < n) : (ints (fl n f))[i]? = some (.int .i64 (f i)) := by simp [ints, fl, h]
theorem fl_swp {n : Nat} {f : Nat → Nat} {j : Nat} (hj : j + 1 < n) : ((ints (fl n f)).set (j + 1) (.int .i64 (f j))).set j (.int .i64 (f (j + 1))) = ints (fl n (swpF f (j + 1))) := by
  rw [ints_set, ints_set]
  congr 1
  apply List.ext_getElem?
  intro i
  simp only [fl, List.getElem?_set, List.length_map, List.length_range, List.length_set, List.getElem?_map]
  by_cases hi : i < n
  · by_cases h1 : j = i
    · subst h1
      simp [hi, swpF]
    · rw [if_neg h1]
      by_cases h2 : j + 1 = i
      · subst h2
        simp [hi, swpF]
      · rw [if_neg h2]
        have h3 : i ≠ j + 1 := fun e => h2 e.symm
        have h4 : i ≠ j := fun e => h1 e.symm
        simp [hi, swpF, h3, h4]
  · have h5 : ¬ j = i := by omega
    have h6 : ¬ j + 1 = i := by omega
    simp [hi, h5, h6]
theorem ord_ahead {r : Nat → Int} {n i j : Nat} (hi : i < n) (hj : j < n) : (ordI ((List.range n).map r) i j < 0 ∧ ahead r i j = true) ∨ (0 ≤ ordI ((List.range n).map r) i j ∧ ahead r i j = false) := by
  have e1 : ((List.range n).map r)[i]?.getD 0 = r i := by simp [hi]
  have e2 : ((List.range n).map r)[j]?.getD 0 = r j := by simp [hj]
  unfold ordI
  rw [e1, e2, ahead_iff, ahead_no]
  unfold orI cmpI
  split <;> split <;> (try split) <;> omega

theorem grown_tr {a b c : World} {row : Option Nat} (h : a.grownBy b row) (k : b.grownBy c row) : a.grownBy c row :=
  ⟨k.os.trans h.os, k.tape.trans h.tape, k.output.trans h.output, Nat.le_trans h.size k.size, fun i hi hne => (k.block i (Nat.lt_of_lt_of_le hi h.size) hne).trans (h.block i hi hne)⟩
/-- What the sort reads and writes. -/
structure SrtAt (w0 w : World) (bx gr gd n : Nat) (r : Nat → Int) (f : Nat → Nat) : Prop where
  ord : OrdAt w bx gr gd n ((List.range n).map r)
  dat : Bk w gd 3 (ints (fl n f))
  gr : w0.grownBy w (some gd)
  lt : gd < w0.heap.size
  pos : 1 ≤ n
section
variable {w0 w w' : World} {bx gr gd n : Nat} {r : Nat → Int} {f f' : Nat → Nat}
theorem SrtAt.below (h : SrtAt w0 w bx gr gd n r f) (hb : Below w.heap.size w w') : SrtAt w0 w' bx gr gd n r f :=
  ⟨h.ord.below hb, h.dat.below hb h.dat.lt, grown_tr h.gr (grown_of_below hb _), h.lt, h.pos⟩
theorem SrtAt.ne (h : SrtAt w0 w bx gr gd n r f) : bx ≠ gd ∧ gr ≠ gd := by
  have hp := h.pos
  refine ⟨fun e => ?_, fun e => ?_⟩
  · have h1 := h.ord.box
    rw [e, h.dat.cell, fl_at (by omega)] at h1
    simp at h1
  · have h1 := h.ord.rem 0 (.int .u64 (r 0)) (by simp [u64s, show 0 < n by omega])
    rw [e, h.dat.cell, fl_at (by omega)] at h1
    simp at h1
theorem SrtAt.wrote {a b : Nat} {u v : Value} (h : SrtAt w0 w bx gr gd n r f) (hd : ((ints (fl n f)).set a u).set b v = ints (fl n f')) : SrtAt w0 ((w.setCell ⟨gd, a, none⟩ u).setCell ⟨gd, b, none⟩ v) bx gr gd n r f' := by
  obtain ⟨n1, n2⟩ := h.ne
  have hsz : ((w.setCell ⟨gd, a, none⟩ u).setCell ⟨gd, b, none⟩ v).heap.size = w.heap.size := by simp [World.setCell]
  have far : ∀ k, k ≠ gd → ((w.setCell ⟨gd, a, none⟩ u).setCell ⟨gd, b, none⟩ v).heap[k]? = w.heap[k]? := fun k hk => by
    rw [Below.heap_setCell _ _ _ _ (by simpa using hk), Below.heap_setCell _ _ _ _ (by simpa using hk)]
  refine ⟨⟨by rw [hsz]; exact h.ord.lbx, by rw [hsz]; exact h.ord.lgr, by rw [hsz]; exact h.ord.lgd, h.ord.len, h.ord.small, (World.cell?_of_block (far bx n1)).trans h.ord.box, fun k u hu => (World.cell?_of_block (far gr n2)).trans (h.ord.rem k u hu)⟩, ?_, ?_, h.lt, h.pos⟩
  · rw [← hd]
    exact (h.dat.set a u).set b v
  · exact ⟨h.gr.os, h.gr.tape, h.gr.output, by rw [hsz]; exact h.gr.size, fun i hi hne => (far i (fun e => hne (by rw [e]))).trans (h.gr.block i hi hne)⟩
end

set_option maxRecDepth 100000 in
set_option maxHeartbeats 2000000 in
theorem isort_any {w : World} {bx gr gd n : Nat} {r : Nat → Int} (h : SrtAt w w bx gr gd n r (fun i => i)) (hn : n ≤ 12) :
    Calls Tryz.prog 135 #[.slice (some ⟨gd, 0, none⟩) n n, .int .i64 0, .int .i64 n, .func (.func 70) #[] #[.pointer (some ⟨bx, 0, none⟩)]] w fun e w' => e = .returned (.tuple #[]) ∧ SrtAt w w' bx gr gd n r (ordN r n) := by
  have hpos := h.pos
  have H := Lib.hid h
  clear h
  go_enter Tryz.func135, Tryz.ntmps135
  go_wp2_with fail
  go_loopw [8] (fun i wr => ∃ k : Nat, i = .int .i64 ((k : Int) + 1) ∧ k < n ∧ SrtAt w wr bx gr gd n r (isrt r (fun i => i) k)) (fun i _ => n + 1 - (intOf i).toNat)
  case atStart => exact ⟨0, rfl, hpos, H.out⟩
  case round =>
    clear H
    obtain ⟨k, rfl, hk, hS⟩ := hrel
    have HS := Lib.hid hS
    clear hS
    by_cases hlt : k + 1 < n
    · have hd14 : decide ((k : Int) + 1 < (n : Int)) = true := by simp; omega
      go_wp2_with fail
      go_loopw [9] (fun i wq => ∃ (j : Nat) (g : Nat → Nat), i = .int .i64 (j : Int) ∧ j ≤ k + 1 ∧ PermN n g ∧ bub r j g = isrt r (fun i => i) (k + 1) ∧ SrtAt w wq bx gr gd n r g) (fun i _ => (intOf i).toNat)
      case atStart => exact ⟨k + 1, isrt r (fun i => i) k, by go_num, Nat.le_refl _, (PermN.id n).isrt hk, rfl, HS.out⟩
      case round =>
        clear HS
        obtain ⟨j, g, rfl, hj, hP, hbub, hS⟩ := hrel
        have HS := Lib.hid hS
        have HB := Lib.hid hbub
        have HP := Lib.hid hP
        clear hS hbub hP
        cases j with
        | zero =>
          have d0 : decide ((0 : Int) < ((0 : Nat) : Int)) = false := by simp
          go_wp2_with fail
          go_quiet (fail)
          go_wp2
          go_roundw
          case rel => exact ⟨k + 1, by go_num, by omega, by rw [← HB.out]; exact HS.out.below (bel_drewN (Below.refl _ _) _)⟩
          case measure => simp [intOf]; omega
        | succ j =>
          have hc0 := HS.out.dat.cell j
          have hc1 := HS.out.dat.cell (j + 1)
          rw [fl_at (by omega)] at hc0 hc1
          have hfr := fun m => HS.out.dat.frozen m
          have f0 := hfr j
          have f1 := hfr (j + 1)
          have hgl := HS.out.dat.lt
          have g0 := HP.out.lt j (by omega)
          have g1 := HP.out.lt (j + 1) (by omega)
          have ej : ((j + 1 : Nat) : Int) = (j : Int) + 1 := by omega
          rw [ej]
          have hcall0 := (fun W (hW : Below wr.heap.size wr W) => ord_any bx gr n ((List.range n).map r) (g (j + 1)) (g j) W (by simp) g1 g0 (HS.out.below hW).ord.box (HS.out.below hW).ord.rem)
          have hcall := Lib.hid hcall0
          have hoa := ord_ahead (r := r) g1 g0
          have hsw := fl_swp (n := n) (f := g) (j := j) (by omega)
          have HW1 := Lib.hid (fun (W : World) (h : SrtAt w W bx gr gd n r g) => h.wrote hsw)
          have hPs := HP.out.swp (j := j) (by omega)
          have HPs := Lib.hid hPs
          have HB1 : Hid (ahead r (g (j + 1)) (g j) = true → bub r j (swpF g (j + 1)) = isrt r (fun i => i) (k + 1)) := fun e => by rw [← HB.out, bub_succ, if_pos e]
          have HB2 : Hid (ahead r (g (j + 1)) (g j) = false → g = isrt r (fun i => i) (k + 1)) := fun e => by rw [← HB.out, bub_succ, if_neg (by rw [e]; decide)]
          clear hcall0 hfr hsw hPs
          generalize ordI ((List.range n).map r) (g (j + 1)) (g j) = R at *
          generalize hx0 : g j = x0 at hc0 hcall hoa
          generalize hx1 : g (j + 1) = x1 at hc1 hcall hoa
          have X0 := Lib.hid hx0
          have X1 := Lib.hid hx1
          clear hx0 hx1
          have a1 : IntKind.i64.wrap ((j : Int) + 1 - 1) = (j : Int) := IntWalk.i64_in _ (by omega) |>.trans (by omega)
          have a2 : ((j : Int) + 1).toNat = j + 1 := by omega
          have a3 : (0 : Int) < (j : Int) + 1 := by omega
          have a8 : IntKind.i64.wrap (j : Int) = (j : Int) := IntWalk.i64_in _ (by omega)
          have a9 : j < n := by omega
          have a5 : decide ((0 : Int) < (j : Int) + 1) = true := decide_eq_true a3
          have a6 : (0 : Int) ≤ (j : Int) + 1 := by omega
          have a7 : ((j : Int) + 1 - 1).toNat = j := by omega
          have a10 : (j : Int) + 1 < (n : Int) := by omega
          have a11 : (j : Int) < (n : Int) := by omega
          go_wp2_with fail
          go_still_tail 14, (by kernel_rfl)
          change wpList _ _ _ _ _ wr.drew
          have hwd : Below wr.heap.size wr wr.drew := (Below.refl _ wr).drew
          go_wp2_with fail
          refine (hcall.out wr.drew hwd).mono ?_
          rintro e wA ⟨rfl, hbA⟩
          have GA := hwd.trans hbA
          have HSA := Lib.hid (HS.out.below GA)
          have k0 := (GA.cell (p := ⟨gd, j, none⟩) hgl).trans hc0
          have k1 := (GA.cell (p := ⟨gd, j + 1, none⟩) hgl).trans hc1
          have m0 := HSA.out.dat.frozen j
          have m1 := HSA.out.dat.frozen (j + 1)
          have ml := HSA.out.dat.lt
          clear hc0 hc1 f0 f1 hgl hbA hwd hcall GA
          rcases hoa with ⟨hR, hA⟩ | ⟨hR, hA⟩
          · have hb1 := HB1.out (by rw [X1.out, X0.out]; exact hA)
            have HBB := Lib.hid hb1
            have hR2 : decide (R < 0) = true := by simpa using hR
            clear hb1 HB1 HB2
            go_wp2_with fail
            have hnew := (HW1.out wA HSA.out).below (Below.refl _ _).drew
            rw [X0.out, X1.out] at hnew
            have HNEW := Lib.hid hnew
            clear hnew
            go_region
            go_wp2
            go_roundw
            case rel => exact ⟨j, swpF g (j + 1), by go_num, by omega, HPs.out, HBB.out, HNEW.out⟩
            case measure => simp [intOf]
          · have hb2 := HB2.out (by rw [X1.out, X0.out]; exact hA)
            have HBB := Lib.hid hb2
            have hR2 : decide (R < 0) = false := by simpa using hR
            clear hb2 HB1 HB2
            go_wp2
            go_roundw
            case rel => exact ⟨k + 1, by go_num, by omega, by rw [← HBB.out]; exact HSA.out⟩
            case measure => simp [intOf]; omega
    · have hkn : k = n - 1 := by omega
      subst hkn
      go_wp2
      go_end0
      exact ⟨rfl, HS.out⟩

set_option maxRecDepth 100000 in
set_option maxHeartbeats 1000000 in
theorem pdq_any {w : World} {bx gr gd n : Nat} {r : Nat → Int} (lim : Int) (h : SrtAt w w bx gr gd n r (fun i => i)) (hn : n ≤ 12) :
    Calls Tryz.prog 122 #[.slice (some ⟨gd, 0, none⟩) n n, .int .i64 0, .int .i64 n, .int .i64 lim, .func (.func 70) #[] #[.pointer (some ⟨bx, 0, none⟩)]] w fun e w' => e = .returned (.tuple #[]) ∧ SrtAt w w' bx gr gd n r (ordN r n) := by
  have HI := Lib.hid (isort_any h hn)
  clear h
  go_enter Tryz.func122, Tryz.ntmps122
  go_wp2_with fail
  refine wp_loop_rounds 1 ?_
  rw [rounds_succ]
  go_wp2_with fail
  refine HI.out.mono ?_
  rintro e w1 ⟨rfl, hb1⟩
  go_wp2
  refine bodyPost_ret (results_none rfl _ _ _) rfl ?_
  exact ⟨rfl, hb1⟩

set_option maxRecDepth 100000 in
set_option maxHeartbeats 1000000 in
theorem sort_any {w : World} {bx gr gd n : Nat} {r : Nat → Int} (h : SrtAt w w bx gr gd n r (fun i => i)) (hn : n ≤ 12) :
    Calls Tryz.prog 69 #[.slice (some ⟨gd, 0, none⟩) n n, .func (.func 70) #[] #[.pointer (some ⟨bx, 0, none⟩)]] w fun e w' => e = .returned (.tuple #[]) ∧ SrtAt w w' bx gr gd n r (ordN r n) := by
  have HI := Lib.hid (fun lim => pdq_any lim h hn)
  have HL := Lib.hid (Tryz.bits_Len n w (by omega) (by omega))
  clear h
  go_enter Tryz.func69, Tryz.ntmps69
  go_wp2_with fail
  refine HL.out.mono ?_
  rintro e w1 ⟨rfl, rfl⟩
  go_wp2_with fail
  refine (HI.out _).mono ?_
  rintro e w1 ⟨rfl, hb1⟩
  go_wp2
  go_end0
  exact ⟨rfl, hb1⟩

theorem sort_ok {n : Nat} {r : Nat → Int} (h1 : 1 ≤ n) (hn : n ≤ 12) : SortOk n r (ordN r n) := by
  intro W bx gr gd ho hb
  have hS : SrtAt W W bx gr gd n r (fun i => i) := ⟨ho, hb, ⟨rfl, rfl, rfl, Nat.le_refl _, fun _ _ _ => rfl⟩, ho.lgd, h1⟩
  exact (sort_any hS hn).mono fun e w' ⟨he, hs⟩ => ⟨he, hs.gr, hs.dat⟩

end Go.Proofs.YtlgedljhheficaaGreatDoor

namespace Go.Proofs.YtlgedljhheficaaGreatDoor
open Go.RowKit

set_option maxHeartbeats 400000 in
theorem rAmount_any (x : Int) (w : World) : Calls Tryz.prog 74 #[.int .i64 x] w fun e w' => e = .returned (.bool (inB x)) ∧ w = w' := by
  by_cases h1 : 0 ≤ x
  · by_cases h2 : x ≤ 1099511627776
    · go_enter Tryz.func74, Tryz.ntmps74
      go_wp2
      go_ret
      exact ⟨by simp [inB, h1, h2], rfl⟩
    · go_enter Tryz.func74, Tryz.ntmps74
      go_wp2
      go_ret
      exact ⟨by simp [inB, h1]; omega, rfl⟩
  · go_enter Tryz.func74, Tryz.ntmps74
    go_wp2
    go_ret
    exact ⟨by simp [inB]; omega, rfl⟩

/-- How far the division has come: m bits are to come, p = 2 ^ m; the first bits are x. -/
structure DivS (a0 b d : Nat) (p x a q r : Nat) : Prop where
  split : a0 = x * p + a
  lt : a < p
  eq : x * b = q * d + r
  rlt : r < d
theorem DivS.two {a0 b d p x a q r : Nat} (h : DivS a0 b d (2 * p) x a q r) : ∃ q1 r1, (d ≤ 2 * r ∧ q1 = 2 * q + 1 ∧ r1 + d = 2 * r ∨ 2 * r < d ∧ q1 = 2 * q ∧ r1 = 2 * r) ∧ 2 * x * b = q1 * d + r1 ∧ r1 < d := by
  have h1 := h.eq
  have h2 := h.rlt
  have e : 2 * x * b = 2 * (x * b) := Nat.mul_assoc 2 x b
  by_cases hc : d ≤ 2 * r
  · refine ⟨2 * q + 1, 2 * r - d, .inl ⟨hc, rfl, by omega⟩, ?_, by omega⟩
    rw [e, h1, Nat.add_mul, Nat.mul_assoc, Nat.one_mul]
    omega
  · refine ⟨2 * q, 2 * r, .inr ⟨by omega, rfl, rfl⟩, ?_, by omega⟩
    rw [e, h1, Nat.mul_assoc]
    omega
theorem DivS.low {a0 b d p x a q r q1 r1 : Nat} (h : DivS a0 b d (2 * p) x a q r) (he : 2 * x * b = q1 * d + r1) (hr : r1 < d) (ha : a < p) : DivS a0 b d p (2 * x) a q1 r1 := by
  refine ⟨?_, ha, he, hr⟩
  rw [h.split, ← Nat.mul_assoc, Nat.mul_comm x 2]
theorem DivS.high {a0 b d p x a q r q1 r1 : Nat} (h : DivS a0 b d (2 * p) x a q r) (he : 2 * x * b = q1 * d + r1) (hr : r1 < d) (ha : p ≤ a) :
    ∃ q2 r2, (d ≤ r1 + b % d ∧ q2 = q1 + b / d + 1 ∧ r2 + d = r1 + b % d ∨ r1 + b % d < d ∧ q2 = q1 + b / d ∧ r2 = r1 + b % d) ∧ DivS a0 b d p (2 * x + 1) (a - p) q2 r2 := by
  have hs := h.split
  have hl := h.lt
  have hd : 0 < d := by omega
  have hm := Nat.mod_lt b hd
  have hdm := Nat.div_add_mod b d
  have e0 : (2 * x + 1) * b = 2 * x * b + b := by rw [Nat.add_mul, Nat.one_mul]
  have e1 : (2 * x + 1) * p = x * (2 * p) + p := by rw [Nat.add_mul, Nat.one_mul, ← Nat.mul_assoc, Nat.mul_comm x 2]
  by_cases hc : d ≤ r1 + b % d
  · refine ⟨q1 + b / d + 1, r1 + b % d - d, .inl ⟨hc, rfl, by omega⟩, by omega, by omega, ?_, by omega⟩
    rw [e0, he, Nat.add_mul, Nat.add_mul, Nat.one_mul, Nat.mul_comm (b / d) d]
    omega
  · refine ⟨q1 + b / d, r1 + b % d, .inr ⟨by omega, rfl, rfl⟩, by omega, by omega, ?_, by omega⟩
    rw [e0, he, Nat.add_mul, Nat.mul_comm (b / d) d]
    omega
theorem DivS.le {a0 b d p x a q r : Nat} (h : DivS a0 b d p x a q r) (hd : 0 < d) (ha : a0 ≤ d) (hp : 1 ≤ p) : q ≤ b := by
  have h1 : x ≤ a0 := by
    rw [h.split]
    have := Nat.le_mul_of_pos_right x hp
    omega
  have h2 : x * b ≤ d * b := Nat.mul_le_mul_right b (by omega)
  have h3 := h.eq
  have h4 : q * d ≤ b * d := by rw [Nat.mul_comm b d]; omega
  exact Nat.le_of_mul_le_mul_right h4 hd

set_option maxRecDepth 100000 in
set_option maxHeartbeats 2000000 in
theorem rdivide_any (a b d : Nat) {Q R : Nat} (hQ : a * b / d = Q) (hR : a * b % d = R) (ha : a ≤ d) (hb : b ≤ 1099511627776) (hd : 1 ≤ d) (hd2 : d ≤ 1099511627776) (w : World) :
    Calls Tryz.prog 75 #[.int .i64 a, .int .i64 b, .int .i64 d] w fun e w' => e = .returned (.tuple #[.int .i64 (Q : Int), .int .i64 (R : Int), .bool true]) ∧ w = w' := by
  have HQ := Lib.hid hQ
  have HR := Lib.hid hR
  clear hQ hR
  have hz : ((d : Int) == 0) = false := by simp; omega
  have hz2 : ¬ (d : Int) = 0 := by omega
  obtain ⟨bq, hbq0⟩ : ∃ bq, bq = b / d := ⟨_, rfl⟩
  obtain ⟨br, hbr0⟩ : ∃ br, br = b % d := ⟨_, rfl⟩
  have hbq : (b : Int) / (d : Int) = (bq : Int) := by rw [hbq0]; simp
  have hbr : (b : Int) % (d : Int) = (br : Int) := by rw [hbr0]; simp
  have hq : bq ≤ b := by rw [hbq0]; exact Nat.div_le_self b d
  have hr : br < d := by rw [hbr0]; exact Nat.mod_lt b hd
  have HBQ := Lib.hid hbq0
  have HBR := Lib.hid hbr0
  clear hbq0 hbr0
  go_enter Tryz.func75, Tryz.ntmps75
  go_wp2
  go_loop [0, 9, 10, 11] (fun av qv rv bv => ∃ m x a1 q r : Nat, m ≤ 61 ∧ av = .int .i64 (a1 : Int) ∧ qv = .int .i64 (q : Int) ∧ rv = .int .i64 (r : Int) ∧ bv = .int .i64 ((2 ^ m / 2 : Nat) : Int) ∧ DivS a b d (2 ^ m) x a1 q r) (fun _ _ _ bv => (intOf bv).toNat)
  case atStart => exact ⟨61, 0, a, 0, 0, Nat.le_refl _, rfl, rfl, rfl, rfl, by omega, by omega, by omega, by omega⟩
  case round =>
    obtain ⟨m, x, a1, q, r, hm, rfl, rfl, rfl, rfl, hS⟩ := hrel
    have hqb := hS.le hd ha (Nat.one_le_two_pow)
    have hrl := hS.rlt
    have hal := hS.lt
    cases m with
    | zero =>
      have h1 := hS.split
      have h2 := hS.eq
      have e1 : x = a := by omega
      have hq2 : q = Q := by
        rw [← HQ.out, ← e1, h2, Nat.mul_comm q d, Nat.mul_add_div hd, Nat.div_eq_of_lt hrl]
        rfl
      have hr2 : r = R := by rw [← HR.out, ← e1, h2, Nat.mul_comm q d, Nat.mul_add_mod, Nat.mod_eq_of_lt hrl]
      subst hq2
      subst hr2
      have h0 : ((2 ^ 0 / 2 : Nat) : Int) = 0 := rfl
      rw [h0]
      clear h1 h2 e1 hS HQ HR
      go_wp2
      exact bodyPost_ret (v := .tuple #[.int .i64 (q : Int), .int .i64 (r : Int), .bool true]) (by simp [results, Tryz.results75, go_sem]) rfl ⟨rfl, rfl⟩
    | succ m =>
      have hpw : (2 ^ (m + 1) : Nat) = 2 * 2 ^ m := by rw [Nat.pow_succ, Nat.mul_comm]
      rw [hpw] at hS hal
      have hpe : (2 * 2 ^ m / 2 : Nat) = 2 ^ m := by omega
      rw [hpw, hpe]
      have hp1 : 1 ≤ 2 ^ m := Nat.one_le_two_pow
      have hp2 : 2 ^ m ≤ 1152921504606846976 := Nat.le_trans (Nat.pow_le_pow_right (by omega) (show m ≤ 60 by omega)) (by decide)
      have HM : Hid (((2 ^ m : Nat) : Int) / 2 = ((2 ^ m / 2 : Nat) : Int)) := by show _ = _; simp
      have HMm : Hid (m ≤ 61) := by show m ≤ 61; omega
      obtain ⟨q1, r1, hc1, he1, hr1⟩ := hS.two
      have HS := Lib.hid hS
      have HE := Lib.hid he1
      have hN : Hid (∀ (x' a' q' r' : Nat), DivS a b d (2 ^ m) x' a' q' r' → q' ≤ b) := fun x' a' q' r' h => h.le hd ha hp1
      have fin : ∀ (x' a' q' r' : Nat) (zq zr za zb : Int), DivS a b d (2 ^ m) x' a' q' r' → za = (a' : Int) → zq = (q' : Int) → zr = (r' : Int) → zb = ((2 ^ m : Nat) : Int) / 2 →
          ∃ m x a1 q r : Nat, m ≤ 61 ∧ Value.int .i64 za = .int .i64 (a1 : Int) ∧ Value.int .i64 zq = .int .i64 (q : Int) ∧ Value.int .i64 zr = .int .i64 (r : Int) ∧ Value.int .i64 zb = .int .i64 ((2 ^ m / 2 : Nat) : Int) ∧ DivS a b d (2 ^ m) x a1 q r :=
        fun x' a' q' r' zq zr za zb h e1 e2 e3 e4 => ⟨m, x', a', q', r', HMm.out, by rw [e1], by rw [e2], by rw [e3], by rw [e4, HM.out], h⟩
      have FIN := Lib.hid fin
      clear fin HM
      generalize hP : 2 ^ m = P at *
      clear hP hS he1 hpe hpw HQ HR
      rcases hc1 with ⟨g1, g2, g3⟩ | ⟨g1, g2, g3⟩
      · subst g2
        have g4 := Nat.le_of_eq g3
        have g5 := Nat.le_of_eq g3.symm
        clear g3
        by_cases hc2 : P ≤ a1
        · obtain ⟨q2, r2, hc3, hS2⟩ := HS.out.high HE.out hr1 hc2
          rw [← HBQ.out, ← HBR.out] at hc3
          have hq2 := hN.out _ _ _ _ hS2
          have HS2 := Lib.hid hS2
          clear hS2
          rcases hc3 with ⟨k1, k2, k3⟩ | ⟨k1, k2, k3⟩
          · have k4 := Nat.le_of_eq k3
            have k5 := Nat.le_of_eq k3.symm
            have k6 := Nat.le_of_eq k2
            have k7 := Nat.le_of_eq k2.symm
            clear k2 k3
            have i1 : (0 : Int) ≤ q := by omega
            have i2 : (q : Int) ≤ b := by omega
            have i3 : (0 : Int) ≤ r := by omega
            have i4 : (r : Int) < d := by omega
            have i5 : (0 : Int) ≤ a1 := by omega
            have i6 : (1 : Int) ≤ P := by omega
            have i7 : (P : Int) ≤ 1152921504606846976 := by omega
            have i8 : (a1 : Int) < 2 * P := by omega
            have i9 : (1 : Int) ≤ d := by omega
            have i10 : (d : Int) ≤ 1099511627776 := by omega
            have i11 : (b : Int) ≤ 1099511627776 := by omega
            have i12 : (0 : Int) ≤ bq := by omega
            have i13 : (bq : Int) ≤ b := by omega
            have i14 : (0 : Int) ≤ br := by omega
            have i15 : (br : Int) < d := by omega
            have j1 : (d : Int) ≤ 2 * r := by omega
            have j2 : (P : Int) ≤ a1 := by omega
            have j3 : (d : Int) ≤ 2 * (r : Int) - d + br := by omega
            have F1 : Hid (2 * (q : Int) + 1 + bq + 1 = ((q2 : Nat) : Int)) := by show _ = _; omega
            have F2 : Hid (2 * (r : Int) - d + br - d = ((r2 : Nat) : Int)) := by show _ = _; omega
            have F3 : Hid ((a1 : Int) - P = ((a1 - P : Nat) : Int)) := by show _ = _; omega
            have b2 : 2 * (q : Int) + 1 + bq + 1 ≤ (b : Int) := by omega
            clear hc2 k4 k5 k6 k7 k1 hq2
            clear hq hr hb hd hd2 ha hqb hrl hal hp1 hp2 g1 g4 g5 hr1
            generalize (q : Int) = zq at *
            generalize (r : Int) = zr at *
            generalize (a1 : Int) = za at *
            generalize (P : Int) = zP at *
            generalize (d : Int) = zd at *
            generalize (b : Int) = zb at *
            generalize (bq : Int) = zbq at *
            generalize (br : Int) = zbr at *
            go_wp2
            go_round
            case rel => exact FIN.out _ _ _ _ _ _ _ _ HS2.out (by rw [F3.out]) (by rw [← F1.out]) (by rw [← F2.out]) rfl
            case measure => simp [intOf]; omega
          · have k4 := Nat.le_of_eq k3
            have k5 := Nat.le_of_eq k3.symm
            have k6 := Nat.le_of_eq k2
            have k7 := Nat.le_of_eq k2.symm
            clear k2 k3
            have i1 : (0 : Int) ≤ q := by omega
            have i2 : (q : Int) ≤ b := by omega
            have i3 : (0 : Int) ≤ r := by omega
            have i4 : (r : Int) < d := by omega
            have i5 : (0 : Int) ≤ a1 := by omega
            have i6 : (1 : Int) ≤ P := by omega
            have i7 : (P : Int) ≤ 1152921504606846976 := by omega
            have i8 : (a1 : Int) < 2 * P := by omega
            have i9 : (1 : Int) ≤ d := by omega
            have i10 : (d : Int) ≤ 1099511627776 := by omega
            have i11 : (b : Int) ≤ 1099511627776 := by omega
            have i12 : (0 : Int) ≤ bq := by omega
            have i13 : (bq : Int) ≤ b := by omega
            have i14 : (0 : Int) ≤ br := by omega
            have i15 : (br : Int) < d := by omega
            have j1 : (d : Int) ≤ 2 * r := by omega
            have j2 : (P : Int) ≤ a1 := by omega
            have j3 : 2 * (r : Int) - d + br < (d : Int) := by omega
            have F1 : Hid (2 * (q : Int) + 1 + bq = ((q2 : Nat) : Int)) := by show _ = _; omega
            have F2 : Hid (2 * (r : Int) - d + br = ((r2 : Nat) : Int)) := by show _ = _; omega
            have F3 : Hid ((a1 : Int) - P = ((a1 - P : Nat) : Int)) := by show _ = _; omega
            have b2 : 2 * (q : Int) + 1 + bq ≤ (b : Int) := by omega
            clear hc2 k4 k5 k6 k7 k1 hq2
            clear hq hr hb hd hd2 ha hqb hrl hal hp1 hp2 g1 g4 g5 hr1
            generalize (q : Int) = zq at *
            generalize (r : Int) = zr at *
            generalize (a1 : Int) = za at *
            generalize (P : Int) = zP at *
            generalize (d : Int) = zd at *
            generalize (b : Int) = zb at *
            generalize (bq : Int) = zbq at *
            generalize (br : Int) = zbr at *
            go_wp2
            go_round
            case rel => exact FIN.out _ _ _ _ _ _ _ _ HS2.out (by rw [F3.out]) (by rw [← F1.out]) (by rw [← F2.out]) rfl
            case measure => simp [intOf]; omega
        · have hS2 := HS.out.low HE.out hr1 (by omega)
          have hq2 := hN.out _ _ _ _ hS2
          have HS2 := Lib.hid hS2
          clear hS2
          have i1 : (0 : Int) ≤ q := by omega
          have i2 : (q : Int) ≤ b := by omega
          have i3 : (0 : Int) ≤ r := by omega
          have i4 : (r : Int) < d := by omega
          have i5 : (0 : Int) ≤ a1 := by omega
          have i6 : (1 : Int) ≤ P := by omega
          have i7 : (P : Int) ≤ 1152921504606846976 := by omega
          have i8 : (a1 : Int) < 2 * P := by omega
          have i9 : (1 : Int) ≤ d := by omega
          have i10 : (d : Int) ≤ 1099511627776 := by omega
          have i11 : (b : Int) ≤ 1099511627776 := by omega
          have i12 : (0 : Int) ≤ bq := by omega
          have i13 : (bq : Int) ≤ b := by omega
          have i14 : (0 : Int) ≤ br := by omega
          have i15 : (br : Int) < d := by omega
          have j1 : (d : Int) ≤ 2 * r := by omega
          have j2 : (a1 : Int) < P := by omega
          have F1 : Hid (2 * (q : Int) + 1 = ((2 * q + 1 : Nat) : Int)) := by show _ = _; omega
          have F2 : Hid (2 * (r : Int) - d = ((r1 : Nat) : Int)) := by show _ = _; omega
          obtain ⟨ac, hac⟩ : ∃ ac : Nat, ac = a1 := ⟨_, rfl⟩
          rw [← hac] at HS2
          have F3 : Hid ((a1 : Int) = (ac : Int)) := by show _ = _; rw [hac]
          clear hac
          have b2 : 2 * (q : Int) + 1 ≤ (b : Int) := by omega
          clear hc2 hq2
          clear hq hr hb hd hd2 ha hqb hrl hal hp1 hp2 g1 g4 g5 hr1
          generalize (q : Int) = zq at *
          generalize (r : Int) = zr at *
          generalize (a1 : Int) = za at *
          generalize (P : Int) = zP at *
          generalize (d : Int) = zd at *
          generalize (b : Int) = zb at *
          generalize (bq : Int) = zbq at *
          generalize (br : Int) = zbr at *
          go_wp2
          go_round
          case rel => exact FIN.out _ _ _ _ _ _ _ _ HS2.out (by rw [F3.out]) (by rw [← F1.out]) (by rw [← F2.out]) rfl
          case measure => simp [intOf]; omega
      · subst g2
        have g4 := Nat.le_of_eq g3
        have g5 := Nat.le_of_eq g3.symm
        clear g3
        by_cases hc2 : P ≤ a1
        · obtain ⟨q2, r2, hc3, hS2⟩ := HS.out.high HE.out hr1 hc2
          rw [← HBQ.out, ← HBR.out] at hc3
          have hq2 := hN.out _ _ _ _ hS2
          have HS2 := Lib.hid hS2
          clear hS2
          rcases hc3 with ⟨k1, k2, k3⟩ | ⟨k1, k2, k3⟩
          · have k4 := Nat.le_of_eq k3
            have k5 := Nat.le_of_eq k3.symm
            have k6 := Nat.le_of_eq k2
            have k7 := Nat.le_of_eq k2.symm
            clear k2 k3
            have i1 : (0 : Int) ≤ q := by omega
            have i2 : (q : Int) ≤ b := by omega
            have i3 : (0 : Int) ≤ r := by omega
            have i4 : (r : Int) < d := by omega
            have i5 : (0 : Int) ≤ a1 := by omega
            have i6 : (1 : Int) ≤ P := by omega
            have i7 : (P : Int) ≤ 1152921504606846976 := by omega
            have i8 : (a1 : Int) < 2 * P := by omega
            have i9 : (1 : Int) ≤ d := by omega
            have i10 : (d : Int) ≤ 1099511627776 := by omega
            have i11 : (b : Int) ≤ 1099511627776 := by omega
            have i12 : (0 : Int) ≤ bq := by omega
            have i13 : (bq : Int) ≤ b := by omega
            have i14 : (0 : Int) ≤ br := by omega
            have i15 : (br : Int) < d := by omega
            have j1 : 2 * (r : Int) < d := by omega
            have j2 : (P : Int) ≤ a1 := by omega
            have j3 : (d : Int) ≤ 2 * (r : Int) + br := by omega
            have F1 : Hid (2 * (q : Int) + bq + 1 = ((q2 : Nat) : Int)) := by show _ = _; omega
            have F2 : Hid (2 * (r : Int) + br - d = ((r2 : Nat) : Int)) := by show _ = _; omega
            have F3 : Hid ((a1 : Int) - P = ((a1 - P : Nat) : Int)) := by show _ = _; omega
            have b2 : 2 * (q : Int) + bq + 1 ≤ (b : Int) := by omega
            clear hc2 k4 k5 k6 k7 k1 hq2
            clear hq hr hb hd hd2 ha hqb hrl hal hp1 hp2 g1 g4 g5 hr1
            generalize (q : Int) = zq at *
            generalize (r : Int) = zr at *
            generalize (a1 : Int) = za at *
            generalize (P : Int) = zP at *
            generalize (d : Int) = zd at *
            generalize (b : Int) = zb at *
            generalize (bq : Int) = zbq at *
            generalize (br : Int) = zbr at *
            go_wp2
            go_round
            case rel => exact FIN.out _ _ _ _ _ _ _ _ HS2.out (by rw [F3.out]) (by rw [← F1.out]) (by rw [← F2.out]) rfl
            case measure => simp [intOf]; omega
          · have k4 := Nat.le_of_eq k3
            have k5 := Nat.le_of_eq k3.symm
            have k6 := Nat.le_of_eq k2
            have k7 := Nat.le_of_eq k2.symm
            clear k2 k3
            have i1 : (0 : Int) ≤ q := by omega
            have i2 : (q : Int) ≤ b := by omega
            have i3 : (0 : Int) ≤ r := by omega
            have i4 : (r : Int) < d := by omega
            have i5 : (0 : Int) ≤ a1 := by omega
            have i6 : (1 : Int) ≤ P := by omega
            have i7 : (P : Int) ≤ 1152921504606846976 := by omega
            have i8 : (a1 : Int) < 2 * P := by omega
            have i9 : (1 : Int) ≤ d := by omega
            have i10 : (d : Int) ≤ 1099511627776 := by omega
            have i11 : (b : Int) ≤ 1099511627776 := by omega
            have i12 : (0 : Int) ≤ bq := by omega
            have i13 : (bq : Int) ≤ b := by omega
            have i14 : (0 : Int) ≤ br := by omega
            have i15 : (br : Int) < d := by omega
            have j1 : 2 * (r : Int) < d := by omega
            have j2 : (P : Int) ≤ a1 := by omega
            have j3 : 2 * (r : Int) + br < (d : Int) := by omega
            have F1 : Hid (2 * (q : Int) + bq = ((q2 : Nat) : Int)) := by show _ = _; omega
            have F2 : Hid (2 * (r : Int) + br = ((r2 : Nat) : Int)) := by show _ = _; omega
            have F3 : Hid ((a1 : Int) - P = ((a1 - P : Nat) : Int)) := by show _ = _; omega
            have b2 : 2 * (q : Int) + bq ≤ (b : Int) := by omega
            clear hc2 k4 k5 k6 k7 k1 hq2
            clear hq hr hb hd hd2 ha hqb hrl hal hp1 hp2 g1 g4 g5 hr1
            generalize (q : Int) = zq at *
            generalize (r : Int) = zr at *
            generalize (a1 : Int) = za at *
            generalize (P : Int) = zP at *
            generalize (d : Int) = zd at *
            generalize (b : Int) = zb at *
            generalize (bq : Int) = zbq at *
            generalize (br : Int) = zbr at *
            go_wp2
            go_round
            case rel => exact FIN.out _ _ _ _ _ _ _ _ HS2.out (by rw [F3.out]) (by rw [← F1.out]) (by rw [← F2.out]) rfl
            case measure => simp [intOf]; omega
        · have hS2 := HS.out.low HE.out hr1 (by omega)
          have hq2 := hN.out _ _ _ _ hS2
          have HS2 := Lib.hid hS2
          clear hS2
          have i1 : (0 : Int) ≤ q := by omega
          have i2 : (q : Int) ≤ b := by omega
          have i3 : (0 : Int) ≤ r := by omega
          have i4 : (r : Int) < d := by omega
          have i5 : (0 : Int) ≤ a1 := by omega
          have i6 : (1 : Int) ≤ P := by omega
          have i7 : (P : Int) ≤ 1152921504606846976 := by omega
          have i8 : (a1 : Int) < 2 * P := by omega
          have i9 : (1 : Int) ≤ d := by omega
          have i10 : (d : Int) ≤ 1099511627776 := by omega
          have i11 : (b : Int) ≤ 1099511627776 := by omega
          have i12 : (0 : Int) ≤ bq := by omega
          have i13 : (bq : Int) ≤ b := by omega
          have i14 : (0 : Int) ≤ br := by omega
          have i15 : (br : Int) < d := by omega
          have j1 : 2 * (r : Int) < d := by omega
          have j2 : (a1 : Int) < P := by omega
          have F1 : Hid (2 * (q : Int) = ((2 * q : Nat) : Int)) := by show _ = _; omega
          have F2 : Hid (2 * (r : Int) = ((r1 : Nat) : Int)) := by show _ = _; omega
          obtain ⟨ac, hac⟩ : ∃ ac : Nat, ac = a1 := ⟨_, rfl⟩
          rw [← hac] at HS2
          have F3 : Hid ((a1 : Int) = (ac : Int)) := by show _ = _; rw [hac]
          clear hac
          have b2 : 2 * (q : Int) ≤ (b : Int) := by omega
          clear hc2 hq2
          clear hq hr hb hd hd2 ha hqb hrl hal hp1 hp2 g1 g4 g5 hr1
          generalize (q : Int) = zq at *
          generalize (r : Int) = zr at *
          generalize (a1 : Int) = za at *
          generalize (P : Int) = zP at *
          generalize (d : Int) = zd at *
          generalize (b : Int) = zb at *
          generalize (bq : Int) = zbq at *
          generalize (br : Int) = zbr at *
          go_wp2
          go_round
          case rel => exact FIN.out _ _ _ _ _ _ _ _ HS2.out (by rw [F3.out]) (by rw [← F1.out]) (by rw [← F2.out]) rfl
          case measure => simp [intOf]; omega

end Go.Proofs.YtlgedljhheficaaGreatDoor

namespace Go.Proofs.YtlgedljhheficaaGreatDoor
open Go.RowKit

/-- How far the divisor is shifted. -/
structure Norm (y s p pc : Int) : Prop where
  len : 64 - (Lib.bitLen y.toNat : Int) = s
  s0 : 1 ≤ s
  s1 : s ≤ 31
  p_eq : (2 : Int) ^ s.toNat = p
  pc_eq : (2 : Int) ^ (64 - s).toNat = pc
  prod : p * pc = 18446744073709551616
  lo : 9223372036854775808 ≤ y * p
  hi : y * p < 18446744073709551616
  p0 : 1 ≤ p
  pc0 : 1 ≤ pc
  dvd : ∀ h : Int, (h * p) % p = 0
theorem bitLen_at {y : Int} (k : Nat) (hk : k < 64) (h0 : (2 ^ k : Nat) ≤ y.toNat) (h1 : y.toNat < 2 ^ (k + 1)) : Lib.bitLen y.toNat = k + 1 := by
  have hx : y.toNat < 2 ^ 64 := Nat.lt_of_lt_of_le h1 (Nat.pow_le_pow_right (by omega) (by omega))
  rw [Lib.bitLen_shift k _ h0 hx]
  have : y.toNat / 2 ^ k = 1 := by
    have hp : 0 < 2 ^ k := Nat.pos_of_ne_zero (by simp)
    rw [Nat.pow_succ] at h1
    exact Nat.div_eq_of_lt_le (by omega) (by omega)
  rw [this]
  rfl
theorem norm_at {y : Int} (k : Nat) (hk0 : 32 ≤ k) (hk : k ≤ 40) (h0 : ((2 ^ k : Nat) : Int) ≤ y) (h1 : y < ((2 ^ (k + 1) : Nat) : Int)) (p pc : Int) (hp : (2 : Int) ^ (63 - k) = p) (hpc : (2 : Int) ^ (k + 1) = pc) (hprod : p * pc = 18446744073709551616) (h63 : ((2 ^ k : Nat) : Int) * p = 9223372036854775808) (hp0 : 1 ≤ p) (hpc0 : 1 ≤ pc) : Norm y (63 - k) p pc := by
  have hl := bitLen_at (y := y) k (by omega) (by omega) (by omega)
  have e1 : ((63 : Int) - k).toNat = 63 - k := by omega
  have e2 : (64 - ((63 : Int) - k)).toNat = k + 1 := by omega
  have hpce : ((2 ^ (k + 1) : Nat) : Int) = pc := by rw [← hpc]; simp
  refine ⟨by rw [hl]; omega, by omega, by omega, by rw [e1]; exact hp, by rw [e2]; exact hpc, hprod, ?_, ?_, hp0, hpc0, fun h => Int.mul_emod_left h p⟩
  · rw [← h63]
    exact Int.mul_le_mul_of_nonneg_right h0 (by omega)
  · rw [← hprod, Int.mul_comm p pc, ← hpce]
    exact Int.mul_lt_mul_of_pos_right h1 (by omega)
theorem norm_any {y : Int} (y0 : 4294967296 ≤ y) (y1 : y ≤ 1099511627776) : ∃ s p pc, Norm y s p pc := by
  by_cases c1 : y < 8589934592
  · exact ⟨_, 2147483648, 8589934592, norm_at 32 (by omega) (by omega) y0 c1 _ _ (by decide) (by decide) (by decide) (by decide) (by decide) (by decide)⟩
  by_cases c2 : y < 17179869184
  · exact ⟨_, 1073741824, 17179869184, norm_at 33 (by omega) (by omega) (Int.not_lt.1 c1) c2 _ _ (by decide) (by decide) (by decide) (by decide) (by decide) (by decide)⟩
  by_cases c3 : y < 34359738368
  · exact ⟨_, 536870912, 34359738368, norm_at 34 (by omega) (by omega) (Int.not_lt.1 c2) c3 _ _ (by decide) (by decide) (by decide) (by decide) (by decide) (by decide)⟩
  by_cases c4 : y < 68719476736
  · exact ⟨_, 268435456, 68719476736, norm_at 35 (by omega) (by omega) (Int.not_lt.1 c3) c4 _ _ (by decide) (by decide) (by decide) (by decide) (by decide) (by decide)⟩
  by_cases c5 : y < 137438953472
  · exact ⟨_, 134217728, 137438953472, norm_at 36 (by omega) (by omega) (Int.not_lt.1 c4) c5 _ _ (by decide) (by decide) (by decide) (by decide) (by decide) (by decide)⟩
  by_cases c6 : y < 274877906944
  · exact ⟨_, 67108864, 274877906944, norm_at 37 (by omega) (by omega) (Int.not_lt.1 c5) c6 _ _ (by decide) (by decide) (by decide) (by decide) (by decide) (by decide)⟩
  by_cases c7 : y < 549755813888
  · exact ⟨_, 33554432, 549755813888, norm_at 38 (by omega) (by omega) (Int.not_lt.1 c6) c7 _ _ (by decide) (by decide) (by decide) (by decide) (by decide) (by decide)⟩
  by_cases c8 : y < 1099511627776
  · exact ⟨_, 16777216, 1099511627776, norm_at 39 (by omega) (by omega) (Int.not_lt.1 c7) c8 _ _ (by decide) (by decide) (by decide) (by decide) (by decide) (by decide)⟩
  · exact ⟨_, 8388608, 2199023255552, norm_at 40 (by omega) (by omega) (Int.not_lt.1 c8) (by omega) _ _ (by decide) (by decide) (by decide) (by decide) (by decide) (by decide)⟩

/-- The digits of a division: what Div64 reckons ahead of its two loops. -/
structure Digs (hi lo y s p pc Y y1 y0 H Lh un U u1 u0 : Int) : Prop where
  nY : IntKind.u64.wrap (y * 2 ^ s.toNat) = Y
  ny1 : Y / 4294967296 = y1
  ny0 : bits .and .u64 Y 4294967295 = y0
  nH : IntKind.u64.wrap (hi * 2 ^ s.toNat) = H
  nL : lo / 2 ^ (64 - s).toNat = Lh
  nun : bits .or .u64 H Lh = un
  nU : IntKind.u64.wrap (lo * 2 ^ s.toNat) = U
  nu1 : U / 4294967296 = u1
  nu0 : bits .and .u64 U 4294967295 = u0
  Ye : Y = y * p
  Ys : Y = y1 * 4294967296 + y0
  Us : U = u1 * 4294967296 + u0
  tot : un * 18446744073709551616 + U = p * (hi * 18446744073709551616 + lo)
  lt : un < Y
  un0 : 0 ≤ un
  y1lo : 2147483648 ≤ y1
  y1hi : y1 < 4294967296
  y0lo : 0 ≤ y0
  y0hi : y0 < 4294967296
  u1lo : 0 ≤ u1
  u1hi : u1 < 4294967296
  u0lo : 0 ≤ u0
  u0hi : u0 < 4294967296
theorem mask32 (x : Int) (h0 : 0 ≤ x) (h1 : x < 18446744073709551616) : bits .and .u64 x 4294967295 = x % 4294967296 := bits_mask .u64 64 (by decide) wraps_u64 32 (by decide) x h0 h1
theorem digs_any {hi lo y s p pc : Int} (n : Norm y s p pc) (h0 : 0 ≤ hi) (h1 : hi < y) (l0 : 0 ≤ lo) (l1 : lo < 18446744073709551616) : ∃ Y y1 y0 H Lh un U u1 u0, Digs hi lo y s p pc Y y1 y0 H Lh un U u1 u0 := by
  have hp := n.p_eq
  have hpc := n.pc_eq
  have hpr := n.prod
  have a1 := n.lo
  have a2 := n.hi
  have p0 := n.p0
  have pc0 := n.pc0
  have hH0 : 0 ≤ hi * p := Int.mul_nonneg h0 (by omega)
  have hH1 : hi * p ≤ (y - 1) * p := Int.mul_le_mul_of_nonneg_right (by omega) (by omega)
  rw [Int.sub_mul, Int.one_mul] at hH1
  have hL0 : 0 ≤ lo / pc := Int.ediv_nonneg l0 (by omega)
  have hL1 : lo / pc < p := Int.ediv_lt_of_lt_mul (by omega) (by rw [hpr]; exact l1)
  have hdm := Int.mul_ediv_add_emod lo pc
  have hm0 := Int.emod_nonneg lo (show pc ≠ 0 by omega)
  have hm1 := Int.emod_lt_of_pos lo (show 0 < pc by omega)
  have hlop : lo * p = lo / pc * 18446744073709551616 + lo % pc * p := by
    have : lo * p = (pc * (lo / pc) + lo % pc) * p := by rw [hdm]
    rw [this, Int.add_mul, ← hpr, Int.mul_comm pc, Int.mul_assoc, Int.mul_comm pc p]
  have hr0 : 0 ≤ lo % pc * p := Int.mul_nonneg hm0 (by omega)
  have hr1 : lo % pc * p < 18446744073709551616 := by
    rw [← hpr, Int.mul_comm p pc]
    exact Int.mul_lt_mul_of_pos_right hm1 (by omega)
  have hU : IntKind.u64.wrap (lo * p) = lo % pc * p := by
    rw [hlop, IntKind.wrap_u64]
    omega
  have hY : IntKind.u64.wrap (y * p) = y * p := by rw [IntKind.wrap_u64]; omega
  have hHw : IntKind.u64.wrap (hi * p) = hi * p := by rw [IntKind.wrap_u64]; omega
  have hor : bits .or .u64 (hi * p) (lo / pc) = hi * p + lo / pc := bits_join .u64 64 (by decide) wraps_u64 s.toNat (hi * p) (lo / pc) hH0 (by rw [hp]; exact n.dvd hi) (by omega) hL0 (by rw [hp]; exact hL1) (by omega)
  have htot : (hi * p + lo / pc) * 18446744073709551616 + lo % pc * p = p * (hi * 18446744073709551616 + lo) := by
    rw [Int.mul_add, Int.mul_comm p lo, hlop, Int.add_mul, Int.mul_comm p (hi * 18446744073709551616), Int.mul_right_comm hi p]
    omega
  refine ⟨y * p, y * p / 4294967296, y * p % 4294967296, hi * p, lo / pc, hi * p + lo / pc, lo % pc * p, lo % pc * p / 4294967296, lo % pc * p % 4294967296, ?_⟩
  exact ⟨by rw [hp]; exact hY, rfl, mask32 _ (by omega) (by omega), by rw [hp]; exact hHw, by rw [hpc], hor, by rw [hp]; exact hU, rfl, mask32 _ hr0 hr1, rfl, by omega, by omega, htot, by omega, by omega, by omega, by omega, by omega, by omega, by omega, by omega, by omega, by omega⟩

/-- A guess, of integers. -/
def GuessI (un y1 y0 d q r : Int) : Prop := 0 ≤ q ∧ 0 ≤ r ∧ Guess un.toNat y1.toNat y0.toNat d.toNat q.toNat r.toNat
structure DigI (un y1 y0 d : Int) : Prop where
  un0 : 0 ≤ un
  y1lo : 2147483648 ≤ y1
  y1hi : y1 < 4294967296
  y0lo : 0 ≤ y0
  y0hi : y0 < 4294967296
  d0 : 0 ≤ d
  d1 : d < 4294967296
  lt : un < y1 * 4294967296 + y0
theorem DigI.nat {un y1 y0 d : Int} (h : DigI un y1 y0 d) : Dig un.toNat y1.toNat y0.toNat d.toNat := by
  obtain ⟨a, b, c, e, f, g, i, j⟩ := h
  exact ⟨by omega, by omega, by omega, by omega, by omega⟩
/-- The digit. -/
def digI (un y1 y0 d : Int) : Int := (digQ un.toNat y1.toNat y0.toNat d.toNat : Int)
section
variable {un y1 y0 d q r : Int}
theorem toNat_mul' {a b : Int} (ha : 0 ≤ a) (hb : 0 ≤ b) : ((a.toNat * b.toNat : Nat) : Int) = a * b := by
  rw [Int.natCast_mul, Int.toNat_of_nonneg ha, Int.toNat_of_nonneg hb]
theorem GuessI.start (h : DigI un y1 y0 d) : GuessI un y1 y0 d (un / y1) (un % y1) := by
  have h1 := h.un0
  have h2 := h.y1lo
  have g := Guess.start h.nat
  have e1 : (un / y1).toNat = un.toNat / y1.toNat := by
    have : un / y1 = ((un.toNat / y1.toNat : Nat) : Int) := by rw [Int.natCast_ediv, Int.toNat_of_nonneg h1, Int.toNat_of_nonneg (by omega)]
    rw [this]; rfl
  have e2 : (un % y1).toNat = un.toNat % y1.toNat := by
    have : un % y1 = ((un.toNat % y1.toNat : Nat) : Int) := by rw [Int.natCast_emod, Int.toNat_of_nonneg h1, Int.toNat_of_nonneg (by omega)]
    rw [this]; rfl
  refine ⟨Int.ediv_nonneg h1 (by omega), Int.emod_nonneg _ (by omega), ?_⟩
  rw [e1, e2]
  exact g
theorem GuessI.le (g : GuessI un y1 y0 d q r) : q ≤ 4294967297 := by
  have := g.2.2.le
  omega
theorem GuessI.eq (g : GuessI un y1 y0 d q r) (h : DigI un y1 y0 d) : q * y1 + r = un := by
  have h1 := g.2.2.eq
  have h2 := toNat_mul' g.1 (show 0 ≤ y1 by have := h.y1lo; omega)
  have := g.2.1
  have := h.un0
  omega
theorem GuessI.stop (h : DigI un y1 y0 d) (g : GuessI un y1 y0 d q r) (ht : q * y0 ≤ 4294967296 * r + d) : q = digI un y1 y0 d := by
  have h2 := toNat_mul' g.1 h.y0lo
  have h3 := g.2.1
  have h4 := h.d0
  have := Guess.stop h.nat g.2.2 (by omega)
  unfold digI
  rw [← this, Int.toNat_of_nonneg g.1]
theorem GuessI.step (h : DigI un y1 y0 d) (g : GuessI un y1 y0 d q r) (ht : 4294967296 ≤ q ∨ 4294967296 * r + d < q * y0) : 1 ≤ q ∧ GuessI un y1 y0 d (q - 1) (r + y1) := by
  have h2 := toNat_mul' g.1 h.y0lo
  have h3 := g.2.1
  have h4 := h.d0
  have h5 := g.1
  have h6 := h.y1lo
  obtain ⟨k1, k2⟩ := Guess.step h.nat g.2.2 (by omega)
  have e1 : (q - 1).toNat = q.toNat - 1 := by omega
  have e2 : (r + y1).toNat = r.toNat + y1.toNat := by omega
  exact ⟨by omega, by omega, by omega, by rw [e1, e2]; exact k2⟩
theorem GuessI.brk (h : DigI un y1 y0 d) (g : GuessI un y1 y0 d q r) (hr : 4294967296 ≤ r) (hq : q ≤ 4294967296) : q = digI un y1 y0 d := by
  have := Guess.brk h.nat g.2.2 (by omega) (by omega)
  unfold digI
  rw [← this, Int.toNat_of_nonneg g.1]
end

end Go.Proofs.YtlgedljhheficaaGreatDoor

namespace Go.Proofs.YtlgedljhheficaaGreatDoor
open Go.RowKit

theorem prod_bd {q y0 : Int} (q0 : 0 ≤ q) (q1 : q ≤ 4294967297) (h0 : 0 ≤ y0) (h1 : y0 < 4294967296) : 0 ≤ q * y0 ∧ q * y0 ≤ 18446744073709551615 := by
  refine ⟨Int.mul_nonneg q0 h0, ?_⟩
  have := Int.mul_le_mul q1 (show y0 ≤ 4294967295 by omega) h0 (by omega)
  omega
theorem u64_id {x : Int} (h0 : 0 ≤ x) (h1 : x ≤ 18446744073709551615) : IntKind.u64.wrap x = x := by rw [IntKind.wrap_u64]; omega

theorem rest_cast {B a d Q Yn : Nat} (r1 : a * B + d - Q * Yn < Yn) (r2 : a * B + d = Q * Yn + (a * B + d - Q * Yn)) : 0 ≤ (a : Int) * B + d - Q * Yn ∧ (a : Int) * B + d - Q * Yn < Yn := by
  have h1 : (a : Int) * B = ((a * B : Nat) : Int) := by simp
  have h2 : (Q : Int) * Yn = ((Q * Yn : Nat) : Int) := by simp
  rw [h1, h2]
  generalize a * B = X at *
  generalize Q * Yn = Z at *
  omega
theorem digI_rest {un b1 b0 d Y : Int} (h : DigI un b1 b0 d) (hY : Y = b1 * 4294967296 + b0) : 0 ≤ digI un b1 b0 d ∧ digI un b1 b0 d < 4294967296 ∧ 0 ≤ un * 4294967296 + d - digI un b1 b0 d * Y ∧ un * 4294967296 + d - digI un b1 b0 d * Y < Y := by
  obtain ⟨r1, r2⟩ := dig_rest h.nat
  have hlt := digQ_lt h.nat
  have c1 := h.un0
  have c2 := h.y1lo
  have c3 := h.y0lo
  have c4 := h.d0
  have hYn : ((b1.toNat * 4294967296 + b0.toNat : Nat) : Int) = Y := by omega
  have hr := rest_cast r1 r2
  rw [hYn, Int.toNat_of_nonneg c1, Int.toNat_of_nonneg c4] at hr
  refine ⟨?_, ?_, hr.1, hr.2⟩
  · unfold digI; omega
  · unfold digI; omega
/-- What the two digits are. -/
theorem digs_fin {hi lo y s p pc Y b1 b0 H Lh un U u1 u0 : Int} (n : Norm y s p pc) (D : Digs hi lo y s p pc Y b1 b0 H Lh un U u1 u0) (hy : 0 < y) {q1 u2 q0 R : Int} (h1 : u2 = un * 4294967296 + u1 - q1 * Y) (h2 : R = u2 * 4294967296 + u0 - q0 * Y) (r0 : 0 ≤ R) (r1 : R < Y) :
    q1 * 4294967296 + q0 = (hi * 18446744073709551616 + lo) / y ∧ R / p = (hi * 18446744073709551616 + lo) % y := by
  have ht := D.tot
  have hU := D.Us
  have hYe := D.Ye
  have hp := n.p0
  generalize hX : hi * 18446744073709551616 + lo = X at *
  have e1 : p * X = (q1 * 4294967296 + q0) * Y + R := by
    rw [← ht, hU, h2, h1, Int.add_mul, Int.mul_right_comm q1 4294967296 Y]
    omega
  have e2 : R = p * (X - (q1 * 4294967296 + q0) * y) := by
    rw [Int.mul_sub, e1, hYe, ← Int.mul_assoc, Int.mul_comm p, Int.mul_assoc]
    generalize (q1 * 4294967296 + q0) * (y * p) = Z
    omega
  generalize q1 * 4294967296 + q0 = Q at *
  have e3 : R / p = X - Q * y := by rw [e2, Int.mul_ediv_cancel_left _ (by omega)]
  have k0 : 0 ≤ X - Q * y := by
    rw [← e3]
    exact Int.ediv_nonneg r0 (by omega)
  have k1 : X - Q * y < y := by
    rw [← e3]
    exact Int.ediv_lt_of_lt_mul (by omega) (by rw [← hYe]; exact r1)
  have := (Int.ediv_emod_unique (a := X) (b := y) (q := Q) (r := X - Q * y) hy).2 ⟨by rw [Int.mul_comm y Q]; omega, k0, k1⟩
  exact ⟨this.1.symm, by rw [e3, this.2]⟩

set_option maxRecDepth 100000 in
set_option maxHeartbeats 4000000 in
theorem div64_big (hi lo y : Int) (h0 : 1 ≤ hi) (h1 : hi < y) (l0 : 0 ≤ lo) (l1 : lo < 18446744073709551616) (y0 : 4294967296 ≤ y) (y1 : y ≤ 1099511627776) (w : World) :
    Calls Tryz.prog 121 #[.int .u64 hi, .int .u64 lo, .int .u64 y] w fun e w' => e = .returned (.tuple #[.int .u64 ((hi * 18446744073709551616 + lo) / y), .int .u64 ((hi * 18446744073709551616 + lo) % y)]) ∧ w = w' := by
  obtain ⟨s, p, pc, hN⟩ := norm_any y0 y1
  obtain ⟨Y, b1, b0, H, Lh, un, U, u1, u0, hD⟩ := digs_any hN (by omega) h1 l0 l1
  have hz : (y == 0) = false := by simp; omega
  have hy : (hi == 0) = false := by simp; omega
  have hle : decide (y ≤ hi) = false := by simp; omega
  have hK := fun W => Tryz.bits_LeadingZeros64 y W (by omega) (by omega)
  rw [hN.len] at hK
  have K := Lib.hid hK
  have s0 := hN.s0
  have s1 := hN.s1
  have n1 := hD.nY
  have n2 := hD.ny1
  have n3 := hD.ny0
  have n4 := hD.nH
  have n5 := hD.nL
  have n6 := hD.nun
  have n7 := hD.nU
  have n8 := hD.nu1
  have n9 := hD.nu0
  have i1 := hD.y1lo
  have i2 := hD.y1hi
  have i3 := hD.y0lo
  have i4 := hD.y0hi
  have i5 := hD.u1lo
  have i6 := hD.u1hi
  have i7 := hD.u0lo
  have i8 := hD.u0hi
  have i9 := hD.un0
  have hDI : DigI un b1 b0 u1 := ⟨i9, i1, i2, i3, i4, i5, i6, by have := hD.lt; have := hD.Ys; omega⟩
  have G0 := GuessI.start hDI
  have hYlt : Y < 18446744073709551616 := by rw [hD.Ye]; exact hN.hi
  have hunY := hD.lt
  have HN := Lib.hid hN
  have HD := Lib.hid hD
  have HDI := Lib.hid hDI
  have gq0 := G0.1
  have gq1 := G0.le
  have gr0 := G0.2.1
  have gr1 := Int.emod_lt_of_pos un (show 0 < b1 by omega)
  have geq := G0.eq hDI
  obtain ⟨q, hq⟩ : ∃ q, un / b1 = q := ⟨_, rfl⟩
  obtain ⟨r, hr⟩ : ∃ r, un % b1 = r := ⟨_, rfl⟩
  rw [hq, hr] at G0 geq
  rw [hq] at gq0 gq1
  rw [hr] at gr0 gr1
  have hqw : IntKind.u64.wrap q = q := u64_id gq0 (by omega)
  obtain ⟨m0, hm0⟩ : ∃ m0, q * b1 = m0 := ⟨_, rfl⟩
  have hm00 : 0 ≤ m0 := by rw [← hm0]; exact Int.mul_nonneg gq0 (by omega)
  have hm0w : IntKind.u64.wrap (q * b1) = m0 := by rw [u64_id (by omega) (by omega)]; exact hm0
  have hrw : IntKind.u64.wrap (un - m0) = r := by rw [u64_id (by omega) (by omega)]; omega
  have HG := Lib.hid G0
  have b1z : (b1 == 0) = false := by simp; omega
  have b1z2 : ¬ b1 = 0 := by omega
  clear hN hD hDI G0 hK hm0 hr geq
  go_enter Tryz.func121, Tryz.ntmps121
  go_wp2_with fail
  refine (K.out _).mono ?_
  rintro e w' ⟨rfl, rfl⟩
  go_upto_block 0 with fail
  rw [hq]
  clear hq hm0w hrw hqw hm00
  go_cut [15] (fun qv wx => qv = .int .u64 (digI un b1 b0 u1) ∧ wx = w')
  case first =>
    go_wp2_with fail
    go_loop [15, 16] (fun qv rv => ∃ q r : Int, qv = .int .u64 q ∧ rv = .int .u64 r ∧ GuessI un b1 b0 u1 q r ∧ r < 4294967296) (fun qv _ => (intOf qv).toNat)
    case atStart => exact ⟨q, r, rfl, rfl, HG.out, by omega⟩
    case round =>
      clear HG gq0 gq1 gr0 gr1
      obtain ⟨q, r, rfl, rfl, hG, hr⟩ := hrel
      have gq0 := hG.1
      have gq1 := hG.le
      have gr0 := hG.2.1
      have pb := prod_bd gq0 gq1 i3 i4
      obtain ⟨m, hm⟩ : ∃ m, q * b0 = m := ⟨_, rfl⟩
      have hmw : IntKind.u64.wrap (q * b0) = m := by rw [u64_id (by omega) (by omega)]; exact hm
      have HST : Hid ((4294967296 ≤ q ∨ 4294967296 * r + u1 < m) → 1 ≤ q ∧ GuessI un b1 b0 u1 (q - 1) (r + b1)) := fun h => hG.step HDI.out (by rw [hm]; exact h)
      have HSP : Hid (m ≤ 4294967296 * r + u1 → q = digI un b1 b0 u1) := fun h => hG.stop HDI.out (by rw [hm]; exact h)
      have HBR : Hid (4294967296 ≤ r + b1 → GuessI un b1 b0 u1 (q - 1) (r + b1) → q - 1 = digI un b1 b0 u1) := fun h g => g.brk HDI.out h (by omega)
      have mb0 : 0 ≤ m := by rw [← hm]; exact pb.1
      have mb1 : m ≤ 18446744073709551615 := by rw [← hm]; exact pb.2
      clear hm pb hG
      have body : (4294967296 ≤ q ∨ 4294967296 * r + u1 < m) ∨ (q < 4294967296 ∧ m ≤ 4294967296 * r + u1) := by omega
      rcases body with hb | ⟨hb1, hb2⟩
      · obtain ⟨k1, k2⟩ := HST.out hb
        have HK2 := Lib.hid k2
        clear k2 HST HSP
        have hb' : 4294967296 ≤ q ∨ (q < 4294967296 ∧ 4294967296 * r + u1 < m) := by omega
        clear hb
        by_cases hbk : 4294967296 ≤ r + b1
        · have HQ := Lib.hid (HBR.out hbk HK2.out)
          rcases hb' with hb | ⟨hb, hb2⟩
          all_goals
            go_wp2
            go_meet
            exact ⟨by rw [← HQ.out], rfl⟩
        · rcases hb' with hb | ⟨hb, hb2⟩
          all_goals
            go_wp2
            go_round
            case rel => exact ⟨q - 1, r + b1, by go_num, by go_num, HK2.out, by omega⟩
            case measure => simp [intOf]; omega
      · have HQ := Lib.hid (HSP.out hb2)
        clear HST HSP HBR
        go_wp2
        go_meet
        exact ⟨by rw [← HQ.out], rfl⟩
  case rest =>
    obtain ⟨rfl, rfl⟩ := hcut
    obtain ⟨a0, a1, a2, a3⟩ := digI_rest HDI.out HD.out.Ys
    obtain ⟨q1, hq1⟩ : ∃ q1, digI un b1 b0 u1 = q1 := ⟨_, rfl⟩
    rw [hq1] at a0 a1 a2 a3 ⊢
    obtain ⟨u2, hu2⟩ : ∃ u2, un * 4294967296 + u1 - q1 * Y = u2 := ⟨_, rfl⟩
    rw [hu2] at a2 a3
    have hDI2 : DigI u2 b1 b0 u0 := ⟨a2, i1, i2, i3, i4, i7, i8, by have := HD.out.Ys; omega⟩
    obtain ⟨A1, hA1⟩ : ∃ A1, IntKind.u64.wrap (un * 4294967296) = A1 := ⟨_, rfl⟩
    obtain ⟨A2, hA2⟩ : ∃ A2, IntKind.u64.wrap (A1 + u1) = A2 := ⟨_, rfl⟩
    obtain ⟨A3, hA3⟩ : ∃ A3, IntKind.u64.wrap (q1 * Y) = A3 := ⟨_, rfl⟩
    have hA4 : IntKind.u64.wrap (A2 - A3) = u2 := by
      rw [← hA2, ← hA3, ← hA1]
      simp only [IntKind.wrap_u64]
      generalize q1 * Y = Z at *
      omega
    have G1 := GuessI.start hDI2
    have c0 := G1.1
    have c1 := G1.le
    have d0 := G1.2.1
    have d1 := Int.emod_lt_of_pos u2 (show 0 < b1 by omega)
    have ceq := G1.eq hDI2
    obtain ⟨q, hq⟩ : ∃ q, u2 / b1 = q := ⟨_, rfl⟩
    obtain ⟨r, hr⟩ : ∃ r, u2 % b1 = r := ⟨_, rfl⟩
    rw [hq, hr] at G1 ceq
    rw [hq] at c0 c1
    rw [hr] at d0 d1
    have hqw : IntKind.u64.wrap q = q := u64_id c0 (by omega)
    obtain ⟨m0, hm0⟩ : ∃ m0, q * b1 = m0 := ⟨_, rfl⟩
    have hm00 : 0 ≤ m0 := by rw [← hm0]; exact Int.mul_nonneg c0 (by omega)
    have hm0w : IntKind.u64.wrap (q * b1) = m0 := by rw [u64_id (by omega) (by omega)]; exact hm0
    have hrw : IntKind.u64.wrap (u2 - m0) = r := by rw [u64_id (by omega) (by omega)]; omega
    have HG1 := Lib.hid G1
    have HDI2 := Lib.hid hDI2
    have HQ1 := Lib.hid hq1
    have HU2 := Lib.hid hu2
    clear hq1 hu2 hDI2 G1 hm0 hr ceq HG HDI gq0 gq1 gr0 gr1 n1 n2 n3 n4 n5 n6 n7 n8 n9
    go_upto_block 2 with fail
    rw [hq]
    clear hq hm0w hrw hqw hm00 hA1 hA2 hA3 hA4
    go_cut [18] (fun qv wx => qv = .int .u64 (digI u2 b1 b0 u0) ∧ wx = wc)
    case first =>
      go_wp2_with fail
      go_loop [18, 16] (fun qv rv => ∃ q r : Int, qv = .int .u64 q ∧ rv = .int .u64 r ∧ GuessI u2 b1 b0 u0 q r ∧ r < 4294967296) (fun qv _ => (intOf qv).toNat)
      case atStart => exact ⟨q, r, rfl, rfl, HG1.out, by omega⟩
      case round =>
        clear HG1 c0 c1 d0 d1
        obtain ⟨q, r, rfl, rfl, hG, hr⟩ := hrel
        have gq0 := hG.1
        have gq1 := hG.le
        have gr0 := hG.2.1
        have pb := prod_bd gq0 gq1 i3 i4
        obtain ⟨m, hm⟩ : ∃ m, q * b0 = m := ⟨_, rfl⟩
        have hmw : IntKind.u64.wrap (q * b0) = m := by rw [u64_id (by omega) (by omega)]; exact hm
        have HST : Hid ((4294967296 ≤ q ∨ 4294967296 * r + u0 < m) → 1 ≤ q ∧ GuessI u2 b1 b0 u0 (q - 1) (r + b1)) := fun h => hG.step HDI2.out (by rw [hm]; exact h)
        have HSP : Hid (m ≤ 4294967296 * r + u0 → q = digI u2 b1 b0 u0) := fun h => hG.stop HDI2.out (by rw [hm]; exact h)
        have HBR : Hid (4294967296 ≤ r + b1 → GuessI u2 b1 b0 u0 (q - 1) (r + b1) → q - 1 = digI u2 b1 b0 u0) := fun h g => g.brk HDI2.out h (by omega)
        have mb0 : 0 ≤ m := by rw [← hm]; exact pb.1
        have mb1 : m ≤ 18446744073709551615 := by rw [← hm]; exact pb.2
        clear hm pb hG
        have body : (4294967296 ≤ q ∨ 4294967296 * r + u0 < m) ∨ (q < 4294967296 ∧ m ≤ 4294967296 * r + u0) := by omega
        rcases body with hb | ⟨hb1, hb2⟩
        · obtain ⟨k1, k2⟩ := HST.out hb
          have HK2 := Lib.hid k2
          clear k2 HST HSP
          have hb' : 4294967296 ≤ q ∨ (q < 4294967296 ∧ 4294967296 * r + u0 < m) := by omega
          clear hb
          by_cases hbk : 4294967296 ≤ r + b1
          · have HQ := Lib.hid (HBR.out hbk HK2.out)
            rcases hb' with hb | ⟨hb, hb2⟩
            all_goals
              go_wp2
              go_meet
              exact ⟨by rw [← HQ.out], rfl⟩
          · rcases hb' with hb | ⟨hb, hb2⟩
            all_goals
              go_wp2
              go_round
              case rel => exact ⟨q - 1, r + b1, by go_num, by go_num, HK2.out, by omega⟩
              case measure => simp [intOf]; omega
        · have HQ := Lib.hid (HSP.out hb2)
          clear HST HSP HBR
          go_wp2
          go_meet
          exact ⟨by rw [← HQ.out], rfl⟩
    case rest =>
      obtain ⟨rfl, rfl⟩ := hcut
      obtain ⟨e0, e1, e2, e3⟩ := digI_rest HDI2.out HD.out.Ys
      obtain ⟨q0, hq0⟩ : ∃ q0, digI u2 b1 b0 u0 = q0 := ⟨_, rfl⟩
      rw [hq0] at e0 e1 e2 e3 ⊢
      obtain ⟨R, hR⟩ : ∃ R, u2 * 4294967296 + u0 - q0 * Y = R := ⟨_, rfl⟩
      rw [hR] at e2 e3
      obtain ⟨f1, f2⟩ := digs_fin HN.out HD.out (by omega) HU2.out.symm hR.symm e2 e3
      have hpe := HN.out.p_eq
      obtain ⟨A1, hA1⟩ : ∃ A1, IntKind.u64.wrap (u2 * 4294967296) = A1 := ⟨_, rfl⟩
      obtain ⟨A2, hA2⟩ : ∃ A2, IntKind.u64.wrap (A1 + u0) = A2 := ⟨_, rfl⟩
      obtain ⟨A3, hA3⟩ : ∃ A3, IntKind.u64.wrap (q0 * Y) = A3 := ⟨_, rfl⟩
      have hA4 : IntKind.u64.wrap (A2 - A3) = R := by
        rw [← hA2, ← hA3, ← hA1]
        simp only [IntKind.wrap_u64]
        generalize q0 * Y = Z at *
        omega
      have F1 := Lib.hid f1
      have F2 := Lib.hid f2
      clear hq0 hR f1 f2 HN HD HU2 HDI2 HG1
      go_wp2
      go_ret2
      refine ⟨?_, rfl⟩
      rw [← F1.out, ← F2.out]
      rfl

end Go.Proofs.YtlgedljhheficaaGreatDoor

namespace Go.Proofs.YtlgedljhheficaaGreatDoor
open Go.RowKit

theorem split64 (B N : Nat) : ((N / B : Nat) : Int) * (B : Int) + ((N % B : Nat) : Int) = (N : Int) := by
  have h1 : ((N / B : Nat) : Int) * (B : Int) = ((N / B * B : Nat) : Int) := by simp
  rw [h1]
  have := Nat.div_add_mod N B
  rw [Nat.mul_comm] at this
  omega

set_option maxRecDepth 100000 in
set_option maxHeartbeats 1000000 in
theorem divide_any (t n d : Nat) (ht : t ≤ d) (hn : n ≤ d) (hd : 1 ≤ d) (hd2 : d ≤ 1099511627776) (w : World) :
    Calls Tryz.prog 68 #[.int .i64 t, .int .i64 n, .int .i64 d] w fun e w' => e = .returned (.tuple #[.int .u64 ((t * n / d : Nat) : Int), .int .u64 ((t * n % d : Nat) : Int), .int .i64 0]) ∧ ∃ m, w' = w.drewN m := by
  have hle : t * n ≤ d * n := Nat.mul_le_mul_right n ht
  have hqd : t * n / d ≤ n := by
    have : t * n / d ≤ d * n / d := Nat.div_le_div_right hle
    rwa [Nat.mul_div_cancel_left n hd] at this
  by_cases hsm : t * n < 18446744073709551616
  · exact divide_small t n d (by omega) (by omega) hd (by omega) hsm (by omega) w
  · have hdd : t * n ≤ d * d := Nat.mul_le_mul ht hn
    have hd32 : 4294967296 ≤ d := by
      rcases Nat.lt_or_ge d 4294967296 with h | h
      · have := Nat.mul_le_mul (show d ≤ 4294967295 by omega) (show d ≤ 4294967295 by omega)
        omega
      · exact h
    have b1 : inB t = true := by simp [inB]; omega
    have b2 : largeB n = true := by simp [largeB]; omega
    have b3 : largeB d = true := by simp [largeB]; omega
    have hz : ((d : Int) == 0) = false := by simp; omega
    have hm := Tryz.bits_Mul64 t n (by omega) (by omega) w
    have hs := split64 18446744073709551616 (t * n)
    have hh0 : 1 ≤ t * n / 18446744073709551616 := (Nat.le_div_iff_mul_le (by omega)).2 (by omega)
    have hh1 : t * n / 18446744073709551616 < d := by
      rw [Nat.div_lt_iff_lt_mul (by omega)]
      have h1 : d * d ≤ d * 1099511627776 := Nat.mul_le_mul_left d hd2
      omega
    have hl1 : t * n % 18446744073709551616 < 18446744073709551616 := Nat.mod_lt _ (by omega)
    obtain ⟨H, hH⟩ : ∃ H : Int, ((t * n / 18446744073709551616 : Nat) : Int) = H := ⟨_, rfl⟩
    obtain ⟨L, hL⟩ : ∃ L : Int, ((t * n % 18446744073709551616 : Nat) : Int) = L := ⟨_, rfl⟩
    rw [hH, hL] at hm
    have k1 : 1 ≤ H := by omega
    have k2 : H < (d : Int) := by omega
    have k3 : 0 ≤ L := by omega
    have k4 : L < 18446744073709551616 := by omega
    have ks : H * 18446744073709551616 + L = ((t * n : Nat) : Int) := by
      rw [← hH, ← hL]
      exact hs
    have hD := div64_big H L d k1 k2 k3 k4 (by omega) (by omega) w
    have e1 : (H * 18446744073709551616 + L) / (d : Int) = ((t * n / d : Nat) : Int) := by rw [ks]; simp
    have e2 : (H * 18446744073709551616 + L) % (d : Int) = ((t * n % d : Nat) : Int) := by rw [ks]; simp
    rw [e1, e2] at hD
    have hkd : decide ((d : Int) ≤ H) = false := by simp; omega
    obtain ⟨q, hq⟩ : ∃ q : Int, ((t * n / d : Nat) : Int) = q := ⟨_, rfl⟩
    obtain ⟨r, hr⟩ : ∃ r : Int, ((t * n % d : Nat) : Int) = r := ⟨_, rfl⟩
    have hq0 : 0 ≤ q := by rw [← hq]; exact Int.natCast_nonneg _
    have hqn : ((t * n / d : Nat) : Int) ≤ (n : Int) := Int.ofNat_le.2 hqd
    rw [hq] at hqn
    have hq1 : q ≤ 1099511627776 := by omega
    clear hqn
    rw [hq, hr] at hD ⊢
    obtain ⟨zt, hzt⟩ : ∃ z : Int, (t : Int) = z := ⟨_, rfl⟩
    obtain ⟨zn, hzn⟩ : ∃ z : Int, (n : Int) = z := ⟨_, rfl⟩
    obtain ⟨zd, hzd⟩ : ∃ z : Int, (d : Int) = z := ⟨_, rfl⟩
    have g1 : 0 ≤ zt ∧ zt ≤ 1099511627776 := by omega
    have g2 : 0 ≤ zn ∧ zn ≤ 1099511627776 := by omega
    have g3 : 1 ≤ zd ∧ zd ≤ 1099511627776 := by omega
    rw [hzt, hzn] at hm
    rw [hzd] at hD k2 hkd hz
    rw [hzt] at b1
    rw [hzn] at b2
    rw [hzd] at b3
    rw [hzt, hzn, hzd]
    have Hm := Lib.hid hm
    have Hd := Lib.hid hD
    have B1 := Lib.hid b1
    have B2 := Lib.hid b2
    have B3 := Lib.hid b3
    clear hm b1 b2 b3 hD hzt hzn hzd hq hr e1 e2 ks hH hL hs hh0 hh1 hl1 hdd hd32 hsm hqd hle ht hn hd hd2
    go_enter Tryz.func68, Tryz.ntmps68
    go_wp2_with fail
    refine (isAmount_any _ _).mono ?_
    rintro e w' ⟨rfl, rfl⟩
    rw [B1.out]
    go_wp2_with fail
    refine (isLarge_any _ _).mono ?_
    rintro e w' ⟨rfl, rfl⟩
    rw [B2.out]
    go_wp2_with fail
    refine (isLarge_any _ _).mono ?_
    rintro e w' ⟨rfl, rfl⟩
    rw [B3.out]
    go_wp2_with fail
    refine Hm.out.mono ?_
    rintro e w' ⟨rfl, rfl⟩
    go_wp2_with fail
    refine Hd.out.mono ?_
    rintro e w' ⟨rfl, rfl⟩
    go_wp2
    go_ret3
    exact ⟨rfl, 0, rfl⟩

/-- Quotients and remainders of the parts of a list. -/
def qOf (T S : Nat) (ps : List Nat) (i : Nat) : Int := ((T * (ps[i]?.getD 0) / S : Nat) : Int)
def rOf (T S : Nat) (ps : List Nat) (i : Nat) : Int := ((T * (ps[i]?.getD 0) % S : Nat) : Int)
theorem parts_of {n T S : Nat} {ps : List Nat} (h1 : 1 ≤ n) (hS : sumTo (fun i => ((ps[i]?.getD 0 : Nat) : Int)) n = S) (hS1 : 1 ≤ S) (hT : T ≤ S) : Parts n (fun i => ((ps[i]?.getD 0 : Nat) : Int)) S T (qOf T S ps) (rOf T S ps) := by
  refine ⟨h1, fun i _ => by omega, hS, by omega, by omega, by omega, fun i _ => ?_, fun i _ => Int.natCast_nonneg _, fun i _ => ?_, fun i _ => Int.natCast_nonneg _⟩
  · unfold qOf rOf
    have := Nat.div_add_mod (T * (ps[i]?.getD 0)) S
    have e1 : (T : Int) * ((ps[i]?.getD 0 : Nat) : Int) = ((T * (ps[i]?.getD 0) : Nat) : Int) := by simp
    have e2 : ((T * (ps[i]?.getD 0) / S : Nat) : Int) * (S : Int) = ((S * (T * (ps[i]?.getD 0) / S) : Nat) : Int) := by rw [Nat.mul_comm S, Int.natCast_mul]
    rw [e1, e2]
    generalize T * (ps[i]?.getD 0) = X at *
    omega
  · unfold rOf
    have := Nat.mod_lt (T * (ps[i]?.getD 0)) (show S > 0 by omega)
    omega

end Go.Proofs.YtlgedljhheficaaGreatDoor

namespace Go.Proofs.YtlgedljhheficaaGreatDoor
open Go.RowKit

/-- The first k values of f, as cells. -/
def icells (f : Nat → Int) (k : Nat) : List Value := ints ((List.range k).map f)
theorem icells_length (f : Nat → Int) (k : Nat) : (icells f k).length = k := by simp [icells]
theorem icells_snoc (f : Nat → Int) (k : Nat) : icells f (k + 1) = icells f k ++ [.int .i64 (f k)] := by simp [icells, ints, List.range_succ]
theorem icells_at (f : Nat → Int) {k i : Nat} (h : i < k) : (icells f k)[i]? = some (.int .i64 (f i)) := by simp [icells, ints, h]
theorem icells_set {f g : Nat → Int} {n j : Nat} {z : Int} (hj : g j = z) (ho : ∀ i, i ≠ j → g i = f i) : (icells f n).set j (.int .i64 z) = icells g n := by
  unfold icells
  rw [ints_set]
  congr 1
  apply List.ext_getElem?
  intro i
  simp only [List.getElem?_set, List.length_map, List.length_range, List.getElem?_map]
  by_cases h : j = i
  · subst h
    by_cases hn : j < n
    · simp [hn, hj]
    · simp [hn]
  · rw [if_neg h]
    by_cases hn : i < n
    · simp [hn, ho i (fun e => h e.symm)]
    · simp [hn]

/-- Two rows of integers, made by the call, that do not share their cells. -/
structure TwoRows (w0 w : World) (vo vr : Value) (j k : Nat) (f g : Nat → Int) : Prop where
  a : w.ownsRow w0.heap.size 3 1 vo j (icells f j)
  b : w.ownsRow w0.heap.size 3 1 vr k (icells g k)
  bel : Below w0.heap.size w0 w
  ne : ∀ j, vo.ownBlock = some j → vr.ownBlock ≠ some j
section
variable {w0 w w' : World} {vo vr vo' vr' : Value} {j k : Nat} {f g : Nat → Int}
theorem TwoRows.below (h : TwoRows w0 w vo vr j k f g) (hb : Below w.heap.size w w') : TwoRows w0 w' vo vr j k f g :=
  ⟨h.a.kept (grown_of_below hb none) (by cases vo.ownBlock <;> simp), h.b.kept (grown_of_below hb none) (by cases vr.ownBlock <;> simp), h.bel.trans (hb.mono h.bel.size), h.ne⟩
theorem TwoRows.symm (h : TwoRows w0 w vo vr j k f g) : TwoRows w0 w vr vo k j g f := ⟨h.b, h.a, h.bel, fun x h1 h2 => h.ne x h2 h1⟩
theorem bel_grown {w0 w w' : World} {v : Value} {m : Nat} {xs : List Value} {t : TypeId} {s : Nat} (hb : Below w0.heap.size w0 w) (ho : w.ownsRow w0.heap.size t s v m xs) (hg : w.grownBy w' v.ownBlock) : Below w0.heap.size w0 w' :=
  hb.grown hg hb.size (fun j e => (ho.lt j e).1)
theorem TwoRows.app {tmp : Obj} {gg cap : Nat} (h : TwoRows w0 w vo vr j k f g) (hown : w'.ownsRow w0.heap.size 3 1 (.slice (some ⟨gg, 0, none⟩) (j + 1) cap) (j + 1) (icells f j ++ [.int .i64 (f j)]))
    (hg : (w.alloc tmp).grownBy w' vo.ownBlock) (hat : vo.ownBlock = some gg ∨ gg = w.heap.size + 1) : TwoRows w0 w' (.slice (some ⟨gg, 0, none⟩) (j + 1) cap) vr (j + 1) k f g := by
  refine ⟨by rw [icells_snoc]; exact hown, (h.b.alloc tmp).kept hg ?_, bel_grown (h.bel.alloc h.bel.size _) (h.a.alloc tmp) hg, ?_⟩
  · cases hv : vr.ownBlock with
    | none => exact .inl rfl
    | some x => exact .inr (fun e => h.ne x e.symm hv)
  · intro x hx
    have hx2 : gg = x := by simpa [Value.ownBlock] using hx
    subst hx2
    rcases hat with h1 | h1
    · exact h.ne _ h1
    · intro h2
      have := (h.b.lt _ h2).2
      omega
theorem TwoRows.set1 {ga cap B : Nat} {f' : Nat → Int} {u : Int} (h : TwoRows w0 w (.slice (some ⟨ga, 0, none⟩) j cap) vr j k f g) (hu : f' B = u) (ho : ∀ i, i ≠ B → f' i = f i) :
    TwoRows w0 (w.setCell ⟨ga, B, none⟩ (.int .i64 u)) (.slice (some ⟨ga, 0, none⟩) j cap) vr j k f' g := by
  obtain ⟨s1, s2⟩ := h.a.stored B (.int .i64 u)
  rw [icells_set hu ho] at s1
  refine ⟨s1, h.b.kept s2 ?_, bel_grown h.bel h.a s2, h.ne⟩
  cases hv : vr.ownBlock with
  | none => exact .inl rfl
  | some x => exact .inr (fun e => h.ne x e.symm hv)
theorem TwoRows.ca {ga cap i : Nat} (h : TwoRows w0 w (.slice (some ⟨ga, 0, none⟩) j cap) vr j k f g) (hi : i < j) : w.cell? ⟨ga, i, none⟩ = some (.int .i64 (f i)) := by
  rw [h.a.cellAt i (by omega), icells_at f hi]
theorem bumped_next {q : Nat → Int} {os : Nat → Nat} {l i : Nat} (hi : i ≠ os l) : bumped q os (l + 1) i = bumped q os l i := by
  unfold bumped
  by_cases he : ∃ j, j < l ∧ os j = i
  · obtain ⟨j, hj, hji⟩ := he
    rw [if_pos ⟨j, by omega, hji⟩, if_pos ⟨j, hj, hji⟩]
  · rw [if_neg (c := ∃ j, j < l ∧ os j = i) he, if_neg]
    rintro ⟨j, hj, hji⟩
    by_cases hjl : j = l
    · subst hjl; exact hi hji.symm
    · exact he ⟨j, by omega, hji⟩
theorem bumped_here {q : Nat → Int} {os : Nat → Nat} {l : Nat} : bumped q os (l + 1) (os l) = q (os l) + 1 := by
  unfold bumped
  rw [if_pos ⟨l, by omega, rfl⟩]
end

set_option maxRecDepth 100000 in
set_option maxHeartbeats 8000000 in
theorem rsplit_walk {w : World} {A off n c L : Nat} {pf q r : Nat → Int} (zT zS : Int) (i0 : TypeInfo) (hinf : Tryz.prog.info? 3 = some i0) (hz0 : i0.zero = some (.int .i64 0)) (hz1 : i0.size = 1) (hz2 : i0.bytes = 8) (h1 : 1 ≤ n) (h12 : n ≤ 12) (hbb : A < w.heap.size)
    (HC : Hid (∀ i, i < n → w.cell? ⟨A, off + i, none⟩ = some (.int .i64 (pf i)))) (HP : Hid (∀ i, i < n → 0 ≤ pf i ∧ pf i ≤ 1099511627776))
    (KD : Hid (∀ i, i < n → ∀ W : World, Calls Tryz.prog 75 #[.int .i64 zT, .int .i64 (pf i), .int .i64 zS] W fun e w' => e = .returned (.tuple #[.int .i64 (q i), .int .i64 (r i), .bool true]) ∧ W = w'))
    (KA : Hid (∀ i, i < n → ∀ W : World, Calls Tryz.prog 74 #[.int .i64 (pf i)] W fun e w' => e = .returned (.bool true) ∧ W = w')) (B1 : Hid (∀ W : World, Calls Tryz.prog 74 #[.int .i64 zT] W fun e w' => e = .returned (.bool true) ∧ W = w'))
    (hq0 : Hid (∀ i, i < n → 0 ≤ q i ∧ q i ≤ 1099511627776)) (hsq : Hid (∀ i, i ≤ n → 0 ≤ sumTo q i ∧ sumTo q i ≤ 13194139533312)) (hr0 : Hid (∀ i, i < n → 0 ≤ r i ∧ r i < 1099511627776))
    (HS : Hid (sumTo pf n = zS)) (HPre : Hid (∀ i, i ≤ n → 0 ≤ sumTo pf i ∧ sumTo pf i ≤ 1099511627776)) (HL : Hid (zT - sumTo q n = (L : Int))) (t0 : 0 ≤ zT ∧ zT ≤ 1099511627776) (s0 : 1 ≤ zS ∧ zS ≤ 1099511627776) (hLn : L ≤ n) :
    Calls Tryz.prog 44 #[.int .i64 zT, .slice (some ⟨A, off, none⟩) n c] w fun e w' => ∃ v, e = .returned (.tuple #[v, .int .i64 0]) ∧ w'.ownsRow w.heap.size 3 1 v n (icells (bumped q (ordN r n) L) n) ∧ Below w.heap.size w w' := by
  go_enter Tryz.func44, Tryz.ntmps44
  go_wp2_with fail
  go_loopw [6, 7] (fun s i wr => w = wr ∧ ∃ k : Nat, i = .int .i64 (k : Int) ∧ k ≤ n ∧ s = .int .i64 (sumTo pf k)) (fun _ i _ => n - (intOf i).toNat)
  case atStart => exact ⟨rfl, 0, rfl, Nat.zero_le _, rfl⟩
  case round =>
    obtain ⟨rfl, k, rfl, hk, rfl⟩ := hrel
    by_cases hlt : k < n
    · have c0 := HC.out k hlt
      have l0 := HPre.out k (by omega)
      have l1 := HP.out k hlt
      have ca := KA.out k hlt
      have CA := Lib.hid ca
      have hnx : Hid (sumTo pf (k + 1) = sumTo pf k + pf k) := rfl
      clear ca HC HP KD KA HPre
      generalize sumTo pf k = s at *
      generalize pf k = p at *
      have a1 : (k : Int) < (n : Int) := by omega
      go_wp2_with fail
      refine (CA.out _).mono ?_
      rintro e wA ⟨rfl, rfl⟩
      have a2 : ¬ (1152921504606846976 < s) := by omega
      go_wp2_with fail
      go_roundw
      case rel => exact ⟨by trivial, k + 1, by go_num, by omega, by rw [hnx.out]⟩
      case measure => simp [intOf]; omega
    · obtain rfl : k = n := by omega
      rw [HS.out]
      have a1 : (zS == 0) = false := by simp; omega
      have a2 : ¬ (1152921504606846976 < zS) := by omega
      clear HS HPre HP KA
      go_wp2_with fail
      refine (B1.out _).mono ?_
      rintro e wA ⟨rfl, rfl⟩
      clear B1
      go_wp2_with fail
      go_loopw [10, 11, 12, 13] (fun vo vr l i wr => ∃ j : Nat, i = .int .i64 (j : Int) ∧ j ≤ k ∧ l = .int .i64 (zT - sumTo q j) ∧ TwoRows w wr vo vr j j q r) (fun _ _ _ i _ => k - (intOf i).toNat)
      case atStart => exact ⟨0, rfl, Nat.zero_le _, by simp [sumTo], ⟨World.ownsRow_nil _ _ _ _, World.ownsRow_nil _ _ _ _, Below.refl _ _, fun j h => by simp [Value.ownBlock] at h⟩⟩
      case round =>
        obtain ⟨j, rfl, hj, rfl, hR⟩ := hrel
        have HR := Lib.hid hR
        clear hR
        by_cases hjk : j < k
        · have cD := KD.out j hjk
          have CD := Lib.hid cD
          have c0 := (HR.out.bel.cell (p := ⟨A, off + j, none⟩) hbb).trans (HC.out j hjk)
          have hbw : A < wr.heap.size := Nat.lt_of_lt_of_le hbb HR.out.bel.size
          have l0 := hsq.out j (by omega)
          have l1 := hq0.out j hjk
          have l2 := hsq.out (j + 1) (by omega)
          have hnx : Hid (sumTo q (j + 1) = sumTo q j + q j) := rfl
          have a3 : (j : Int) < (k : Int) := by omega
          clear cD KD HC hsq hq0 HL hr0
          generalize sumTo q j = s at *
          go_wp2_with fail
          refine (CD.out _).mono ?_
          rintro e wA ⟨rfl, rfl⟩
          clear CD c0
          have C2 : Hid (∀ u ∈ ([.int .i64 (q j)] : List Value), u.oneCell' = true) := by
            intro u hu; simp at hu; rw [hu]; rfl
          have C2r : Hid (∀ u ∈ ([.int .i64 (r j)] : List Value), u.oneCell' = true) := by
            intro u hu; simp at hu; rw [hu]; rfl
          have C3 : Hid (j + 1 ≤ maxLen) := by show j + 1 ≤ maxLen; unfold maxLen; omega
          have C4 : Hid ((j + 1) * 8 ≤ 140737488355328) := by show (j + 1) * 8 ≤ 140737488355328; omega
          have C5 : Hid (w.heap.size ≤ (wr.alloc (.cells #[.int .i64 (q j)] 3)).heap.size) := by
            have := HR.out.bel.size
            show w.heap.size ≤ (Array.push _ _).size
            rw [Array.size_push]; omega
          have C6 : Hid ((wr.alloc (.cells #[.int .i64 (q j)] 3)).heap.size = wr.heap.size + 1) := by
            exact Array.size_push ..
          go_wp2_with (at_builtin; refine wpList_append_lies _ rfl (.tmp 72) (.tmp 74) 22 rfl w.heap.size 3 i0 (.int .i64 0) 1 8 Tryz.underlying22 hinf hz0 hz1 hz2 rfl (by decide) _ j (icells q j) rfl (HR.out.a.alloc _) ⟨wr.heap.size, 0, none⟩ 1 1 [.int .i64 (q j)] rfl rfl (cell_one_new _ _ _) C2.out (by omega) C3.out C4.out C5.out (wr.heap.size + 1) C6.out ?_)
          intro g1 cap1 w1 hown1 hgr1 hat1 hlt1
          have H1 := Lib.hid (HR.out.app hown1 hgr1 hat1)
          clear hown1 hgr1 hat1 hlt1 C5 C6 C2 HR hbw
          have C5 : Hid (w.heap.size ≤ (w1.alloc (.cells #[.int .i64 (r j)] 3)).heap.size) := by
            have := H1.out.bel.size
            show w.heap.size ≤ (Array.push _ _).size
            rw [Array.size_push]; omega
          have C6 : Hid ((w1.alloc (.cells #[.int .i64 (r j)] 3)).heap.size = w1.heap.size + 1) := by
            exact Array.size_push ..
          go_wp2_with (at_builtin; refine wpList_append_lies _ rfl (.tmp 76) (.tmp 78) 22 rfl w.heap.size 3 i0 (.int .i64 0) 1 8 Tryz.underlying22 hinf hz0 hz1 hz2 rfl (by decide) _ j (icells r j) rfl (H1.out.b.alloc _) ⟨w1.heap.size, 0, none⟩ 1 1 [.int .i64 (r j)] rfl rfl (cell_one_new _ _ _) C2r.out (by omega) C3.out C4.out C5.out (w1.heap.size + 1) C6.out ?_)
          intro g2 cap2 w2 hown2 hgr2 hat2 hlt2
          have H2 := Lib.hid (H1.out.symm.app hown2 hgr2 hat2).symm
          clear hown2 hgr2 hat2 hlt2 C5 C6 C2r H1
          go_wp2_with fail
          go_roundw
          case rel => exact ⟨j + 1, by go_num, by omega, by rw [hnx.out]; go_num, H2.out⟩
          case measure => simp [intOf]; omega
        · obtain rfl : j = k := by omega
          have hrel0 := HR.out
          have HB := Lib.hid (fun m (hm : m < j) => best_ord (r := r) h1 (fun i hi => (hr0.out i hi).1) hm)
          have HPM := Lib.hid (ordN_perm r h1)
          rw [HL.out]
          have HZ : Hid (TwoRows w wr u10 u11 j j (bumped q (ordN r j) 0) (restOf r (ordN r j) 0)) := by
            have e1 : bumped q (ordN r j) 0 = q := by funext i; simp [bumped]
            have e2 : restOf r (ordN r j) 0 = r := by funext i; simp [restOf]
            rw [e1, e2]; exact HR.out
          clear hrel0 HR HL KD HC hsq
          obtain ⟨ga, capa, rfl, -, -⟩ := HZ.out.a.form h1
          obtain ⟨gb, capb, rfl, -, -⟩ := HZ.out.b.form h1
          go_wp2_with fail
          go_loopw [12] (fun l wr => ∃ m : Nat, l = .int .i64 ((L : Int) - (m : Int)) ∧ m ≤ L ∧ TwoRows w wr (.slice (some ⟨ga, 0, none⟩) j capa) (.slice (some ⟨gb, 0, none⟩) j capb) j j (bumped q (ordN r j) m) (restOf r (ordN r j) m)) (fun l _ => (intOf l).toNat)
          case atStart => exact ⟨0, by simp, Nat.zero_le _, HZ.out⟩
          case round =>
            clear HZ
            obtain ⟨m, rfl, hm, hR⟩ := hrel
            have HR := Lib.hid hR
            clear hR
            by_cases hmL : m < L
            · have a4 : 0 < (L : Int) - (m : Int) := by omega
              have hb := HB.out m (by omega)
              have HBm := Lib.hid hb
              have oB := HPM.out.lt m (by omega)
              have hba := bumped_at (q := q) HPM.out.inj (l := m) (by omega)
              have HBA := Lib.hid hba
              have qB := hq0.out _ oB
              clear hb hba HB HPM hr0
              go_wp2_with fail
              go_loopw [17, 18] (fun b i wr => ∃ t : Nat, i = .int .i64 ((t : Int) + 1) ∧ t < j ∧ b = .int .i64 (best (restOf r (ordN r j) m) t : Nat) ∧ TwoRows w wr (.slice (some ⟨ga, 0, none⟩) j capa) (.slice (some ⟨gb, 0, none⟩) j capb) j j (bumped q (ordN r j) m) (restOf r (ordN r j) m)) (fun _ i _ => j + 1 - (intOf i).toNat)
              case atStart => exact ⟨0, rfl, by omega, rfl, HR.out⟩
              case round =>
                clear HR
                obtain ⟨t, rfl, ht, rfl, hR⟩ := hrel
                have HR := Lib.hid hR
                clear hR
                by_cases htj : t + 1 < j
                · have e1 := best_le (restOf r (ordN r j) m) t
                  have c1 := HR.out.symm.ca (i := t + 1) htj
                  have c2 := HR.out.symm.ca (i := best (restOf r (ordN r j) m) t) (by omega)
                  have hN : Hid (best (restOf r (ordN r j) m) (t + 1) = if restOf r (ordN r j) m (best (restOf r (ordN r j) m) t) < restOf r (ordN r j) m (t + 1) then t + 1 else best (restOf r (ordN r j) m) t) := rfl
                  have HRB := Lib.hid (fun n => HR.out.below (bel_drewN (Below.refl _ _) n))
                  clear HR
                  generalize hx1 : restOf r (ordN r j) m (t + 1) = x1 at c1 hN
                  generalize best (restOf r (ordN r j) m) t = bt at *
                  generalize hx2 : restOf r (ordN r j) m bt = x2 at c2 hN
                  clear hx1 hx2 HBm HBA
                  have a5 : (t : Int) + 1 < (j : Int) := by omega
                  have a6 : (bt : Int) < (j : Int) := by omega
                  have a7 : ((t : Int) + 1).toNat = t + 1 := by omega
                  have a8 : (0 : Int) ≤ (t : Int) + 1 := by omega
                  go_wp2_with fail
                  go_quiet (fail)
                  by_cases hlt2 : x2 < x1
                  · have hd : decide (x2 < x1) = true := decide_eq_true hlt2
                    go_wp2_with fail
                    go_roundw
                    case rel => exact ⟨t + 1, by go_num, by omega, by rw [hN.out, if_pos hlt2]; go_num, HRB.out _⟩
                    case measure => simp [intOf]; omega
                  · have hd : decide (x2 < x1) = false := decide_eq_false hlt2
                    go_wp2_with fail
                    go_roundw
                    case rel => exact ⟨t + 1, by go_num, by omega, by rw [hN.out, if_neg hlt2], HRB.out _⟩
                    case measure => simp [intOf]; omega
                · obtain rfl : t = j - 1 := by omega
                  rw [HBm.out]
                  have c1 := HR.out.ca (i := ordN r j m) oB
                  rw [HBA.out] at c1
                  have f1 := HR.out.a.frozenAt (ordN r j m)
                  have S1 := HR.out.set1 (B := ordN r j m) (f' := bumped q (ordN r j) (m + 1)) bumped_here (fun i hi => bumped_next hi)
                  have f2 := S1.b.frozenAt (ordN r j m)
                  have c2 := S1.symm.ca (i := ordN r j m) oB
                  have S2 := S1.symm.set1 (B := ordN r j m) (f' := restOf r (ordN r j) (m + 1)) (u := -1) (by rw [restOf_next, if_pos rfl]) (fun i hi => by rw [restOf_next, if_neg hi])
                  have HS2 := Lib.hid S2.symm
                  have lt1 := (HR.out.a.lt ga rfl).2
                  have lt2 := (HR.out.b.lt gb rfl).2
                  clear S1 S2 HR HBm HBA
                  generalize ordN r j m = B at *
                  generalize q B = z at *
                  have a5 : ¬ (((j - 1 : Nat) : Int) + 1 < (j : Int)) := by omega
                  have a6 : (B : Int) < (j : Int) := by omega
                  generalize restOf r (ordN r j) m B = y at c2
                  go_wp2_with fail
                  go_roundw
                  case rel => exact ⟨m + 1, by go_num, by omega, HS2.out⟩
                  case measure => simp [intOf]; omega
            · obtain rfl : m = L := by omega
              go_wp2_with fail
              go_ret2
              exact ⟨_, rfl, HR.out.a, HR.out.bel⟩

set_option maxRecDepth 100000 in
set_option maxHeartbeats 4000000 in
theorem rsplit_any {w : World} {A : Option Addr} {n c : Nat} {ps : List Nat} (T S : Nat) (L : Nat) (hr : Row w w.heap.size A (ints (ps.map (fun x : Nat => (x : Int))))) (hn : n = ps.length) (h1 : 1 ≤ n) (h12 : n ≤ 12)
    (hS : sumTo (fun i => ((ps[i]?.getD 0 : Nat) : Int)) n = S) (hS1 : 1 ≤ S) (hS2 : S ≤ 1099511627776) (hT : T ≤ S) (hp : ∀ i, i < n → ps[i]?.getD 0 ≤ S) (hpre : ∀ i, i ≤ n → 0 ≤ sumTo (fun i => ((ps[i]?.getD 0 : Nat) : Int)) i ∧ sumTo (fun i => ((ps[i]?.getD 0 : Nat) : Int)) i ≤ S)
    (hL : (T : Int) - sumTo (qOf T S ps) n = L) :
    Calls Tryz.prog 44 #[.int .i64 T, .slice A n c] w fun e w' => ∃ v, e = .returned (.tuple #[v, .int .i64 0]) ∧ w'.ownsRow w.heap.size 3 1 v n (icells (bumped (qOf T S ps) (ordN (rOf T S ps) n) L) n) ∧ Below w.heap.size w w' := by
  obtain ⟨i0, hinf, hz0, hz1, hz2⟩ := info_parts info3
  have hP := parts_of h1 hS hS1 hT
  have hLn := hP.kn hL
  have hLb := hP.left0
  have b1 : inB (T : Int) = true := by simp [inB]; omega
  have B1 : Hid (∀ W : World, Calls Tryz.prog 74 #[.int .i64 (T : Int)] W fun e w' => e = .returned (.bool true) ∧ W = w') := fun W => by
    have := rAmount_any (T : Int) W
    rwa [b1] at this
  obtain ⟨b, off, rfl, hbb, hc⟩ := hr.at_ 0 (by simp; omega)
  obtain ⟨pf, hpf⟩ : ∃ pf : Nat → Int, pf = fun i => ((ps[i]?.getD 0 : Nat) : Int) := ⟨_, rfl⟩
  have hpi : ∀ i, ((ps[i]?.getD 0 : Nat) : Int) = pf i := fun i => by rw [hpf]
  have HC : Hid (∀ i, i < n → w.cell? ⟨b, off + i, none⟩ = some (.int .i64 (pf i))) := fun i hi => by
    rw [← hpi]
    exact hc i _ (by simp [ints, show i < ps.length by omega])
  have HP : Hid (∀ i, i < n → 0 ≤ pf i ∧ pf i ≤ 1099511627776) := fun i hi => by
    have := hp i hi
    rw [← hpi]
    omega
  have KD : Hid (∀ i, i < n → ∀ W : World, Calls Tryz.prog 75 #[.int .i64 (T : Int), .int .i64 (pf i), .int .i64 (S : Int)] W fun e w' => e = .returned (.tuple #[.int .i64 (qOf T S ps i), .int .i64 (rOf T S ps i), .bool true]) ∧ W = w') := fun i hi W => by
    rw [← hpi]
    exact rdivide_any T (ps[i]?.getD 0) S rfl rfl hT (by have := hp i hi; omega) hS1 hS2 W
  have KA : Hid (∀ i, i < n → ∀ W : World, Calls Tryz.prog 74 #[.int .i64 (pf i)] W fun e w' => e = .returned (.bool true) ∧ W = w') := fun i hi W => by
    have := rAmount_any (pf i) W
    rwa [show inB (pf i) = true by have := HP.out i hi; simp [inB]; omega] at this
  have hq0 : Hid (∀ i, i < n → 0 ≤ qOf T S ps i ∧ qOf T S ps i ≤ 1099511627776) := fun i hi => ⟨hP.q0 i hi, by have := hP.q_le hi; have := hp i hi; omega⟩
  have hsq : Hid (∀ i, i ≤ n → 0 ≤ sumTo (qOf T S ps) i ∧ sumTo (qOf T S ps) i ≤ 13194139533312) := fun i hi => by
    refine ⟨sumTo_lo fun j hj => hP.q0 j (by omega), ?_⟩
    have := sumTo_le_mul (f := qOf T S ps) (c := 1099511627776) (n := i) (fun j hj => (hq0.out j (by omega)).2)
    omega
  have hr0 : Hid (∀ i, i < n → 0 ≤ rOf T S ps i ∧ rOf T S ps i < 1099511627776) := fun i hi => ⟨hP.r0 i hi, by have := hP.r1 i hi; omega⟩
  rw [← hpf] at hS hpre
  have HS := Lib.hid hS
  have HPre : Hid (∀ i, i ≤ n → 0 ≤ sumTo pf i ∧ sumTo pf i ≤ 1099511627776) := fun i hi => by have := hpre i hi; omega
  obtain ⟨zT, hzT⟩ : ∃ z : Int, (T : Int) = z := ⟨_, rfl⟩
  obtain ⟨zS, hzS⟩ : ∃ z : Int, (S : Int) = z := ⟨_, rfl⟩
  have t0 : 0 ≤ zT ∧ zT ≤ 1099511627776 := by omega
  have s0 : 1 ≤ zS ∧ zS ≤ 1099511627776 := by omega
  rw [hzT] at KD B1 hL ⊢
  rw [hzS] at KD HS
  have HL := Lib.hid hL
  clear hr hc hS hp hpre hL hP hT hS1 hS2 hzT hzS b1 hpi hpf hLb hn
  generalize qOf T S ps = q at *
  generalize rOf T S ps = r at *
  clear ps T S
  exact rsplit_walk (A := b) (off := off) zT zS i0 hinf hz0 hz1 hz2 h1 h12 hbb HC HP KD KA B1 hq0 hsq hr0 HS HPre HL t0 s0 hLn

end Go.Proofs.YtlgedljhheficaaGreatDoor

namespace Go.Proofs.YtlgedljhheficaaGreatDoor
open Go.RowKit

def ShPost (w : World) (L : List Int) (E : Int) (e : Ending) (w' : World) : Prop :=
  ∃ A n c, e = .returned (.tuple #[.slice A n c, .int .i64 E]) ∧ n = L.length ∧ Row w' w'.heap.size A (ints L) ∧ Below w.heap.size w w'
theorem shNil {w w' : World} (E : Int) (hb : Below w.heap.size w w') : ShPost w [] E (.returned (.tuple #[.slice none 0 0, .int .i64 E])) w' :=
  ⟨none, 0, 0, rfl, rfl, .inl rfl, hb⟩
def wAt (ws : List Int) (i : Nat) : Int := ws[i]?.getD 0
/-- The first K parts are good. -/
structure GoodTo (ws : List Int) (K : Nat) : Prop where
  at_ : ∀ i, i < K → 0 ≤ wAt ws i ∧ wAt ws i ≤ 1099511627776 ∧ 0 ≤ sumTo (wAt ws) i ∧ sumTo (wAt ws) i + wAt ws i ≤ 1099511627776
  sum : 0 ≤ sumTo (wAt ws) K ∧ sumTo (wAt ws) K ≤ 1099511627776

set_option maxRecDepth 100000 in
set_option maxHeartbeats 1000000 in
theorem s20_inv {w : World} {nm : ByteArray} {A : Option Addr} {n : Nat} (c : Nat) {brs : List (Int × Int)} {A' : Option Addr} {m : Nat} (c' : Nat) {ws : List Int} (h : TaxV w nm A n brs) (hr : Row w w.heap.size A' (ints ws)) (hm : m = ws.length) (hv : (validE nm brs != 0) = true) :
    Calls Tryz.prog 20 #[.agg #[.string nm, .slice A n c], .slice A' m c'] w (ShPost w [] (validE nm brs)) := by
  have HV := Lib.hid hv
  have Hr := Lib.hid hr
  have Hm := Lib.hid hm
  have H := Lib.hid h
  clear hv hr hm h
  have hb0 : Below w.heap.size w (w.alloc (.cells #[.string nm, .slice A n c] 25)) := (Below.refl _ _).alloc (Nat.le_refl _) _
  go_enter Tryz.func20, Tryz.ntmps20
  go_wp2_with fail
  (with_reducible refine (valid_tax c (H.out.below hb0)).mono ?_)
  rintro e w1 ⟨rfl, hb1⟩
  have G1 : Below w.heap.size w w1 := hb0.trans (hb1.mono (by simp))
  have hv := HV.out
  generalize hE : validE nm brs = E at hv ⊢
  have HE := Lib.hid hE
  clear HV hb1 hb0 H hE
  go_wp2
  go_ret2
  rw [HE.out]
  exact shNil E G1

set_option maxRecDepth 100000 in
set_option maxHeartbeats 1000000 in
theorem s21_inv {w : World} {nm : ByteArray} {A : Option Addr} {n : Nat} (c : Nat) {brs : List (Int × Int)} {A' : Option Addr} {m : Nat} (c' : Nat) {ws : List Int} (h : TaxV w nm A n brs) (hnm : Nm nm) (hr : Row w w.heap.size A' (ints ws)) (hm : m = ws.length) (hv : (validE nm brs != 0) = true) :
    Calls Tryz.prog 21 #[.agg #[.string nm, .slice A n c], .slice A' m c'] w (ShPost w [] (validE nm brs)) := by
  have HV := Lib.hid hv
  have Hr := Lib.hid hr
  have Hm := Lib.hid hm
  have H := Lib.hid h
  clear hv hr hm h
  have hb0 : Below w.heap.size w (w.alloc (.cells #[.string nm, .slice A n c] 25)) := (Below.refl _ _).alloc (Nat.le_refl _) _
  go_enter Tryz.func21, Tryz.ntmps21
  go_wp2_with fail
  (with_reducible refine (rvalid_tax c (H.out.below hb0) hnm).mono ?_)
  rintro e w1 ⟨rfl, hb1⟩
  have G1 : Below w.heap.size w w1 := hb0.trans (hb1.mono (by simp))
  have hv := HV.out
  generalize hE : validE nm brs = E at hv ⊢
  have HE := Lib.hid hE
  clear HV hb1 hb0 H hE
  go_wp2
  go_ret2
  rw [HE.out]
  exact shNil E G1

set_option maxRecDepth 100000 in
set_option maxHeartbeats 1000000 in
theorem s20_bad {w : World} {nm : ByteArray} {A : Option Addr} {n : Nat} (c : Nat) {brs : List (Int × Int)} {A' : Option Addr} {m : Nat} (c' : Nat) {ws : List Int} (h : TaxV w nm A n brs) (hr : Row w w.heap.size A' (ints ws)) (hm : m = ws.length) (h12 : m ≤ 12) (hv : validE nm brs = 0) (K : Nat) (hK : K < m) (hG : GoodTo ws K) (hB : wAt ws K < 0 ∨ 1099511627776 - sumTo (wAt ws) K < wAt ws K) :
    Calls Tryz.prog 20 #[.agg #[.string nm, .slice A n c], .slice A' m c'] w (ShPost w [] 5) := by
  have HG := Lib.hid hG
  have HB := Lib.hid hB
  clear hG hB
  have HV := Lib.hid hv
  have Hr := Lib.hid hr
  have Hm := Lib.hid hm
  have H := Lib.hid h
  clear hv hr hm h
  have hb0 : Below w.heap.size w (w.alloc (.cells #[.string nm, .slice A n c] 25)) := (Below.refl _ _).alloc (Nat.le_refl _) _
  go_enter Tryz.func20, Tryz.ntmps20
  go_wp2_with fail
  (with_reducible refine (valid_tax c (H.out.below hb0)).mono ?_)
  rintro e w1 ⟨rfl, hb1⟩
  have G1 : Below w.heap.size w w1 := hb0.trans (hb1.mono (by simp))
  have c0 : w1.cell? ⟨w.heap.size, 0, none⟩ = some (.string nm) := (hb1.cell (p := ⟨w.heap.size, 0, none⟩) (by simp)).trans (by simp)
  have c1 : w1.cell? ⟨w.heap.size, 1, none⟩ = some (.slice A n c) := (hb1.cell (p := ⟨w.heap.size, 1, none⟩) (by simp)).trans (by simp)
  clear hb1
  rw [HV.out]
  go_wp2_with fail
  go_loop [7, 17] (fun s i => ∃ k : Nat, k ≤ K ∧ i = .int .i64 k ∧ s = .int .i64 (sumTo (wAt ws) k)) (fun _ i => m - (intOf i).toNat)
  case atStart => exact ⟨0, Nat.zero_le _, rfl, rfl⟩
  case round =>
    obtain ⟨k, hk, rfl, rfl⟩ := hrel
    by_cases hlt : k < K
    · obtain ⟨b, off, rfl, hbb, hc⟩ := (Hr.out.below G1).at_ k (by rw [ints_length]; have := Hm.out; omega)
      have hcell : w1.cell? ⟨b, off + k, none⟩ = some (.int .i64 (wAt ws k)) := hc k _ (ints_at ws k (by have := Hm.out; omega))
      obtain ⟨g1, g2, g3, g4⟩ := HG.out.at_ k hlt
      have hin : inB (wAt ws k) = true := by simp [inB]; omega
      have Hin := Lib.hid hin
      have Hsum : Hid (sumTo (wAt ws) (k + 1) = sumTo (wAt ws) k + wAt ws k) := rfl
      have hkm : k < m := by omega
      clear hc hin HG HB
      generalize wAt ws k = z at *
      generalize sumTo (wAt ws) k = s at *
      go_wp2_with fail
      (with_reducible refine (inRange_any _ _).mono ?_)
      rintro e w' ⟨rfl, rfl⟩
      rw [Hin.out]
      go_wp2
      go_round
      case rel => exact ⟨k + 1, by omega, by go_num, by rw [Hsum.out]⟩
      case measure => simp [intOf]; omega
    · obtain rfl : k = K := by omega
      obtain ⟨b, off, rfl, hbb, hc⟩ := (Hr.out.below G1).at_ k (by rw [ints_length]; have := Hm.out; omega)
      have hcell : w1.cell? ⟨b, off + k, none⟩ = some (.int .i64 (wAt ws k)) := hc k _ (ints_at ws k (by have := Hm.out; omega))
      obtain ⟨s0, s1⟩ := HG.out.sum
      have hbad := HB.out
      clear hc HG HB
      generalize wAt ws k = z at *
      generalize sumTo (wAt ws) k = s at *
      go_wp2_with fail
      (with_reducible refine (inRange_any _ _).mono ?_)
      rintro e w' ⟨rfl, rfl⟩
      by_cases hin : inB z = true
      · rw [hin]
        have hz := inB_true hin
        have hz2 : 1099511627776 - s < z := by omega
        go_wp2
        go_ret2
        exact shNil 5 G1
      · have hin2 : inB z = false := by simpa using hin
        rw [hin2]
        go_wp2
        go_ret2
        exact shNil 5 G1

set_option maxRecDepth 100000 in
set_option maxHeartbeats 1000000 in
theorem s21_bad {w : World} {nm : ByteArray} {A : Option Addr} {n : Nat} (c : Nat) {brs : List (Int × Int)} {A' : Option Addr} {m : Nat} (c' : Nat) {ws : List Int} (h : TaxV w nm A n brs) (hnm : Nm nm) (hr : Row w w.heap.size A' (ints ws)) (hm : m = ws.length) (h12 : m ≤ 12) (hv : validE nm brs = 0) (K : Nat) (hK : K < m) (hG : GoodTo ws K) (hB : wAt ws K < 0 ∨ 1099511627776 - sumTo (wAt ws) K < wAt ws K) :
    Calls Tryz.prog 21 #[.agg #[.string nm, .slice A n c], .slice A' m c'] w (ShPost w [] 5) := by
  have HG := Lib.hid hG
  have HB := Lib.hid hB
  clear hG hB
  have HV := Lib.hid hv
  have Hr := Lib.hid hr
  have Hm := Lib.hid hm
  have H := Lib.hid h
  clear hv hr hm h
  have hb0 : Below w.heap.size w (w.alloc (.cells #[.string nm, .slice A n c] 25)) := (Below.refl _ _).alloc (Nat.le_refl _) _
  go_enter Tryz.func21, Tryz.ntmps21
  go_wp2_with fail
  (with_reducible refine (rvalid_tax c (H.out.below hb0) hnm).mono ?_)
  rintro e w1 ⟨rfl, hb1⟩
  have G1 : Below w.heap.size w w1 := hb0.trans (hb1.mono (by simp))
  have c0 : w1.cell? ⟨w.heap.size, 0, none⟩ = some (.string nm) := (hb1.cell (p := ⟨w.heap.size, 0, none⟩) (by simp)).trans (by simp)
  have c1 : w1.cell? ⟨w.heap.size, 1, none⟩ = some (.slice A n c) := (hb1.cell (p := ⟨w.heap.size, 1, none⟩) (by simp)).trans (by simp)
  clear hb1
  rw [HV.out]
  go_wp2_with fail
  go_loop [7, 8] (fun s i => ∃ k : Nat, k ≤ K ∧ i = .int .i64 k ∧ s = .int .i64 (sumTo (wAt ws) k)) (fun _ i => m - (intOf i).toNat)
  case atStart => exact ⟨0, Nat.zero_le _, rfl, rfl⟩
  case round =>
    obtain ⟨k, hk, rfl, rfl⟩ := hrel
    by_cases hlt : k < K
    · obtain ⟨b, off, rfl, hbb, hc⟩ := (Hr.out.below G1).at_ k (by rw [ints_length]; have := Hm.out; omega)
      have hcell : w1.cell? ⟨b, off + k, none⟩ = some (.int .i64 (wAt ws k)) := hc k _ (ints_at ws k (by have := Hm.out; omega))
      obtain ⟨g1, g2, g3, g4⟩ := HG.out.at_ k hlt
      have hin : inB (wAt ws k) = true := by simp [inB]; omega
      have Hin := Lib.hid hin
      have Hsum : Hid (sumTo (wAt ws) (k + 1) = sumTo (wAt ws) k + wAt ws k) := rfl
      have hkm : k < m := by omega
      clear hc hin HG HB
      generalize wAt ws k = z at *
      generalize sumTo (wAt ws) k = s at *
      have g5 : ¬ (z < 0) := by omega
      have g6 : ¬ (1099511627776 - s < z) := by omega
      go_wp2_with fail
      go_round
      case rel => exact ⟨k + 1, by omega, by go_num, by rw [Hsum.out]⟩
      case measure => simp [intOf]; omega
    · obtain rfl : k = K := by omega
      obtain ⟨b, off, rfl, hbb, hc⟩ := (Hr.out.below G1).at_ k (by rw [ints_length]; have := Hm.out; omega)
      have hcell : w1.cell? ⟨b, off + k, none⟩ = some (.int .i64 (wAt ws k)) := hc k _ (ints_at ws k (by have := Hm.out; omega))
      obtain ⟨s0, s1⟩ := HG.out.sum
      have hbad := HB.out
      clear hc HG HB
      generalize wAt ws k = z at *
      generalize sumTo (wAt ws) k = s at *
      by_cases hin : z < 0
      · go_wp2
        go_ret2
        exact shNil 5 G1
      · have hz2 : 1099511627776 - s < z := by omega
        go_wp2
        go_ret2
        exact shNil 5 G1

theorem fill_none (n : Nat) : fill (fun _ => 0) n 0 = List.replicate n 0 := by
  simp [fill, List.map_const']

set_option maxRecDepth 100000 in
set_option maxHeartbeats 1000000 in
theorem s20_zero {w : World} {nm : ByteArray} {A : Option Addr} {n : Nat} (c : Nat) {brs : List (Int × Int)} {A' : Option Addr} {m : Nat} (c' : Nat) {ws : List Int} (h : TaxV w nm A n brs) (hr : Row w w.heap.size A' (ints ws)) (hm : m = ws.length) (h12 : m ≤ 12) (hv : validE nm brs = 0) (hG : GoodTo ws m) (hS : sumTo (wAt ws) m = 0) :
    Calls Tryz.prog 20 #[.agg #[.string nm, .slice A n c], .slice A' m c'] w (ShPost w (List.replicate m 0) 0) := by
  have HG := Lib.hid hG
  have HS := Lib.hid hS
  have HB : Hid True := trivial
  clear hG hS
  have HV := Lib.hid hv
  have Hr := Lib.hid hr
  have Hm := Lib.hid hm
  have H := Lib.hid h
  clear hv hr hm h
  have hb0 : Below w.heap.size w (w.alloc (.cells #[.string nm, .slice A n c] 25)) := (Below.refl _ _).alloc (Nat.le_refl _) _
  go_enter Tryz.func20, Tryz.ntmps20
  go_wp2_with fail
  (with_reducible refine (valid_tax c (H.out.below hb0)).mono ?_)
  rintro e w1 ⟨rfl, hb1⟩
  have G1 : Below w.heap.size w w1 := hb0.trans (hb1.mono (by simp))
  have c0 : w1.cell? ⟨w.heap.size, 0, none⟩ = some (.string nm) := (hb1.cell (p := ⟨w.heap.size, 0, none⟩) (by simp)).trans (by simp)
  have c1 : w1.cell? ⟨w.heap.size, 1, none⟩ = some (.slice A n c) := (hb1.cell (p := ⟨w.heap.size, 1, none⟩) (by simp)).trans (by simp)
  clear hb1
  rw [HV.out]
  go_wp2_with fail
  go_loop [7, 17] (fun s i => ∃ k : Nat, k ≤ m ∧ i = .int .i64 k ∧ s = .int .i64 (sumTo (wAt ws) k)) (fun _ i => m - (intOf i).toNat)
  case atStart => exact ⟨0, Nat.zero_le _, rfl, rfl⟩
  case round =>
    obtain ⟨k, hk, rfl, rfl⟩ := hrel
    by_cases hlt : k < m
    · obtain ⟨b, off, rfl, hbb, hc⟩ := (Hr.out.below G1).at_ k (by rw [ints_length]; have := Hm.out; omega)
      have hcell : w1.cell? ⟨b, off + k, none⟩ = some (.int .i64 (wAt ws k)) := hc k _ (ints_at ws k (by have := Hm.out; omega))
      obtain ⟨g1, g2, g3, g4⟩ := HG.out.at_ k hlt
      have hin : inB (wAt ws k) = true := by simp [inB]; omega
      have Hin := Lib.hid hin
      have Hsum : Hid (sumTo (wAt ws) (k + 1) = sumTo (wAt ws) k + wAt ws k) := rfl
      have hkm : k < m := by omega
      clear hc hin HG HB
      generalize wAt ws k = z at *
      generalize sumTo (wAt ws) k = s at *
      go_wp2_with fail
      (with_reducible refine (inRange_any _ _).mono ?_)
      rintro e w' ⟨rfl, rfl⟩
      rw [Hin.out]
      go_wp2
      go_round
      case rel => exact ⟨k + 1, by omega, by go_num, by rw [Hsum.out]⟩
      case measure => simp [intOf]; omega
    · obtain rfl : k = m := by omega
      rw [HS.out]
      have m1 := fun W => make_ints (fun _ => 0) k (by omega) W
      go_wp2_with fail
      go_ret2
      refine ⟨_, _, _, rfl, by simp, ?_, G1.alloc G1.size _⟩
      have hbk := Bk.new w1 3 (ints (fill (fun _ => 0) k 0))
      refine .inr ⟨_, 0, rfl, by simp, fun j u hu => ?_⟩
      rw [Nat.zero_add, hbk.cell]
      rw [fill_none]
      exact hu

set_option maxRecDepth 100000 in
set_option maxHeartbeats 1000000 in
theorem s21_zero {w : World} {nm : ByteArray} {A : Option Addr} {n : Nat} (c : Nat) {brs : List (Int × Int)} {A' : Option Addr} {m : Nat} (c' : Nat) {ws : List Int} (h : TaxV w nm A n brs) (hnm : Nm nm) (hr : Row w w.heap.size A' (ints ws)) (hm : m = ws.length) (h12 : m ≤ 12) (hv : validE nm brs = 0) (hG : GoodTo ws m) (hS : sumTo (wAt ws) m = 0) :
    Calls Tryz.prog 21 #[.agg #[.string nm, .slice A n c], .slice A' m c'] w (ShPost w (List.replicate m 0) 0) := by
  obtain ⟨i0, hinf, hz0, hz1, hz2⟩ := info_parts info3
  have HG := Lib.hid hG
  have HS := Lib.hid hS
  have HB : Hid True := trivial
  clear hG hS
  have HV := Lib.hid hv
  have Hr := Lib.hid hr
  have Hm := Lib.hid hm
  have H := Lib.hid h
  clear hv hr hm h
  have hb0 : Below w.heap.size w (w.alloc (.cells #[.string nm, .slice A n c] 25)) := (Below.refl _ _).alloc (Nat.le_refl _) _
  go_enter Tryz.func21, Tryz.ntmps21
  go_wp2_with fail
  (with_reducible refine (rvalid_tax c (H.out.below hb0) hnm).mono ?_)
  rintro e w1 ⟨rfl, hb1⟩
  have G1 : Below w.heap.size w w1 := hb0.trans (hb1.mono (by simp))
  have c0 : w1.cell? ⟨w.heap.size, 0, none⟩ = some (.string nm) := (hb1.cell (p := ⟨w.heap.size, 0, none⟩) (by simp)).trans (by simp)
  have c1 : w1.cell? ⟨w.heap.size, 1, none⟩ = some (.slice A n c) := (hb1.cell (p := ⟨w.heap.size, 1, none⟩) (by simp)).trans (by simp)
  clear hb1
  rw [HV.out]
  go_wp2_with fail
  go_loop [7, 8] (fun s i => ∃ k : Nat, k ≤ m ∧ i = .int .i64 k ∧ s = .int .i64 (sumTo (wAt ws) k)) (fun _ i => m - (intOf i).toNat)
  case atStart => exact ⟨0, Nat.zero_le _, rfl, rfl⟩
  case round =>
    obtain ⟨k, hk, rfl, rfl⟩ := hrel
    by_cases hlt : k < m
    · obtain ⟨b, off, rfl, hbb, hc⟩ := (Hr.out.below G1).at_ k (by rw [ints_length]; have := Hm.out; omega)
      have hcell : w1.cell? ⟨b, off + k, none⟩ = some (.int .i64 (wAt ws k)) := hc k _ (ints_at ws k (by have := Hm.out; omega))
      obtain ⟨g1, g2, g3, g4⟩ := HG.out.at_ k hlt
      have hin : inB (wAt ws k) = true := by simp [inB]; omega
      have Hin := Lib.hid hin
      have Hsum : Hid (sumTo (wAt ws) (k + 1) = sumTo (wAt ws) k + wAt ws k) := rfl
      have hkm : k < m := by omega
      clear hc hin HG HB
      generalize wAt ws k = z at *
      generalize sumTo (wAt ws) k = s at *
      have g5 : ¬ (z < 0) := by omega
      have g6 : ¬ (1099511627776 - s < z) := by omega
      go_wp2_with fail
      go_round
      case rel => exact ⟨k + 1, by omega, by go_num, by rw [Hsum.out]⟩
      case measure => simp [intOf]; omega
    · obtain rfl : k = m := by omega
      rw [HS.out]
      clear HG HB HS
      go_wp2_with fail
      go_loopw [9, 10] (fun v i wr => ∃ j : Nat, j ≤ k ∧ i = .int .i64 (j : Int) ∧ wr.ownsRow w.heap.size 3 1 v j (icells (fun _ => 0) j) ∧ Below w.heap.size w wr) (fun _ i _ => k - (intOf i).toNat)
      case atStart => exact ⟨0, Nat.zero_le _, rfl, World.ownsRow_nil _ _ _ _, G1⟩
      case round =>
        obtain ⟨j, hj, rfl, hown, hbl⟩ := hrel
        have HO := Lib.hid hown
        clear hown
        by_cases hlt2 : j < k
        · clear c0 c1 G1 H Hr hb0
          go_wp2_with (at_builtin; refine wpList_append_own_at _ rfl _ _ 22 rfl w.heap.size 3 i0 (.int .i64 0) 1 8 Tryz.underlying22 hinf hz0 hz1 hz2 rfl (by decide) _ j (icells (fun _ => 0) j) rfl (HO.out.alloc _) ⟨wr.heap.size, 0, none⟩ 1 1 [.int .i64 0] rfl rfl (cell_one_new _ _ _) ?c2a ?c3a ?c4a ?c5a ?_)
          case c2a => intro u hu; simp at hu; rw [hu]; rfl
          case c3a => unfold maxLen; omega
          case c4a => omega
          case c5a =>
            have := hbl.size
            simp; omega
          intro v' w' hown' hgr' _ _
          have hbl' : Below w.heap.size w w' := bel_grown (hbl.alloc hbl.size _) (HO.out.alloc _) hgr'
          have HO' : Hid (w'.ownsRow w.heap.size 3 1 v' (j + 1) (icells (fun _ => 0) (j + 1))) := by
            show w'.ownsRow _ _ _ _ _ _
            rw [icells_snoc]; exact hown'
          clear hown' hgr' HO hbl
          go_wp2_with fail
          go_roundw
          case rel => exact ⟨j + 1, by omega, by go_num, HO'.out, hbl'⟩
          case measure => simp [intOf]; omega
        · obtain rfl : j = k := by omega
          obtain ⟨A2, c2, rfl, hrow⟩ := row_of_ints HO.out
          have HRW := Lib.hid hrow
          clear hrow HO
          go_wp2_with fail
          go_ret2
          refine ⟨_, _, _, rfl, by simp, ?_, hbl⟩
          have e : icells (fun _ => 0) j = ints (List.replicate j 0) := by simp [icells, List.map_const']
          rw [← e]
          exact HRW.out

set_option maxRecDepth 100000 in
set_option maxHeartbeats 1000000 in
theorem s21_good {w : World} {nm : ByteArray} {A : Option Addr} {n : Nat} (c : Nat) {brs : List (Int × Int)} {A' : Option Addr} {m : Nat} (c' : Nat) {ws : List Int} (h : TaxV w nm A n brs) (hnm : Nm nm) (hr : Row w w.heap.size A' (ints ws)) (hm : m = ws.length) (h12 : m ≤ 12) (hv : validE nm brs = 0) (hG : GoodTo ws m) (S : Int) (hS : sumTo (wAt ws) m = S) (hS1 : 1 ≤ S) (d : Int) (f : Nat → Int) (HDu : Hid (∀ W : World, Row W W.heap.size A (bcells brs) → Calls Tryz.prog 40 #[.agg #[.string nm, .slice A n c], .int .i64 S] W fun e w' => e = .returned (.int .i64 d) ∧ Below W.heap.size W w')) (HSp : Hid (∀ W : World, Row W W.heap.size A' (ints ws) → Calls Tryz.prog 44 #[.int .i64 d, .slice A' m c'] W fun e w' => ∃ v, e = .returned (.tuple #[v, .int .i64 0]) ∧ w'.ownsRow W.heap.size 3 1 v m (icells f m) ∧ Below W.heap.size W w')) :
    Calls Tryz.prog 21 #[.agg #[.string nm, .slice A n c], .slice A' m c'] w (ShPost w ((List.range m).map f) 0) := by
  have HG := Lib.hid hG
  have HS := Lib.hid hS
  have HB : Hid True := trivial
  clear hG hS
  have HV := Lib.hid hv
  have Hr := Lib.hid hr
  have Hm := Lib.hid hm
  have H := Lib.hid h
  clear hv hr hm h
  have hb0 : Below w.heap.size w (w.alloc (.cells #[.string nm, .slice A n c] 25)) := (Below.refl _ _).alloc (Nat.le_refl _) _
  go_enter Tryz.func21, Tryz.ntmps21
  go_wp2_with fail
  (with_reducible refine (rvalid_tax c (H.out.below hb0) hnm).mono ?_)
  rintro e w1 ⟨rfl, hb1⟩
  have G1 : Below w.heap.size w w1 := hb0.trans (hb1.mono (by simp))
  have c0 : w1.cell? ⟨w.heap.size, 0, none⟩ = some (.string nm) := (hb1.cell (p := ⟨w.heap.size, 0, none⟩) (by simp)).trans (by simp)
  have c1 : w1.cell? ⟨w.heap.size, 1, none⟩ = some (.slice A n c) := (hb1.cell (p := ⟨w.heap.size, 1, none⟩) (by simp)).trans (by simp)
  clear hb1
  rw [HV.out]
  go_wp2_with fail
  go_loop [7, 8] (fun s i => ∃ k : Nat, k ≤ m ∧ i = .int .i64 k ∧ s = .int .i64 (sumTo (wAt ws) k)) (fun _ i => m - (intOf i).toNat)
  case atStart => exact ⟨0, Nat.zero_le _, rfl, rfl⟩
  case round =>
    obtain ⟨k, hk, rfl, rfl⟩ := hrel
    by_cases hlt : k < m
    · obtain ⟨b, off, rfl, hbb, hc⟩ := (Hr.out.below G1).at_ k (by rw [ints_length]; have := Hm.out; omega)
      have hcell : w1.cell? ⟨b, off + k, none⟩ = some (.int .i64 (wAt ws k)) := hc k _ (ints_at ws k (by have := Hm.out; omega))
      obtain ⟨g1, g2, g3, g4⟩ := HG.out.at_ k hlt
      have hin : inB (wAt ws k) = true := by simp [inB]; omega
      have Hin := Lib.hid hin
      have Hsum : Hid (sumTo (wAt ws) (k + 1) = sumTo (wAt ws) k + wAt ws k) := rfl
      have hkm : k < m := by omega
      clear hc hin HG HB
      generalize wAt ws k = z at *
      generalize sumTo (wAt ws) k = s at *
      have g5 : ¬ (z < 0) := by omega
      have g6 : ¬ (1099511627776 - s < z) := by omega
      go_wp2_with fail
      go_round
      case rel => exact ⟨k + 1, by omega, by go_num, by rw [Hsum.out]⟩
      case measure => simp [intOf]; omega
    · obtain rfl : k = m := by omega
      rw [HS.out]
      have hSz : (S == 0) = false := by simp; omega
      clear HG HB HS
      go_wp2_with fail
      (with_reducible refine (HDu.out _ (H.out.below G1).row).mono ?_)
      rintro e w2 ⟨rfl, hb2⟩
      have G2 := G1.trans (hb2.mono G1.size)
      go_wp2_with fail
      (with_reducible refine (HSp.out _ ((Hr.out.below G2).more G2.size)).mono ?_)
      rintro e w3 ⟨v, rfl, hown, hb3⟩
      have G3 := G2.trans (hb3.mono G2.size)
      obtain ⟨A2, c2, rfl, hrow⟩ := row_of_ints hown
      have HRW := Lib.hid hrow
      clear hown hrow
      go_wp2
      go_ret2
      exact ⟨_, _, _, rfl, by simp, HRW.out, G3⟩

end Go.Proofs.YtlgedljhheficaaGreatDoor

namespace Go.Proofs.YtlgedljhheficaaGreatDoor
open Go.RowKit

theorem nats_of : ∀ {ws : List Int}, (∀ i, i < ws.length → 0 ≤ wAt ws i) → ∃ ps : List Nat, ws = ps.map (fun x : Nat => (x : Int))
  | [], _ => ⟨[], rfl⟩
  | a :: t, h => by
    obtain ⟨ps, hp⟩ := nats_of (ws := t) (fun i hi => by have := h (i + 1) (by simp; omega); simpa [wAt] using this)
    have h0 := h 0 (by simp)
    simp [wAt] at h0
    exact ⟨a.toNat :: ps, by simp [← hp, Int.toNat_of_nonneg h0]⟩
theorem wAt_nats (ps : List Nat) : wAt (ps.map (fun x : Nat => (x : Int))) = fun i => ((ps[i]?.getD 0 : Nat) : Int) := by
  funext i
  simp only [wAt, List.getElem?_map]
  cases ps[i]? <;> rfl
theorem good_or (ws : List Int) : ∀ k, GoodTo ws k ∨ ∃ K, K < k ∧ GoodTo ws K ∧ (wAt ws K < 0 ∨ 1099511627776 - sumTo (wAt ws) K < wAt ws K)
  | 0 => .inl ⟨fun i h => by omega, by simp [sumTo]⟩
  | k + 1 => by
    rcases good_or ws k with h | ⟨K, h1, h2⟩
    · have hs := h.sum
      have e : sumTo (wAt ws) (k + 1) = sumTo (wAt ws) k + wAt ws k := rfl
      by_cases hb : wAt ws k < 0 ∨ 1099511627776 - sumTo (wAt ws) k < wAt ws k
      · exact .inr ⟨k, by omega, h, hb⟩
      · refine .inl ⟨fun i hi => ?_, by rw [e]; omega⟩
        by_cases hik : i < k
        · exact h.at_ i hik
        · obtain rfl : i = k := by omega
          omega
    · exact .inr ⟨K, by omega, h2⟩
theorem GoodTo.mono {ws : List Int} {K : Nat} (h : GoodTo ws K) : ∀ i, i ≤ K → 0 ≤ sumTo (wAt ws) i ∧ sumTo (wAt ws) i ≤ sumTo (wAt ws) K := by
  intro i hi
  have h0 : ∀ k, k ≤ K → 0 ≤ sumTo (wAt ws) k := fun k hk => by
    by_cases hkk : k < K
    · exact (h.at_ k hkk).2.2.1
    · obtain rfl : k = K := by omega
      exact h.sum.1
  refine ⟨h0 i hi, ?_⟩
  have : ∀ d, i + d ≤ K → sumTo (wAt ws) i ≤ sumTo (wAt ws) (i + d) := fun d => by
    induction d with
    | zero => intro _; exact Int.le_refl _
    | succ d ih =>
      intro hd
      have := ih (by omega)
      have h1 := (h.at_ (i + d) (by omega)).1
      have e : sumTo (wAt ws) (i + (d + 1)) = sumTo (wAt ws) (i + d) + wAt ws (i + d) := rfl
      omega
  have := this (K - i) (by omega)
  rwa [show i + (K - i) = K by omega] at this

/-- What is right with shares. -/
structure RightShares (nm : ByteArray) (brs : List (Int × Int)) (ws L : List Int) (m : Nat) : Prop where
  valid : validE nm brs = 0
  good : GoodTo ws m
  len : L.length = m
  each : ∀ i, i < m → 0 ≤ wAt L i ∧ wAt L i ≤ wAt ws i
  total : sumTo (wAt L) m = due brs (sumTo (wAt ws) m)

theorem wAt_range (f : Nat → Int) {m i : Nat} (hi : i < m) : wAt ((List.range m).map f) i = f i := by simp [wAt, hi]

set_option maxHeartbeats 1000000 in
theorem shares_both {nm : ByteArray} {A : Option Addr} {n : Nat} {brs : List (Int × Int)} (hnm : Nm nm) {A' : Option Addr} {m : Nat} (ws : List Int) (hm : m = ws.length) (h12 : m ≤ 12) :
    ∃ L E, (∀ (W : World) (c c' : Nat), TaxV W nm A n brs → Row W W.heap.size A' (ints ws) → Calls Tryz.prog 20 #[.agg #[.string nm, .slice A n c], .slice A' m c'] W (ShPost W L E)) ∧
      (∀ (W : World) (c c' : Nat), TaxV W nm A n brs → Row W W.heap.size A' (ints ws) → Calls Tryz.prog 21 #[.agg #[.string nm, .slice A n c], .slice A' m c'] W (ShPost W L E)) ∧ (E = 0 → RightShares nm brs ws L m) ∧ L.length ≤ 12 := by
  rcases validE_cases nm brs with hv | hv
  · rcases good_or ws m with hG | ⟨K, hK, hG, hB⟩
    · have hI := good_of_valid hv
      obtain ⟨s0, s1⟩ := hG.sum
      by_cases hS0 : sumTo (wAt ws) m = 0
      · refine ⟨List.replicate m 0, 0, fun W c c' h hr => s20_zero c c' h hr hm h12 hv hG hS0, fun W c c' h hr => s21_zero c c' h hnm hr hm h12 hv hG hS0, fun _ => ⟨hv, hG, by simp, fun i hi => ?_, ?_⟩, by simp; omega⟩
        · have : wAt (List.replicate m 0) i = 0 := by simp [wAt, hi]
          rw [this]
          exact ⟨Int.le_refl _, (hG.at_ i hi).1⟩
        · have hd := due_self hI (s := 0) (by omega)
          rw [hS0, show due brs 0 = 0 by omega]
          have e : sumTo (wAt (List.replicate m 0)) m = sumTo (fun _ => 0) m := sumTo_congr fun i hi => by simp [wAt, hi]
          rw [e]
          have := sumTo_mul 0 (fun _ => 0) m
          simpa using this
      · have hd := due_self hI (s := sumTo (wAt ws) m) s0
        have h1 : 1 ≤ m := by
          rcases Nat.eq_zero_or_pos m with h | h
          · subst h; exact absurd rfl hS0
          · exact h
        obtain ⟨ps, hps⟩ := nats_of (ws := ws) (fun i hi => (hG.at_ i (by omega)).1)
        have hwa : wAt ws = fun i => ((ps[i]?.getD 0 : Nat) : Int) := by rw [hps]; exact wAt_nats ps
        obtain ⟨S, hS⟩ : ∃ S : Nat, sumTo (wAt ws) m = (S : Int) := ⟨(sumTo (wAt ws) m).toNat, by omega⟩
        obtain ⟨T, hT⟩ : ∃ T : Nat, due brs (sumTo (wAt ws) m) = (T : Int) := ⟨(due brs (sumTo (wAt ws) m)).toNat, by omega⟩
        have hTS : T ≤ S := by omega
        have hS1 : 1 ≤ S := by omega
        have hS2 : S ≤ 1099511627776 := by omega
        have hS' : sumTo (fun i => ((ps[i]?.getD 0 : Nat) : Int)) m = S := by rw [← hwa]; exact hS
        have hP := parts_of h1 hS' hS1 hTS
        have hmo := hG.mono
        have hpS : ∀ i, i < m → ps[i]?.getD 0 ≤ S := fun i hi => by
          have a := (hmo (i + 1) (by omega)).2
          have b := (hmo i (by omega)).1
          have e : sumTo (wAt ws) (i + 1) = sumTo (wAt ws) i + wAt ws i := rfl
          have e2 : wAt ws i = ((ps[i]?.getD 0 : Nat) : Int) := by rw [hwa]
          omega
        obtain ⟨L, hL⟩ : ∃ L : Nat, (T : Int) - sumTo (qOf T S ps) m = (L : Int) := ⟨((T : Int) - sumTo (qOf T S ps) m).toNat, by have := hP.left0; omega⟩
        have hLm := hP.kn hL
        have hpm := ordN_perm (rOf T S ps) h1
        have hpl : ps.length = m := by rw [hm, hps]; simp
        refine ⟨(List.range m).map (bumped (qOf T S ps) (ordN (rOf T S ps) m) L), 0, fun W c c' h hr => ?_, fun W c c' h hr => ?_, fun _ => ⟨hv, hG, by simp, fun i hi => ?_, ?_⟩, by simp; omega⟩
        · refine (shares_good c c' (S : Int) (qOf T S ps) (rOf T S ps) (ordN (rOf T S ps) m) L h hv hr hm h12 (fun i hi => ?_) hS (by omega) (by omega) (fun i hi => ?_) ?_ (sort_ok h1 h12) (fun i hi => hP.q0 i hi) (fun i hi => ?_) ?_ hLm hpm.lt hpm.inj).mono ?_
          · have := hG.at_ i hi
            show inB (wAt ws i) = true
            simp [inB]; omega
          · have a := hmo (i + 1) (by omega)
            have b := hmo i (by omega)
            rw [← hS]
            exact ⟨b.1, a.2⟩
          · intro i hi V
            rw [← hS, hT, hS]
            show Calls Tryz.prog 68 #[.int .i64 (T : Int), .int .i64 (wAt ws i), .int .i64 (S : Int)] V _
            rw [hwa]
            exact divide_any T (ps[i]?.getD 0) S hTS (hpS i hi) hS1 hS2 V
          · have := hP.q_le hi
            have := hpS i hi
            omega
          · rw [← hS, hT]; exact hL
          · rintro e w' ⟨g, rfl, hg, hbk, hb⟩
            refine ⟨_, _, _, rfl, by simp, .inr ⟨g, 0, rfl, hbk.lt, fun j u hu => ?_⟩, hb⟩
            rw [Nat.zero_add, hbk.cell]
            exact hu
        · refine s21_good c c' h hnm hr hm h12 hv hG (S : Int) hS (by omega) (T : Int) _ ?_ ?_
          · intro V hV
            rw [← hT, hS]
            exact rdue_any nm A n c brs (S : Int) V hV h.len hI.inr (by omega) (by omega)
          · intro V hV
            rw [hps] at hV
            exact rsplit_any T S L hV hpl.symm h1 h12 hS' hS1 hS2 hTS hpS (fun i hi => by have := hmo i hi; rw [hwa] at this; rw [hS'] at this; exact this) hL
        · rw [wAt_range _ hi]
          have := hP.share hL hi
          rw [hwa]
          exact this
        · rw [sumTo_congr (g := bumped (qOf T S ps) (ordN (rOf T S ps) m) L) (fun i hi => wAt_range _ hi), hT]
          exact hP.shares_sum hL
    · exact ⟨[], 5, fun W c c' h hr => s20_bad c c' h hr hm h12 hv K hK hG hB, fun W c c' h hr => s21_bad c c' h hnm hr hm h12 hv K hK hG hB, fun h => absurd h (by decide), by simp⟩
  · refine ⟨[], validE nm brs, fun W c c' h hr => s20_inv c c' h hr hm hv, fun W c c' h hr => s21_inv c c' h hnm hr hm hv, fun h => ?_, by simp⟩
    rw [h] at hv
    simp at hv

end Go.Proofs.YtlgedljhheficaaGreatDoor

namespace Go.Proofs.YtlgedljhheficaaGreatDoor
open Go.RowKit Go.ChangeShapes Go.WideShapes Go.ChangeAt

theorem ints_cap {H : Type} {enc : TypeId × Value → H} {W : World} {A : Option Addr} {n c : Nat} {d : DataW H} {p : List MemPlace} (h : DataW.Trod enc Tryz.prog W 0 (fun _ => true) true 22 (.slice A n c) d p) : n ≤ c ∧ (A = none → c = 0) := by
  obtain ⟨fuel, hf⟩ := h
  rcases open_ints Tryz.underlying22 Tryz.underlying3 cellsInt hf with ⟨hcs, hx⟩ | ⟨a, len, cap, zs, hcs, _, hl, hm, hz, hx, hcell, hwz⟩
  · change [Value.slice A n c] = _ at hcs
    obtain ⟨rfl, rfl, rfl⟩ : A = none ∧ n = 0 ∧ c = 0 := by simpa using hcs
    exact ⟨Nat.le_refl _, fun _ => rfl⟩
  · change [Value.slice A n c] = _ at hcs
    obtain ⟨rfl, rfl, rfl⟩ : A = some a ∧ n = len ∧ c = cap := by simpa using hcs
    exact ⟨by omega, fun h => by simp at h⟩

def IntsPost (w : World) (zs : List Int) (e : Ending) (w' : World) : Prop :=
  ∃ v, e = .returned v ∧ w'.ownsRow w.heap.size 3 1 v (min zs.length 6) (ints (zs.take 6)) ∧ Below w.heap.size w w'

set_option maxRecDepth 100000 in
set_option maxHeartbeats 1000000 in
theorem Ints_any {w : World} {A : Option Addr} {n c : Nat} {zs : List Int} (h : IntsV w A n zs) (hc : n ≤ c) (hc0 : A = none → c = 0) (hs : n ≤ 140737488351232) :
    Calls Tryz.prog 19 #[.slice A n c, .int .i64 6] w (IntsPost w zs) := by
  obtain ⟨i0, hinf, hz0, hz1, hz2⟩ := info_parts info3
  have hl := h.len
  cases A with
  | none =>
    obtain rfl : c = 0 := hc0 rfl
    obtain rfl : n = 0 := by omega
    obtain rfl : zs = [] := List.eq_nil_of_length_eq_zero hl.symm
    clear h hc hc0 hl hs
    go_enter Tryz.func19, Tryz.ntmps19
    go_wp2
    go_ret
    exact ⟨_, rfl, World.ownsRow_nil _ _ _ _, Below.refl _ _⟩
  | some a =>
    obtain ⟨m, hm⟩ : ∃ m : Nat, min n 6 = m := ⟨_, rfl⟩
    have hm1 : m ≤ c := by omega
    have hm6 : m ≤ 6 := by omega
    have hmi : min (n : Int) 6 = (m : Int) := by omega
    have hcells : Hid (∀ j u, (ints (zs.take 6))[j]? = some u → w.cell? (a.add j) = some u) := by
      intro j u hu
      have hj : j < (ints (zs.take 6)).length := (List.getElem?_eq_some_iff.mp hu).1
      rw [ints_length, List.length_take] at hj
      obtain ⟨b, off, e, hbb, hcc⟩ := h.row.at_ j (by rw [ints_length]; omega)
      obtain rfl : a = ⟨b, off, none⟩ := by simpa using e
      have e1 : (⟨b, off, none⟩ : Addr).add j = ⟨b, off + j, none⟩ := by
        unfold Addr.add; split
        · subst_vars; simp
        · simp
      rw [e1]
      refine hcc j u ?_
      simp only [ints, List.getElem?_map, List.getElem?_take] at hu ⊢
      rwa [if_pos (by omega)] at hu
    have hlen : Hid ((ints (zs.take 6)).length = m * 1) := by
      show _ = _
      rw [ints_length, List.length_take]; omega
    have hone : Hid (∀ u ∈ ints (zs.take 6), u.oneCell' = true) := by
      intro u hu
      simp only [ints, List.mem_map] at hu
      obtain ⟨x, _, rfl⟩ := hu
      rfl
    have FIN : Hid (∀ (v : Value) (w3 : World), World.ownsRow w3 w.heap.size 3 1 v m (ints (zs.take 6)) → w.grownBy w3 (Value.slice none 0 0).ownBlock → IntsPost w zs (.returned v) w3) := by
      intro v w3 ho hg
      refine ⟨v, rfl, ?_, ⟨hg.os, hg.tape, hg.output, hg.size, fun k hk => hg.block k hk (by simp [Value.ownBlock])⟩⟩
      rw [← hl, hm]; exact ho
    clear h hl
    go_enter Tryz.func19, Tryz.ntmps19
    go_wp2_with (at_builtin; refine wpList_append_own_at _ rfl _ _ 22 rfl w.heap.size 3 i0 (.int .i64 0) 1 8 Tryz.underlying22 hinf hz0 hz1 hz2 rfl (by decide) _ 0 [] rfl (World.ownsRow_nil _ _ _ _) a m c (ints (zs.take 6)) rfl hlen.out hcells.out hone.out ?c3a ?c4a ?c5a ?_)
    case c3a => unfold maxLen; omega
    case c4a => omega
    case c5a => exact Nat.le_refl _
    intro v' w1 hown' hgrow _ _
    have hown' : w1.ownsRow w.heap.size 3 1 v' m (ints (zs.take 6)) := by simpa using hown'
    have hfin := FIN.out _ _ hown' hgrow
    have HF := Lib.hid hfin
    clear hfin hown' hgrow FIN
    go_wp2
    go_ret
    exact HF.out

end Go.Proofs.YtlgedljhheficaaGreatDoor

namespace Go.Proofs.YtlgedljhheficaaGreatDoor
open Go.RowKit

/-- The running sum, as the machine has it. -/
def wS (f : Nat → Int) : Nat → Int
  | 0 => 0
  | k + 1 => IntKind.i64.wrap (wS f k + f k)
theorem wS_congr {f g : Nat → Int} : ∀ {k : Nat}, (∀ i, i < k → f i = g i) → wS f k = wS g k
  | 0, _ => rfl
  | k + 1, h => by
    show IntKind.i64.wrap (wS f k + f k) = IntKind.i64.wrap (wS g k + g k)
    rw [wS_congr (fun i hi => h i (by omega)), h k (by omega)]
theorem wS_good {ws : List Int} {K : Nat} (h : GoodTo ws K) : ∀ k, k ≤ K → wS (wAt ws) k = sumTo (wAt ws) k
  | 0, _ => rfl
  | k + 1, hk => by
    have h1 := h.at_ k (by omega)
    show IntKind.i64.wrap (wS (wAt ws) k + wAt ws k) = sumTo (wAt ws) k + wAt ws k
    rw [wS_good h k (by omega)]
    exact IntWalk.i64_in _ (by omega)
theorem wAt_set {ws : List Int} {k : Nat} (z : Int) (hk : k < ws.length) : wAt (ws.set k z) k = z := by simp [wAt, hk]
theorem wAt_set_ne {ws : List Int} {k i : Nat} (z : Int) (h : i ≠ k) : wAt (ws.set k z) i = wAt ws i := by simp [wAt, Ne.symm h]

/-- The row of parts, as far as it has been made. -/
structure PartsAt (W w : World) (A : Option Addr) (m c k : Nat) (cur : List Int) (s : Int) : Prop where
  own : w.ownsRow W.heap.size 3 1 (.slice A m c) m (ints cur)
  bel : Below W.heap.size W w
  len : cur.length = m
  wf : ∀ i, k + 1 ≤ i → -9223372036854775808 ≤ wAt cur i ∧ wAt cur i ≤ 9223372036854775807
  sum : wS (wAt cur) k = s
theorem PartsAt.below {W w w' : World} {A : Option Addr} {m c k : Nat} {cur : List Int} {s : Int} (h : PartsAt W w A m c k cur s) (hb : Below w.heap.size w w') : PartsAt W w' A m c k cur s :=
  ⟨h.own.kept (grown_of_below hb none) (by cases (Value.slice A m c).ownBlock <;> simp), h.bel.trans (hb.mono h.bel.size), h.len, h.wf, h.sum⟩
theorem PartsAt.set {W w : World} {g m c k : Nat} {cur : List Int} {s z : Int} (h : PartsAt W w (some ⟨g, 0, none⟩) m c k cur s) : PartsAt W (w.setCell ⟨g, k, none⟩ (.int .i64 z)) (some ⟨g, 0, none⟩) m c k (cur.set k z) s := by
  obtain ⟨s1, s2⟩ := h.own.stored k (.int .i64 z)
  rw [ints_set] at s1
  refine ⟨s1, bel_grown h.bel h.own s2, by rw [List.length_set]; exact h.len, fun i hi => by rw [wAt_set_ne z (by omega)]; exact h.wf i hi, ?_⟩
  rw [← h.sum]
  exact wS_congr fun i hi => wAt_set_ne z (by omega)
theorem PartsAt.next {W w : World} {A : Option Addr} {m c k : Nat} {cur : List Int} {s y : Int} (h : PartsAt W w A m c k cur s) (hy : wAt cur k = y) : PartsAt W w A m c (k + 1) cur (IntKind.i64.wrap (s + y)) :=
  ⟨h.own, h.bel, h.len, fun i hi => h.wf i (by omega), by rw [← hy, ← h.sum]; rfl⟩
theorem PartsAt.cell {W w : World} {g m c k i : Nat} {cur : List Int} {s : Int} (h : PartsAt W w (some ⟨g, 0, none⟩) m c k cur s) (hi : i < m) : w.cell? ⟨g, i, none⟩ = some (.int .i64 (wAt cur i)) := by
  rw [h.own.cellAt i (by omega)]
  exact ints_at cur i (by rw [h.len]; exact hi)

set_option maxRecDepth 100000 in
set_option maxHeartbeats 4000000 in
theorem taxshares_false {w : World} {A0 : Option Addr} {n0 : Nat} (c0 : Nat) {zs : List Int} {A1 : Option Addr} {n1 : Nat} (c1 : Nat) {ms : List Int} {A2 : Option Addr} {n2 c2 : Nat} {ps : List Int} (h : IntsV w A0 n0 zs) (hm : IntsV w A1 n1 ms) (hs : n1 * 8 ≤ 140737488351232) (hp : IntsV w A2 n2 ps) (hs2 : n2 * 8 ≤ 140737488351232) (hc2 : n2 ≤ c2) (hc3 : A2 = none → c2 = 0) (hT : Tab w) :
    Calls Tryz.prog 4 #[.slice A0 n0 c0, .slice A1 n1 c1, .slice A2 n2 c2, .bool false] w fun e w' => e = .returned (.bool true) ∧ Below w.heap.size w w' := by
  have K := Lib.hid (taxbent_any c0 c1 h hm hs)
  have HT := Lib.hid hT
  have HPp := Lib.hid hp
  clear h hm hT hp
  go_enter Tryz.func4, Tryz.ntmps4
  go_wp2_with fail
  (with_reducible refine K.out.mono ?_)
  rintro e w1 ⟨nm, A, n, c, brs, rfl, hnm, hrow, hn, h100, hB1⟩
  clear K
  have hb0 : Below w1.heap.size w1 (w1.alloc (.cells #[.string nm, .slice A n c] 25)) := (Below.refl _ _).alloc (Nat.le_refl _) _
  have L1 : TaxAt (w1.alloc (.cells #[.string nm, .slice A n c] 25)) w1.heap.size nm A n c brs :=
    ⟨by simp, by simp, by simp, (hrow.below hb0).more hb0.size, hn, by omega, hnm.plain, (HT.out.below hB1 HT.out.1).below hb0 (Nat.lt_of_lt_of_le HT.out.1 hB1.size)⟩
  have B2 : Below w.heap.size w (w1.alloc (.cells #[.string nm, .slice A n c] 25)) := hB1.alloc hB1.size _
  have HL := Lib.hid L1
  have HB := Lib.hid B2
  have HN := Lib.hid hnm
  clear hrow hb0 L1 B2 hnm HT hn hB1
  go_wp2_with fail
  generalize hW : w1.alloc (.cells #[.string nm, .slice A n c] 25) = W at HL HB ⊢
  generalize w1.heap.size = g at *
  clear hW w1
  have KI := Lib.hid (Ints_any (c := c2) (HPp.out.below HB.out) hc2 hc3 (by omega))
  have HWf := Lib.hid HPp.out.wf
  (with_reducible refine KI.out.mono ?_)
  rintro e w2 ⟨v, rfl, hown, hb2⟩
  obtain ⟨A', c', rfl, -⟩ := row_of_ints hown
  generalize hm : min ps.length 6 = m at *
  have HW0 : Hid (Wf (ps.take 6)) := fun z hz => HWf.out z (List.mem_of_mem_take hz)
  have X0 := Lib.hid (HW0.out.at_ 0)
  have PA0 : PartsAt W w2 A' m c' 0 (ps.take 6) 0 := ⟨hown, hb2, by rw [List.length_take]; omega, fun i _ => HW0.out.at_ i, rfl⟩
  have HPA := Lib.hid PA0
  have hm6 : m ≤ 6 := by omega
  clear PA0 hown hb2 KI HWf HPp hm HW0
  go_wp2_with fail
  go_loopw [11, 12] (fun s i wr => ∃ (k : Nat) (cur : List Int) (z : Int), i = .int .i64 (k : Int) ∧ k ≤ m ∧ s = .int .i64 z ∧ (-9223372036854775808 ≤ wAt cur k ∧ wAt cur k ≤ 9223372036854775807) ∧ PartsAt W wr A' m c' k cur z) (fun _ i _ => m - (intOf i).toNat)
  case atStart => exact ⟨0, _, 0, rfl, Nat.zero_le _, rfl, X0.out, HPA.out⟩
  case round =>
    clear HPA X0
    obtain ⟨k, cur, s, rfl, hk, rfl, hx2, hR⟩ := hrel
    have HR := Lib.hid hR
    clear hR
    by_cases hlt : k < m
    · obtain ⟨gp, cap, he, hgp, hgl⟩ := HR.out.own.form (by omega)
      obtain ⟨rfl, rfl⟩ : A' = some ⟨gp, 0, none⟩ ∧ c' = cap := by simpa using he
      clear he
      have hlv := HL.out.below HR.out.bel
      have HLV := Lib.hid hlv
      have a0 := hlv.c0
      have a1 := hlv.c1
      have ag := hlv.lt
      have p0 := HR.out.cell hlt
      have pf := HR.out.own.frozenAt k
      have hnx := Lib.hid (HR.out.wf (k + 1) (Nat.le_refl _))
      have hln := HR.out.len
      have HLn := Lib.hid hln
      have K1 : Hid (∀ U : World, Below wr.heap.size wr U → Calls Tryz.prog 11 #[.agg #[.string nm, .slice A n c], .int .i64 (wAt cur k)] U fun e w' => e = .returned (.int .i64 (sumOf brs (wAt cur k))) ∧ Below U.heap.size U w') := fun U hU => Sum_any c _ (hlv.below hU).row (hlv.below hU).len hx2.1 hx2.2
      have hkm : (k : Int) < (m : Int) := by omega
      clear hlv hx2 hln
      generalize wAt cur k = x at p0 K1
      generalize sumOf brs x = z at *
      go_wp2_with fail
      have HST : Hid (∀ U : World, Below wr.heap.size wr U → U.cell? ⟨gp, k, none⟩ = some (.int .i64 x) ∧ U.frozen? ⟨gp, k, none⟩ = false ∧ gp < U.heap.size ∧ U.cell? ⟨g, 0, none⟩ = some (.string nm) ∧ U.cell? ⟨g, 1, none⟩ = some (.slice A n c)) := fun U hU =>
        ⟨(hU.cell (p := ⟨gp, k, none⟩) hgl).trans p0, (HR.out.below hU).own.frozenAt k, Nat.lt_of_lt_of_le hgl hU.size, (hU.cell (p := ⟨g, 0, none⟩) ag).trans a0, (hU.cell (p := ⟨g, 1, none⟩) ag).trans a1⟩
      go_cut [42] (fun b wx => b = .int .i64 z ∧ ∃ U : World, wx = U.setCell ⟨gp, k, none⟩ (.int .i64 z) ∧ Below wr.heap.size wr U)
      case first =>
        go_region_with (go_at_call 11; refine (K1.out _ (Below.refl _ _).drew).mono ?_; rintro e wA ⟨rfl, hbA⟩; have GA := (Below.refl wr.heap.size wr).drew.trans hbA; obtain ⟨q0, q1, q2, q3, q4⟩ := HST.out _ GA)
        all_goals (try go_wp2_with fail)
        all_goals go_meet
        all_goals exact ⟨rfl, _, rfl, GA⟩
      case rest =>
        obtain ⟨rfl, U, rfl, hbU⟩ := hcut
        have HS1 := Lib.hid ((HR.out.below hbU).set (z := z))
        clear HR HST K1 a0 a1 ag p0 pf hgl HLV
        have b0 := HS1.out.cell hlt
        rw [wAt_set z (by rw [HLn.out]; exact hlt)] at b0
        have b1 := HS1.out.own.frozenAt k
        obtain ⟨y, hy⟩ : ∃ y, IntKind.i64.wrap (z.tdiv 10) = y := ⟨_, rfl⟩
        have HS2 := Lib.hid ((HS1.out.set (z := y)).next (wAt_set y (by rw [List.length_set, HLn.out]; exact hlt)))
        have HS3 := Lib.hid (HS1.out.next (wAt_set z (by rw [HLn.out]; exact hlt)))
        have b2 := (HS1.out.set (z := y)).cell hlt
        rw [wAt_set y (by rw [List.length_set, HLn.out]; exact hlt)] at b2
        have N2 : Hid (-9223372036854775808 ≤ wAt ((cur.set k z).set k y) (k + 1) ∧ wAt ((cur.set k z).set k y) (k + 1) ≤ 9223372036854775807) := by
          show _ ∧ _
          rw [wAt_set_ne y (by omega), wAt_set_ne z (by omega)]; exact hnx.out
        have N3 : Hid (-9223372036854775808 ≤ wAt (cur.set k z) (k + 1) ∧ wAt (cur.set k z) (k + 1) ≤ 9223372036854775807) := by
          show _ ∧ _
          rw [wAt_set_ne z (by omega)]; exact hnx.out
        have hgl := (HS1.out.own.lt gp rfl).2
        clear HS1
        by_cases hz : 100000000000 < z
        · obtain ⟨t, ht⟩ : ∃ t, IntKind.i64.wrap (s + y) = t := ⟨_, rfl⟩
          rw [ht] at HS2
          go_wp2_with fail
          go_roundw
          case rel => exact ⟨k + 1, _, t, by go_num, by omega, rfl, N2.out, HS2.out⟩
          case measure => simp [intOf]; omega
        · obtain ⟨t, ht⟩ : ∃ t, IntKind.i64.wrap (s + z) = t := ⟨_, rfl⟩
          rw [ht] at HS3
          go_wp2_with fail
          go_roundw
          case rel => exact ⟨k + 1, _, t, by go_num, by omega, rfl, N3.out, HS3.out⟩
          case measure => simp [intOf]; omega
    · obtain rfl : k = m := by omega
      clear hx2
      have hlv := HL.out.below HR.out.bel
      have HLV := Lib.hid hlv
      obtain ⟨A'', c'', he, hrow⟩ := row_of_ints HR.out.own
      obtain ⟨rfl, rfl⟩ : A' = A'' ∧ c' = c'' := by simpa using he
      have HRW := Lib.hid hrow
      obtain ⟨L, E, s20, s21, hRS, hL12⟩ := shares_both (A := A) (n := n) (brs := brs) HN.out (A' := A') (m := k) cur HR.out.len.symm (by omega)
      have S20 := Lib.hid s20
      have S21 := Lib.hid s21
      have HRS := Lib.hid hRS
      have a0 := hlv.c0
      have a1 := hlv.c1
      have ag := hlv.lt
      have HBw := Lib.hid (HB.out.trans (HR.out.bel.mono HB.out.size))
      have HSum := Lib.hid HR.out.sum
      have HCL := Lib.hid HR.out.len
      clear he hrow s20 s21 hRS hlv HL HB HR
      go_wp2_with fail
      (with_reducible refine (S20.out _ c c' HLV.out.v HRW.out).mono ?_)
      rintro e wa ⟨Ax, nx, cx, rfl, hnx, hrx, hba⟩
      have d0 := (hba.cell (p := ⟨g, 0, none⟩) ag).trans a0
      have d1 := (hba.cell (p := ⟨g, 1, none⟩) ag).trans a1
      have HLA := Lib.hid (HLV.out.below hba)
      have HRA := Lib.hid ((HRW.out.below hba).more hba.size)
      have HBa := Lib.hid (HBw.out.trans (hba.mono HBw.out.size))
      have HX := Lib.hid hrx
      have HNX := Lib.hid hnx
      clear a0 a1 ag hba HLV HRW HBw hrx S20 hnx
      go_wp2_with fail
      (with_reducible refine (S21.out _ c c' HLA.out.v HRA.out).mono ?_)
      rintro e wb ⟨Ay, ny, cy, rfl, hny, hry, hbb⟩
      have HLB := Lib.hid (HLA.out.below hbb)
      have HRB := Lib.hid ((HRA.out.below hbb).more hbb.size)
      have HBb := Lib.hid (HBa.out.trans (hbb.mono HBa.out.size))
      have HXb := Lib.hid ((HX.out.below hbb).more hbb.size)
      have HY := Lib.hid hry
      have HNY := Lib.hid hny
      clear d0 d1 hbb HLA HRA HBa hry S21 hny HX
      have q1 : (E != E) = false := by simp
      by_cases hE : E = 0
      · subst hE
        have hrs := HRS.out rfl
        have hLl : nx = k := by rw [HNX.out, hrs.len]
        subst hLl
        have hsame : sameB L L = true := by simp [sameB]
        have hsum : s = sumTo (wAt cur) nx := by rw [← HSum.out]; exact wS_good hrs.good nx (Nat.le_refl _)
        have KS := Lib.hid (fun (c c' : Nat) => same_any (c := c) (c' := c') HXb.out HY.out HNX.out HNY.out (by omega))
        have hd2 : dueR nm brs s = (due brs (sumTo (wAt cur) nx), 0) := by
          have := hrs.good.sum
          unfold dueR
          rw [if_pos hrs.valid, hsum, if_pos (by simp [inB]; omega)]
        have HD2 := Lib.hid hd2
        have HRS2 := Lib.hid hrs
        have hds := due_self (good_of_valid hrs.valid) (s := sumTo (wAt cur) nx) hrs.good.sum.1
        have hdb : 0 ≤ due brs (sumTo (wAt cur) nx) ∧ due brs (sumTo (wAt cur) nx) ≤ 1099511627776 := by have := hrs.good.sum; omega
        clear HRS hrs hsum HSum hd2 hds
        go_wp2_with fail
        (with_reducible refine (KS.out cx cy).mono ?_)
        rintro e wc ⟨rfl, hbc⟩
        rw [hsame]
        have HLC := Lib.hid (HLB.out.below hbc)
        have HRC := Lib.hid ((HRB.out.below hbc).more hbc.size)
        have HBc := Lib.hid (HBb.out.trans (hbc.mono HBb.out.size))
        have HXc := Lib.hid ((HXb.out.below hbc).more hbc.size)
        have a0 := HLC.out.c0
        have a1 := HLC.out.c1
        clear KS hbc HLB HRB HBb HXb HY
        go_wp2_with fail
        (with_reducible refine (Due_any c s HLC.out.v).mono ?_)
        rintro e wd ⟨rfl, hbd⟩
        rw [HD2.out]
        have HLD := Lib.hid (HLC.out.below hbd)
        have HRD := Lib.hid ((HRC.out.below hbd).more hbd.size)
        have HBd := Lib.hid (HBc.out.trans (hbd.mono HBc.out.size))
        have HXd := Lib.hid ((HXc.out.below hbd).more hbd.size)
        have HTot := Lib.hid HRS2.out.total
        generalize due brs (sumTo (wAt cur) nx) = D at *
        clear hbd HLC HRC HBc HXc a0 a1 HD2
        go_wp2_with fail
        go_loopw [17, 19] (fun d i wr => ∃ j : Nat, i = .int .i64 (j : Int) ∧ j ≤ nx ∧ d = .int .i64 (D - sumTo (wAt L) j) ∧ Below wd.heap.size wd wr ∧ 0 ≤ sumTo (wAt L) j ∧ sumTo (wAt L) j ≤ (j : Int) * 1099511627776) (fun _ i _ => nx - (intOf i).toNat)
        case atStart => exact ⟨0, rfl, Nat.zero_le _, by simp [sumTo], Below.refl _ _, by simp [sumTo], by simp [sumTo]⟩
        case round =>
          obtain ⟨j, rfl, hj, rfl, hbw, l0, l1⟩ := hrel
          by_cases hlt2 : j < nx
          · obtain ⟨bx, ox, rfl, hbx, hcx⟩ := (HXd.out.below hbw).at_ j (by rw [ints_length]; have := HNX.out; omega)
            have k1 := hcx j _ (ints_at L j (by have := HNX.out; omega))
            obtain ⟨bp, op, rfl, hbp, hcp⟩ := (HRD.out.below hbw).at_ j (by rw [ints_length]; have := HRS2.out.good; have := HCL.out; omega)
            have k2 := hcp j _ (ints_at cur j (by have := HCL.out; omega))
            change _ = some (Value.int .i64 (wAt L j)) at k1
            change _ = some (Value.int .i64 (wAt cur j)) at k2
            obtain ⟨e1, e2⟩ := HRS2.out.each j hlt2
            have e3 := (HRS2.out.good.at_ j hlt2).2.1
            have hnx2 : Hid (sumTo (wAt L) (j + 1) = sumTo (wAt L) j + wAt L j) := rfl
            have a5 : (j : Int) < (nx : Int) := by omega
            have HBN := Lib.hid (fun n => bel_drewN hbw n)
            clear hcx hcp hbw HXd HRD
            generalize wAt L j = l at *
            generalize wAt cur j = x at *
            generalize sumTo (wAt L) j = t at *
            have a6 : ¬ (l < 0) := by omega
            have a7 : ¬ (x < l) := by omega
            have a8 : decide (l < 0) = false := decide_eq_false a6
            have a9 : decide (x < l) = false := decide_eq_false a7
            go_wp2_with fail
            go_quiet (fail)
            have k3 : (wr.drewN nq).cell? ⟨bx, ox + j, none⟩ = some (.int .i64 l) := k1
            go_wp2_with fail
            go_roundw
            case rel => exact ⟨j + 1, by go_num, by omega, by rw [hnx2.out]; go_num, HBN.out _, by rw [hnx2.out]; omega, by rw [hnx2.out]; omega⟩
            case measure => simp [intOf]; omega
          · obtain rfl : j = nx := by omega
            rw [HTot.out]
            have z0 : D - D = 0 := by omega
            rw [z0]
            have hbF := HBd.out.trans (hbw.mono HBd.out.size)
            have hTt := (HLD.out.below hbw).tab
            go_wp2_with fail
            (with_reducible refine (lives_any _ hTt).mono ?_)
            rintro e w9 ⟨rfl, hb⟩
            have HB9 := hbF.trans (hb.mono hbF.size)
            go_wp2
            go_ret
            exact ⟨rfl, HB9⟩
      · have hsame : sameB L L = true := by simp [sameB]
        have hE2 : (E != 0) = true := by simpa using hE
        have KS := Lib.hid (fun (c c' : Nat) => same_any (c := c) (c' := c') HXb.out HY.out HNX.out HNY.out (by have := HNX.out; omega))
        clear hE
        go_wp2_with fail
        (with_reducible refine (KS.out cx cy).mono ?_)
        rintro e wc ⟨rfl, hbc⟩
        rw [hsame]
        have HBc := HBb.out.trans (hbc.mono HBb.out.size)
        have hTt := (HLB.out.below hbc).tab
        clear KS hbc
        go_wp2_with fail
        (with_reducible refine (lives_any _ hTt).mono ?_)
        rintro e w9 ⟨rfl, hb⟩
        have HB9 := HBc.trans (hb.mono HBc.size)
        go_wp2
        go_ret
        exact ⟨rfl, HB9⟩

end Go.Proofs.YtlgedljhheficaaGreatDoor

namespace Go.Proofs.YtlgedljhheficaaGreatDoor
open Go.RowKit

set_option maxRecDepth 100000 in
set_option maxHeartbeats 4000000 in
theorem taxshares_true {w : World} {A0 : Option Addr} {n0 : Nat} (c0 : Nat) {zs : List Int} {A1 : Option Addr} {n1 : Nat} (c1 : Nat) {ms : List Int} {A2 : Option Addr} {n2 c2 : Nat} {ps : List Int} (h : IntsV w A0 n0 zs) (hm : IntsV w A1 n1 ms) (hs : n1 * 8 ≤ 140737488351232) (hp : IntsV w A2 n2 ps) (hs2 : n2 * 8 ≤ 140737488351232) (hc2 : n2 ≤ c2) (hc3 : A2 = none → c2 = 0) (hT : Tab w) :
    Calls Tryz.prog 4 #[.slice A0 n0 c0, .slice A1 n1 c1, .slice A2 n2 c2, .bool true] w fun e w' => e = .returned (.bool true) ∧ Below w.heap.size w w' := by
  have K := Lib.hid (taxbent_any c0 c1 h hm hs)
  have HT := Lib.hid hT
  have HPp := Lib.hid hp
  clear h hm hT hp
  go_enter Tryz.func4, Tryz.ntmps4
  go_wp2_with fail
  (with_reducible refine K.out.mono ?_)
  rintro e w1 ⟨nm, A, n, c, brs, rfl, hnm, hrow, hn, h100, hB1⟩
  clear K
  have hb0 : Below w1.heap.size w1 (w1.alloc (.cells #[.string nm, .slice A n c] 25)) := (Below.refl _ _).alloc (Nat.le_refl _) _
  have L1 : TaxAt (w1.alloc (.cells #[.string nm, .slice A n c] 25)) w1.heap.size nm A n c brs :=
    ⟨by simp, by simp, by simp, (hrow.below hb0).more hb0.size, hn, by omega, hnm.plain, (HT.out.below hB1 HT.out.1).below hb0 (Nat.lt_of_lt_of_le HT.out.1 hB1.size)⟩
  have B2 : Below w.heap.size w (w1.alloc (.cells #[.string nm, .slice A n c] 25)) := hB1.alloc hB1.size _
  have HL := Lib.hid L1
  have HB := Lib.hid B2
  have HN := Lib.hid hnm
  clear hrow hb0 L1 B2 hnm HT hn hB1
  go_wp2_with fail
  generalize hW : w1.alloc (.cells #[.string nm, .slice A n c] 25) = W at HL HB ⊢
  generalize w1.heap.size = g at *
  clear hW w1
  have KI := Lib.hid (Ints_any (c := c2) (HPp.out.below HB.out) hc2 hc3 (by omega))
  have HWf := Lib.hid HPp.out.wf
  (with_reducible refine KI.out.mono ?_)
  rintro e w2 ⟨v, rfl, hown, hb2⟩
  obtain ⟨A', c', rfl, -⟩ := row_of_ints hown
  generalize hm : min ps.length 6 = m at *
  have hlv := HL.out.below hb2
  have HLV := Lib.hid hlv
  obtain ⟨A'', c'', he, hrow⟩ := row_of_ints hown
  obtain ⟨rfl, rfl⟩ : A' = A'' ∧ c' = c'' := by simpa using he
  have HRW := Lib.hid hrow
  obtain ⟨L, E, s20, s21, -, hL12⟩ := shares_both (A := A) (n := n) (brs := brs) HN.out (A' := A') (m := m) (ps.take 6) (by rw [List.length_take]; omega) (by omega)
  have S20 := Lib.hid s20
  have S21 := Lib.hid s21
  have a0 := hlv.c0
  have a1 := hlv.c1
  have ag := hlv.lt
  have HBw := Lib.hid (HB.out.trans (hb2.mono HB.out.size))
  have hm6 : m ≤ 6 := by omega
  clear he hrow s20 s21 hlv HL HB hown hb2 KI HWf HPp hm
  go_wp2_with fail
  go_loopw [11, 12] (fun s i wr => s = .int .i64 0 ∧ i = .int .i64 0 ∧ w2 = wr) (fun _ _ _ => 0)
  case atStart => exact ⟨rfl, rfl, rfl⟩
  case round =>
    obtain ⟨rfl, rfl, rfl⟩ := hrel
    by_cases hm0 : m = 0
    · subst hm0
      go_wp2_with fail
      (with_reducible refine (S20.out _ c c' HLV.out.v HRW.out).mono ?_)
      rintro e wa ⟨Ax, nx, cx, rfl, hnx, hrx, hba⟩
      have d0 := (hba.cell (p := ⟨g, 0, none⟩) ag).trans a0
      have d1 := (hba.cell (p := ⟨g, 1, none⟩) ag).trans a1
      have HLA := Lib.hid (HLV.out.below hba)
      have HRA := Lib.hid ((HRW.out.below hba).more hba.size)
      have HBa := Lib.hid (HBw.out.trans (hba.mono HBw.out.size))
      have HX := Lib.hid hrx
      have HNX := Lib.hid hnx
      clear a0 a1 ag hba HLV HRW HBw hrx S20 hnx
      go_wp2_with fail
      (with_reducible refine (S21.out _ c c' HLA.out.v HRA.out).mono ?_)
      rintro e wb ⟨Ay, ny, cy, rfl, hny, hry, hbb⟩
      have HLB := Lib.hid (HLA.out.below hbb)
      have HBb := Lib.hid (HBa.out.trans (hbb.mono HBa.out.size))
      have HXb := Lib.hid ((HX.out.below hbb).more hbb.size)
      have HY := Lib.hid hry
      have HNY := Lib.hid hny
      clear d0 d1 hbb HLA HRA HBa hry S21 hny HX
      have q1 : (E != E) = false := by simp
      have hsame : sameB L L = true := by simp [sameB]
      have KS := Lib.hid (fun (c c' : Nat) => same_any (c := c) (c' := c') HXb.out HY.out HNX.out HNY.out (by have := HNX.out; omega))
      go_wp2_with fail
      (with_reducible refine (KS.out cx cy).mono ?_)
      rintro e wc ⟨rfl, hbc⟩
      rw [hsame]
      have HBc := HBb.out.trans (hbc.mono HBb.out.size)
      have hTt := (HLB.out.below hbc).tab
      clear KS hbc
      go_wp2_with fail
      (with_reducible refine (lives_any _ hTt).mono ?_)
      rintro e w9 ⟨rfl, hb⟩
      have HB9 := HBc.trans (hb.mono HBc.size)
      go_wp2
      go_ret
      exact ⟨rfl, HB9⟩
    · have hm1 : 0 < m := by omega
      go_wp2_with fail
      (with_reducible refine (S20.out _ c c' HLV.out.v HRW.out).mono ?_)
      rintro e wa ⟨Ax, nx, cx, rfl, hnx, hrx, hba⟩
      have d0 := (hba.cell (p := ⟨g, 0, none⟩) ag).trans a0
      have d1 := (hba.cell (p := ⟨g, 1, none⟩) ag).trans a1
      have HLA := Lib.hid (HLV.out.below hba)
      have HRA := Lib.hid ((HRW.out.below hba).more hba.size)
      have HBa := Lib.hid (HBw.out.trans (hba.mono HBw.out.size))
      have HX := Lib.hid hrx
      have HNX := Lib.hid hnx
      clear a0 a1 ag hba HLV HRW HBw hrx S20 hnx
      go_wp2_with fail
      (with_reducible refine (S21.out _ c c' HLA.out.v HRA.out).mono ?_)
      rintro e wb ⟨Ay, ny, cy, rfl, hny, hry, hbb⟩
      have HLB := Lib.hid (HLA.out.below hbb)
      have HBb := Lib.hid (HBa.out.trans (hbb.mono HBa.out.size))
      have HXb := Lib.hid ((HX.out.below hbb).more hbb.size)
      have HY := Lib.hid hry
      have HNY := Lib.hid hny
      clear d0 d1 hbb HLA HRA HBa hry S21 hny HX
      have q1 : (E != E) = false := by simp
      have hsame : sameB L L = true := by simp [sameB]
      have KS := Lib.hid (fun (c c' : Nat) => same_any (c := c) (c' := c') HXb.out HY.out HNX.out HNY.out (by have := HNX.out; omega))
      go_wp2_with fail
      (with_reducible refine (KS.out cx cy).mono ?_)
      rintro e wc ⟨rfl, hbc⟩
      rw [hsame]
      have HBc := HBb.out.trans (hbc.mono HBb.out.size)
      have hTt := (HLB.out.below hbc).tab
      clear KS hbc
      go_wp2_with fail
      (with_reducible refine (lives_any _ hTt).mono ?_)
      rintro e w9 ⟨rfl, hb⟩
      have HB9 := HBc.trans (hb.mono HBc.size)
      go_wp2
      go_ret
      exact ⟨rfl, HB9⟩

theorem taxshares_any {w : World} {A0 : Option Addr} {n0 : Nat} (c0 : Nat) {zs : List Int} {A1 : Option Addr} {n1 : Nat} (c1 : Nat) {ms : List Int} {A2 : Option Addr} {n2 c2 : Nat} {ps : List Int} (b : Bool) (h : IntsV w A0 n0 zs) (hm : IntsV w A1 n1 ms) (hs : n1 * 8 ≤ 140737488351232) (hp : IntsV w A2 n2 ps) (hs2 : n2 * 8 ≤ 140737488351232) (hc : n2 ≤ c2 ∧ (A2 = none → c2 = 0)) (hT : Tab w) :
    Calls Tryz.prog 4 #[.slice A0 n0 c0, .slice A1 n1 c1, .slice A2 n2 c2, .bool b] w fun e w' => e = .returned (.bool true) ∧ Below w.heap.size w w' := by
  cases b
  · exact taxshares_false c0 c1 h hm hs hp hs2 hc.1 hc.2 hT
  · exact taxshares_true c0 c1 h hm hs hp hs2 hc.1 hc.2 hT

end Go.Proofs.YtlgedljhheficaaGreatDoor
