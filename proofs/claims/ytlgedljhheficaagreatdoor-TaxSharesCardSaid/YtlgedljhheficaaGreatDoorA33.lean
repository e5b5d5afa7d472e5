/- What TaxPeriods's loops keep: two meters, a list; the plain law. -/
import Derived.Test.YtlgedljhheficaaGreatDoorA32
import Derived.Deep.RegionHeld3
namespace Go.Proofs.YtlgedljhheficaaGreatDoor
open Go.RowKit

def psum : List Int → Int
  | [] => 0
  | x :: r => x + psum r
theorem psum_append (a b : List Int) : psum (a ++ b) = psum a + psum b := by
  induction a with
  | nil => simp [psum]
  | cons x r ih => simp only [List.cons_append, psum, ih]; omega
theorem psum_reverse (l : List Int) : psum l.reverse = psum l := by
  induction l with
  | nil => rfl
  | cons x r ih => rw [List.reverse_cons, psum_append, ih]; simp only [psum]; omega
def psumTo (l : List Int) (k : Nat) : Int := psum (l.take k)
theorem psumTo_succ (l : List Int) (k : Nat) (h : k < l.length) : psumTo l (k + 1) = psumTo l k + l[k]?.getD 0 := by
  unfold psumTo
  rw [List.take_add_one, psum_append]
  simp [h, psum]
theorem psumTo_bd (l : List Int) (hl : ∀ x ∈ l, 0 ≤ x ∧ x < 3000) (k : Nat) (hk : k ≤ l.length) : 0 ≤ psumTo l k ∧ psumTo l k ≤ 3000 * k := by
  induction k with
  | zero => simp [psumTo, psum]
  | succ k ih =>
    have := ih (by omega)
    rw [psumTo_succ l k (by omega)]
    have hm := hl (l[k]'(by omega)) (List.getElem_mem _)
    have : l[k]?.getD 0 = l[k]'(by omega) := by simp [show k < l.length by omega]
    omega
theorem psumTo_all (l : List Int) : psumTo l l.length = psum l := by simp [psumTo]
theorem rev_at (l : List Int) (k : Nat) (h : k < l.length) : l.reverse[k]?.getD 0 = l[l.length - 1 - k]?.getD 0 := by
  rw [List.getElem?_reverse h]

/-- The list that the first loop makes. -/
def listOf (zs : List Int) : List Int := (zs.take 8).map fun z => around z 3000
theorem listOf_bd (zs : List Int) : ∀ x ∈ listOf zs, 0 ≤ x ∧ x < 3000 := by
  intro x hx
  simp only [listOf, List.mem_map] at hx
  obtain ⟨z, _, rfl⟩ := hx
  exact ⟨around_lo z 3000 (by omega), around_hi z 3000 (by omega)⟩
theorem listOf_len (zs : List Int) : (listOf zs).length ≤ 8 ∧ (listOf zs).length ≤ zs.length := by
  simp [listOf]; omega
theorem listOf_at (zs : List Int) (k : Nat) (h : k < (listOf zs).length) : (listOf zs)[k]?.getD 0 = around (zs[k]?.getD 0) 3000 := by
  have hl : k < 8 ∧ k < zs.length := by simp [listOf] at h; omega
  simp [listOf, hl.1, hl.2]

/-- An account that is charged in the first period alone. -/
def Acc1 (M : Int → Option (Int × Int)) (k : Nat) (S : Int) : Prop := (k = 0 ∧ M 1 = none ∧ S = 0) ∨ (0 < k ∧ M 1 = some (1, S))
theorem Acc1.first {M : Int → Option (Int × Int)} {k : Nat} {S : Int} (h : Acc1 M k S) : ((M 1).getD (0, 0)).1 ≤ 1 := by
  rcases h with ⟨_, h, _⟩ | ⟨_, h⟩ <;> rw [h] <;> simp
theorem Acc1.sum {M : Int → Option (Int × Int)} {k : Nat} {S p t : Int} (h : Acc1 M k S) (t0 : 0 ≤ t) (ht : t / p = 1) : sumM p M 1 t = S := by
  rcases h with ⟨_, h, hs⟩ | ⟨_, h⟩
  · simp [sumM, h, hs]
  · simp [sumM, h, ht, t0]
theorem Acc1.away {M : Int → Option (Int × Int)} {k : Nat} {S p t : Int} (h : Acc1 M k S) (ht : t / p ≠ 1) : sumM p M 1 t = 0 := by
  rcases h with ⟨_, h, hs⟩ | ⟨_, h⟩
  · simp [sumM, h]
  · simp only [sumM, h]; rw [if_neg]; omega

theorem charge_ok {nm : ByteArray} {brs : List (Int × Int)} {p : Int} {M : Int → Option (Int × Int)} {a s t S : Int} (hv : validE nm brs = 0) (hb : argsB a t = true) (hl : ((M a).getD (0, 0)).1 ≤ t / p) (hS : sumM p M a t = S)
    (S0 : 0 ≤ S) (s0 : 0 ≤ s) (h1 : S + s ≤ 1099511627776) : chargeR nm brs p M a s t = (due brs (S + s) - due brs S, 0) ∧ chargeM nm brs p M a s t = upd M a (t / p, S + s) := by
  have hm := moreR_in hv S0 s0 h1
  have hr : chargeR nm brs p M a s t = (due brs (S + s) - due brs S, 0) := by
    rw [chargeR, if_pos hb, if_neg (by omega), hS, hm, if_pos rfl]
  exact ⟨hr, by rw [chargeM, hr, if_pos rfl, hS]⟩
theorem Acc1.charged {M : Int → Option (Int × Int)} {k : Nat} {S : Int} (x : Int) : Acc1 (upd M 1 (1, S + x)) (k + 1) (S + x) := .inr ⟨by omega, by simp [upd]⟩
theorem Acc1.other {M : Int → Option (Int × Int)} {k : Nat} {S : Int} (h : Acc1 M k S) (v : Int × Int) : Acc1 (upd M 2 v) k S := by
  have : upd M 2 v 1 = M 1 := by simp [upd]
  unfold Acc1
  rw [this]
  exact h
/-- An account whose charges are small, in periods that do not decrease. -/
def Acc2 (p : Int) (M : Int → Option (Int × Int)) (k : Nat) : Prop := ((M 2).getD (0, 0)).1 * p ≤ 3 * k ∧ 0 ≤ ((M 2).getD (0, 0)).2 ∧ ((M 2).getD (0, 0)).2 ≤ 1000 * k
theorem Acc2.late {p : Int} {M : Int → Option (Int × Int)} {k : Nat} (h : Acc2 p M k) (p0 : 1 ≤ p) : ((M 2).getD (0, 0)).1 ≤ 3 * (k : Int) / p := (Int.le_ediv_iff_mul_le (by omega)).2 h.1
theorem Acc2.sum {p : Int} {M : Int → Option (Int × Int)} {k : Nat} (h : Acc2 p M k) (t : Int) : 0 ≤ sumM p M 2 t ∧ sumM p M 2 t ≤ 1000 * k := by
  obtain ⟨_, h1, h2⟩ := h
  unfold sumM
  split
  · rename_i v hv
    rw [hv] at h1 h2
    simp at h1 h2
    split <;> omega
  · omega
theorem Acc2.charged {p : Int} {M : Int → Option (Int × Int)} {k : Nat} (p0 : 1 ≤ p) {s : Int} (s0 : 0 ≤ s) (s1 : s ≤ 1000 * ((k + 1 : Nat) : Int)) : Acc2 p (upd M 2 (3 * (k : Int) / p, s)) (k + 1) := by
  have : upd M 2 (3 * (k : Int) / p, s) 2 = some (3 * (k : Int) / p, s) := by simp [upd]
  unfold Acc2
  rw [this]
  have := Int.ediv_mul_le (3 * (k : Int)) (show p ≠ 0 by omega)
  simp only [Option.getD_some]
  omega
theorem Acc2.other {p : Int} {M : Int → Option (Int × Int)} {k : Nat} (h : Acc2 p M k) (v : Int × Int) : Acc2 p (upd M 1 v) k := by
  have : upd M 1 v 2 = M 2 := by simp [upd]
  unfold Acc2
  rw [this]
  exact h

section
variable {w w' : World} {g b cnt : Nat} {nm : ByteArray} {A : Option Addr} {n c : Nat} {brs : List (Int × Int)} {p : Int} {M M' : Int → Option (Int × Int)}
theorem MeterAt.grown {b' n' : Nat} (h : MeterAt w g b cnt nm A n c brs p M) (hm : MapT w b' n' M') (hg : w.grownBy w' (some b')) (hne : b ≠ b') : MeterAt w' g b cnt nm A n c brs p M := by
  refine ⟨h.bk.grown hg (fun e => ?_), h.map.kept hg (fun e => hne (Option.some.inj e)), h.tax.grown hm hg, h.p0, h.p1, h.wf⟩
  obtain ⟨D, ⟨es, clock, hb, _⟩, _⟩ := hm
  have := h.bk
  unfold Bk at this
  rw [Option.some.inj e, hb] at this
  simp at this
theorem TaxAt.grown {b' n' : Nat} (h : TaxAt w g nm A n c brs) (hm : MapT w b' n' M') (hg : w.grownBy w' (some b')) : TaxAt w' g nm A n c brs :=
  ⟨Nat.lt_of_lt_of_le h.lt hg.size, cell_grown hm hg h.c0, cell_grown hm hg h.c1, (h.row.grown hm hg).more hg.size, h.len, h.small, h.name, h.tab.grown hm hg⟩
end

theorem in64 {a : Int} (h0 : -9223372036854775808 ≤ a) (h1 : a ≤ 9223372036854775807) : In64 a := ⟨h0, h1⟩
theorem per_one {p q : Int} (p0 : 1 ≤ p) (q0 : 0 ≤ q) (q1 : q < p) : (p + q) / p = 1 := by
  have h := Int.add_ediv_of_dvd_left (a := p) (b := q) (c := p) ⟨1, by omega⟩
  rw [h, Int.ediv_self (by omega), Int.ediv_eq_zero_of_lt q0 q1]
  rfl
theorem argsB_of {a t : Int} (h0 : 1 ≤ a) (h1 : a ≤ 1073741824) (t0 : 0 ≤ t) (t1 : t ≤ 1099511627776) : argsB a t = true := by simp [argsB, h0, h1, t0, t1]

/-- What lies in memory in TaxPeriods. -/
structure PS (W : World) (g0 : Nat) (A : Option Addr) (n c : Nat) (brs : List (Int × Int)) (p : Int) (ga ba : Nat) (Aa : Option Addr) (ca na : Nat) (Ma : Int → Option (Int × Int)) (gb bb : Nat) (Ab : Option Addr) (cb nb : Nat) (Mb : Int → Option (Int × Int))
    (Al : Option Addr) (nl : Nat) (L : List Int) (Ao : Option Addr) (no : Nat) (zo : List Int) : Prop where
  box : TaxAt W g0 sale A n c brs
  a : MeterAt W ga ba na sale Aa n ca brs p Ma
  b : MeterAt W gb bb nb sale Ab n cb brs p Mb
  list : IntsV W Al nl L
  oth : IntsV W Ao no zo
  ne : ba ≠ bb
section
variable {W W' : World} {g0 : Nat} {A : Option Addr} {n c : Nat} {brs : List (Int × Int)} {p : Int} {ga ba : Nat} {Aa : Option Addr} {ca na : Nat} {Ma Ma' : Int → Option (Int × Int)} {gb bb : Nat} {Ab : Option Addr} {cb nb : Nat} {Mb Mb' : Int → Option (Int × Int)}
    {Al : Option Addr} {nl : Nat} {L : List Int} {Ao : Option Addr} {no : Nat} {zo : List Int}
theorem PS.below (h : PS W g0 A n c brs p ga ba Aa ca na Ma gb bb Ab cb nb Mb Al nl L Ao no zo) (hb : Below W.heap.size W W') : PS W' g0 A n c brs p ga ba Aa ca na Ma gb bb Ab cb nb Mb Al nl L Ao no zo :=
  ⟨h.box.below hb, h.a.below hb, h.b.below hb, h.list.below hb, h.oth.below hb, h.ne⟩
theorem PS.chargeA (h : PS W g0 A n c brs p ga ba Aa ca na Ma gb bb Ab cb nb Mb Al nl L Ao no zo) {na' : Nat} (hm : MeterAt W' ga ba na' sale Aa n ca brs p Ma') (hg : W.grownBy W' (some ba)) : PS W' g0 A n c brs p ga ba Aa ca na' Ma' gb bb Ab cb nb Mb Al nl L Ao no zo :=
  ⟨h.box.grown h.a.map hg, hm, h.b.grown h.a.map hg (fun e => h.ne e.symm), h.list.grown h.a.map hg, h.oth.grown h.a.map hg, h.ne⟩
theorem PS.chargeB (h : PS W g0 A n c brs p ga ba Aa ca na Ma gb bb Ab cb nb Mb Al nl L Ao no zo) {nb' : Nat} (hm : MeterAt W' gb bb nb' sale Ab n cb brs p Mb') (hg : W.grownBy W' (some bb)) : PS W' g0 A n c brs p ga ba Aa ca na Ma gb bb Ab cb nb' Mb' Al nl L Ao no zo :=
  ⟨h.box.grown h.b.map hg, h.a.grown h.b.map hg h.ne, hm, h.list.grown h.b.map hg, h.oth.grown h.b.map hg, h.ne⟩
end

end Go.Proofs.YtlgedljhheficaaGreatDoor
