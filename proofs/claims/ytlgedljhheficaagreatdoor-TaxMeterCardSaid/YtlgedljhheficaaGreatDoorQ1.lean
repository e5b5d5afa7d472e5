/- The reference's meter: its block and its list; the contracts of its find and Sum. The contract of the reference's Charge. The walk of the reference's Charge. Contracts of tax.New and of the reference's New in every case. The contract of the reference's Copy. The contract of Meter.Copy. Two meters side by side: the program's and the reference's; what stays while they are charged; the contract of the law's same. Two pairs of meters side by side: what stays while one of them is charged. The walk of TaxMeter. -/
import Derived.Test.YtlgedljhheficaaGreatDoorA31
import Derived.Test.YtlgedljhheficaaGreatDoorA45
import Derived.Deep.AppendLies
import Derived.Deep.RegionLaw
import Derived.StillTailTactics
import Derived.Test.YtlgedljhheficaaGreatDoorA32
import Derived.Maps.RangeWalk
import Derived.Test.YtlgedljhheficaaGreatDoorA38
import Derived.Deep.DeepCutAuto
import Derived.Deep.RegionHeld3
namespace Go.Proofs.YtlgedljhheficaaGreatDoor
open Go.RowKit

/-- An entry: account, period, sum. -/
abbrev Ent := Int × Int × Int
def ecells (L : List Ent) : List Value := L.flatMap fun e => [.int .i64 e.1, .int .i64 e.2.1, .int .i64 e.2.2]
theorem ecells_length (L : List Ent) : (ecells L).length = L.length * 3 := by
  induction L with
  | nil => rfl
  | cons p r ih => simp [ecells] at ih ⊢; omega
theorem ecells_snoc (L : List Ent) (e : Ent) : ecells (L ++ [e]) = ecells L ++ [.int .i64 e.1, .int .i64 e.2.1, .int .i64 e.2.2] := by simp [ecells]
def entAt (L : List Ent) (k : Nat) : Ent := L[k]?.getD (0, 0, 0)
theorem ecells_at (L : List Ent) (k : Nat) (hk : k < L.length) : (ecells L)[k * 3]? = some (.int .i64 (entAt L k).1) ∧ (ecells L)[k * 3 + 1]? = some (.int .i64 (entAt L k).2.1) ∧ (ecells L)[k * 3 + 2]? = some (.int .i64 (entAt L k).2.2) := by
  induction L generalizing k with
  | nil => simp at hk
  | cons p r ih =>
    cases k with
    | zero => simp [ecells, entAt]
    | succ k =>
      have h := ih k (by simpa using hk)
      have e : (k + 1) * 3 = k * 3 + 1 + 1 + 1 := by omega
      rw [e]
      simpa [ecells, entAt] using h

/-- The index of an account, or the length. -/
def idxL (L : List Ent) (a : Int) : Nat := L.findIdx fun e => e.1 == a
/-- What an account's entry holds. -/
def lookL (L : List Ent) (a : Int) : Option (Int × Int) := if idxL L a < L.length then some (entAt L (idxL L a)).2 else none
def findI (L : List Ent) (a : Int) : Int := if idxL L a < L.length then (idxL L a : Int) else -1
theorem idxL_le (L : List Ent) (a : Int) : idxL L a ≤ L.length := List.findIdx_le_length
theorem idxL_hit {L : List Ent} {a : Int} {k : Nat} (hk : k < L.length) (h : (entAt L k).1 = a) (hb : ∀ j, j < k → (entAt L j).1 ≠ a) : idxL L a = k := by
  have e1 : ∀ j (hj : j < L.length), entAt L j = L[j] := fun j hj => by simp [entAt, hj]
  unfold idxL
  rw [List.findIdx_eq hk]
  refine ⟨by rw [← e1 k hk]; simpa using h, fun j hj => ?_⟩
  rw [← e1 j (by omega)]
  simpa using hb j hj
theorem idxL_none {L : List Ent} {a : Int} (hb : ∀ j, j < L.length → (entAt L j).1 ≠ a) : idxL L a = L.length := by
  have e1 : ∀ j (hj : j < L.length), entAt L j = L[j] := fun j hj => by simp [entAt, hj]
  unfold idxL
  rw [List.findIdx_eq_length]
  intro x hx
  obtain ⟨j, hj, rfl⟩ := List.getElem_of_mem hx
  rw [← e1 j hj]
  simpa using hb j hj
theorem idxL_at {L : List Ent} {a : Int} (h : idxL L a < L.length) : (entAt L (idxL L a)).1 = a := by
  have e1 : ∀ j (hj : j < L.length), entAt L j = L[j] := fun j hj => by simp [entAt, hj]
  rw [e1 _ h]
  have h' : L.findIdx (fun e : Ent => e.1 == a) < L.length := h
  have := List.findIdx_getElem (w := h')
  simp only [beq_iff_eq] at this
  exact this

/-- The reference's meter at block g; its list is v, made since block B. -/
structure RMeterAt (w : World) (B g : Nat) (nm : ByteArray) (A : Option Addr) (n c : Nat) (brs : List (Int × Int)) (p : Int) (L : List Ent) (v : Value) : Prop where
  bk : Bk w g 79 [.string nm, .slice A n c, .int .i64 p, v]
  own : w.ownsRow B 82 3 v L.length (ecells L)
  tax : TaxV w nm A n brs
  name : Nm nm
  low : ∀ k off, A = some ⟨k, off, none⟩ → k < B
  tab : 3 ≤ B
  p0 : 1 ≤ p
  p1 : p ≤ 1099511627776
  wf : ∀ a v, lookL L a = some v → 0 ≤ v.1 ∧ v.1 ≤ 1099511627776 ∧ 0 ≤ v.2 ∧ v.2 ≤ 1099511627776
  ne : 1 ≤ n
section
variable {w w' : World} {B g : Nat} {nm : ByteArray} {A : Option Addr} {n c : Nat} {brs : List (Int × Int)} {p : Int} {L : List Ent} {v : Value}
theorem RMeterAt.below (h : RMeterAt w B g nm A n c brs p L v) (hb : Below w.heap.size w w') : RMeterAt w' B g nm A n c brs p L v :=
  ⟨h.bk.below hb h.bk.lt, h.own.kept (grown_of_below hb none) (by cases v.ownBlock <;> simp), h.tax.below hb, h.name, h.low, h.tab, h.p0, h.p1, h.wf, h.ne⟩
theorem RMeterAt.c0 (h : RMeterAt w B g nm A n c brs p L v) : w.cell? ⟨g, 0, none⟩ = some (.string nm) := h.bk.cell 0
theorem RMeterAt.c1 (h : RMeterAt w B g nm A n c brs p L v) : w.cell? ⟨g, 1, none⟩ = some (.slice A n c) := h.bk.cell 1
theorem RMeterAt.c2 (h : RMeterAt w B g nm A n c brs p L v) : w.cell? ⟨g, 2, none⟩ = some (.int .i64 p) := h.bk.cell 2
theorem RMeterAt.c3 (h : RMeterAt w B g nm A n c brs p L v) : w.cell? ⟨g, 3, none⟩ = some v := h.bk.cell 3

/-- The list's value: where it lies. -/
theorem RMeterAt.form (h : RMeterAt w B g nm A n c brs p L v) : ∃ A' c', v = .slice A' L.length c' ∧ (0 < L.length → ∃ r, A' = some ⟨r, 0, none⟩ ∧ r < w.heap.size ∧ ∀ k u, (ecells L)[k]? = some u → w.cell? ⟨r, k, none⟩ = some u) := by
  rcases h.own.2 with ⟨hv, h0⟩ | ⟨r, cap, cur, hv, hb, hg, _⟩
  · exact ⟨none, 0, by rw [hv, h0], fun h => by omega⟩
  · refine ⟨_, _, hv, fun _ => ⟨r, rfl, (Array.getElem?_eq_some_iff.1 hg).1, fun k u hu => ?_⟩⟩
    have hl := h.own.1
    have ho := h.own
    rw [hv] at ho
    have := ho.cellAt k (by have := (List.getElem?_eq_some_iff.1 hu).1; omega)
    rw [this]; exact hu

set_option maxRecDepth 100000 in
set_option maxHeartbeats 1000000 in
theorem find_any (a : Int) (h : RMeterAt w B g nm A n c brs p L v) (hl : L.length ≤ 100000) :
    Calls Tryz.prog 46 #[.pointer (some ⟨g, 0, none⟩), .int .i64 a] w fun e w' => e = .returned (.int .i64 (findI L a)) ∧ w = w' := by
  obtain ⟨A', c', rfl, hf⟩ := h.form
  have c3 := h.c3
  have hlt := h.bk.lt
  have Hf := Lib.hid hf
  obtain ⟨N, hN⟩ : ∃ N, L.length = N := ⟨_, rfl⟩
  rw [hN] at c3 hl
  have HN := Lib.hid hN
  clear hf h hN
  go_enter Tryz.func46, Tryz.ntmps46
  go_wp2
  go_loop [5] (fun e => ∃ j : Nat, j ≤ N ∧ e = .int .i64 j ∧ ∀ i, i < j → (entAt L i).1 ≠ a) (fun e => N - (intOf e).toNat)
  case atStart => exact ⟨0, Nat.zero_le _, rfl, fun i hi => by omega⟩
  case round =>
    obtain ⟨j, hj, rfl, hb⟩ := hrel
    have HB := Lib.hid hb
    clear hb
    by_cases hlt2 : j < N
    · obtain ⟨r, rfl, hr, hc⟩ := Hf.out (by rw [HN.out]; omega)
      have k0 := hc _ _ (ecells_at L j (by rw [HN.out]; omega)).1
      have Hk : Hid (∀ x, x = (entAt L j).1 → x = a → findI L a = j) := fun x hx e => by
        have := idxL_hit (L := L) (a := a) (k := j) (by rw [HN.out]; omega) (by rw [← hx, e]) HB.out
        unfold findI
        rw [this, if_pos (by rw [HN.out]; omega)]
      have Hx : Hid (∀ x, x = (entAt L j).1 → x ≠ a → ∀ i, i < j + 1 → (entAt L i).1 ≠ a) := fun x hx e i hi => by
        rcases Nat.lt_or_ge i j with h1 | h1
        · exact HB.out i h1
        · obtain rfl : i = j := by omega
          rw [← hx]; exact e
      obtain ⟨x, hx⟩ : ∃ x, x = (entAt L j).1 := ⟨_, rfl⟩
      rw [← hx] at k0
      have HX := Lib.hid hx
      clear hc hx
      by_cases he : x = a
      · have he2 : (x == a) = true := by simpa using he
        have HE := Lib.hid he
        clear he
        go_wp2
        go_ret
        exact ⟨by rw [Hk.out x HX.out HE.out]; rfl, rfl⟩
      · have he2 : (x == a) = false := by simpa using he
        have HE := Lib.hid he
        clear he
        go_wp2
        go_round
        case rel => exact ⟨j + 1, by omega, by go_num, Hx.out x HX.out HE.out⟩
        case measure => simp [intOf]; omega
    · have HE : Hid (findI L a = -1) := by
        show findI L a = -1
        have := idxL_none (L := L) (a := a) (fun i hi => HB.out i (by rw [HN.out] at hi; omega))
        unfold findI
        rw [this, if_neg (by omega)]
      go_wp2
      go_ret
      exact ⟨by rw [HE.out]; rfl, rfl⟩

set_option maxRecDepth 100000 in
set_option maxHeartbeats 1000000 in
theorem rsum_any (a tick : Int) (h : RMeterAt w B g nm A n c brs p L v) (hl : L.length ≤ 100000) (ht : In64 tick) :
    Calls Tryz.prog 47 #[.pointer (some ⟨g, 0, none⟩), .int .i64 a, .int .i64 tick] w fun e w' => e = .returned (.int .i64 (sumM p (lookL L) a tick)) ∧ Below w.heap.size w w' := by
  have K := Lib.hid (find_any a h hl)
  obtain ⟨A', c', rfl, hf⟩ := h.form
  have c2 := h.c2
  have c3 := h.c3
  have hlt := h.bk.lt
  have p0 := h.p0
  have p1 := h.p1
  obtain ⟨t0, t1⟩ := ht
  have Hs : Hid (sumM p (lookL L) a tick = match lookL L a with | some v => if 0 ≤ tick ∧ v.1 = tick / p then v.2 else 0 | none => 0) := rfl
  generalize sumM p (lookL L) a tick = S at *
  by_cases hi : idxL L a < L.length
  · have hfi : findI L a = (idxL L a : Int) := by unfold findI; rw [if_pos hi]
    have hlk : lookL L a = some (entAt L (idxL L a)).2 := by unfold lookL; rw [if_pos hi]
    obtain ⟨r, rfl, hr, hc⟩ := hf (by omega)
    obtain ⟨_, e1, e2⟩ := ecells_at L (idxL L a) hi
    have k1 := hc _ _ e1
    have k2 := hc _ _ e2
    rw [hlk] at Hs
    rw [hfi] at K
    generalize (entAt L (idxL L a)).2 = V at *
    obtain ⟨v1, v2⟩ := V
    dsimp only at k1 k2
    generalize idxL L a = j at *
    generalize L.length = N at *
    have j0 : decide ((j : Int) < 0) = false := by simp
    clear hf hc e1 e2 hfi hlk h
    by_cases hneg : tick < 0
    · go_enter Tryz.func47, Tryz.ntmps47
      go_wp2_with fail
      refine K.out.mono ?_
      rintro e w' ⟨rfl, rfl⟩
      go_wp2
      go_quiet (fail)
      go_wp2
      go_ret
      exact ⟨by rw [Hs.out]; simp; omega, bel_drewN (Below.refl _ _) _⟩
    · have e0 : (p == 0) = false := by simp; omega
      have e1 : ¬ p = 0 := by omega
      have e2 : tick.tdiv p = tick / p := Int.tdiv_eq_ediv_of_nonneg (by omega)
      have e3 : IntKind.i64.wrap (tick / p) = tick / p := IntWalk.i64_in _ (by
        have := Int.ediv_nonneg (a := tick) (b := p) (by omega) (by omega)
        have := Int.ediv_le_self (a := tick) p (by omega)
        omega)
      by_cases heq : v1 = tick / p
      · have hd : (v1 != tick / p) = false := by simpa using heq
        have HE := Lib.hid heq
        clear heq
        go_enter Tryz.func47, Tryz.ntmps47
        go_wp2_with fail
        refine K.out.mono ?_
        rintro e w' ⟨rfl, rfl⟩
        go_wp2
        go_quiet (fail)
        go_wp2
        go_ret
        exact ⟨by rw [Hs.out]; simp [HE.out]; omega, bel_drewN (Below.refl _ _) _⟩
      · have hd : (v1 != tick / p) = true := by simpa using heq
        have HE := Lib.hid heq
        clear heq
        go_enter Tryz.func47, Tryz.ntmps47
        go_wp2_with fail
        refine K.out.mono ?_
        rintro e w' ⟨rfl, rfl⟩
        go_wp2
        go_quiet (fail)
        go_wp2
        go_ret
        exact ⟨by rw [Hs.out]; simp [HE.out], bel_drewN (Below.refl _ _) _⟩
  · have hfi : findI L a = -1 := by unfold findI; rw [if_neg hi]
    have hlk : lookL L a = none := by unfold lookL; rw [if_neg hi]
    rw [hlk] at Hs
    rw [hfi] at K
    clear hf hfi hlk h
    go_enter Tryz.func47, Tryz.ntmps47
    go_wp2_with fail
    refine K.out.mono ?_
    rintro e w' ⟨rfl, rfl⟩
    go_wp2
    go_quiet (fail)
    go_wp2
    go_ret
    exact ⟨by rw [Hs.out]; rfl, bel_drewN (Below.refl _ _) _⟩
end

end Go.Proofs.YtlgedljhheficaaGreatDoor

namespace Go.Proofs.YtlgedljhheficaaGreatDoor
open Go.RowKit

def putL (L : List Ent) (a q x : Int) : List Ent := if idxL L a < L.length then L.set (idxL L a) (a, q, x) else L ++ [(a, q, x)]
theorem entAt_set_same {L : List Ent} {j : Nat} (hj : j < L.length) (e : Ent) : entAt (L.set j e) j = e := by simp [entAt, hj]
theorem entAt_set_other {L : List Ent} {j i : Nat} (hij : i ≠ j) (e : Ent) : entAt (L.set j e) i = entAt L i := by
  simp [entAt, List.getElem?_set_ne (Ne.symm hij)]
theorem idxL_lt_ne {L : List Ent} {a : Int} {j : Nat} (hj : j < idxL L a) : (entAt L j).1 ≠ a := by
  have hl := idxL_le L a
  have e1 : entAt L j = L[j]'(by omega) := by simp [entAt, show j < L.length by omega]
  rw [e1]
  have := List.not_of_lt_findIdx (p := fun e : Ent => e.1 == a) (xs := L) (i := j) hj
  simpa using this
theorem lookL_putL (L : List Ent) (a q x : Int) : lookL (putL L a q x) = upd (lookL L) a (q, x) := by
  funext b
  unfold putL upd
  by_cases ha : idxL L a < L.length
  · rw [if_pos ha]
    have hacc : ∀ i, (entAt (L.set (idxL L a) (a, q, x)) i).1 = (entAt L i).1 := fun i => by
      by_cases hi : i = idxL L a
      · rw [hi, entAt_set_same ha, idxL_at ha]
      · rw [entAt_set_other hi]
    have hidx : ∀ b, idxL (L.set (idxL L a) (a, q, x)) b = idxL L b := fun b => by
      by_cases hb : idxL L b < L.length
      · refine idxL_hit (by simpa using hb) (by rw [hacc, idxL_at hb]) fun j hj => ?_
        rw [hacc]
        exact idxL_lt_ne hj
      · have h1 : idxL L b = L.length := by have := idxL_le L b; omega
        rw [h1, idxL_none, List.length_set]
        intro j hj
        rw [hacc]
        exact idxL_lt_ne (by rw [h1]; simpa using hj)
    unfold lookL
    rw [hidx, List.length_set]
    by_cases hba : b = a
    · subst hba
      rw [if_pos ha, if_pos rfl, entAt_set_same ha]
    · rw [if_neg hba]
      by_cases hb : idxL L b < L.length
      · rw [if_pos hb, if_pos hb, entAt_set_other]
        intro e
        have h1 := idxL_at hb
        rw [e, idxL_at ha] at h1
        exact hba h1.symm
      · rw [if_neg hb, if_neg hb]
  · rw [if_neg ha]
    have h1 : idxL L a = L.length := by have := idxL_le L a; omega
    have hold : ∀ i, i < L.length → entAt (L ++ [(a, q, x)]) i = entAt L i := fun i hi => by simp [entAt, List.getElem?_append_left hi]
    have hnew : entAt (L ++ [(a, q, x)]) L.length = (a, q, x) := by simp [entAt]
    by_cases hba : b = a
    · subst hba
      have : idxL (L ++ [(b, q, x)]) b = L.length := idxL_hit (by simp) (by rw [hnew]) fun j hj => by
        rw [hold j hj]
        exact idxL_lt_ne (by rw [h1]; exact hj)
      unfold lookL
      rw [this, if_pos (by simp), if_pos rfl, hnew]
    · rw [if_neg hba]
      unfold lookL
      by_cases hb : idxL L b < L.length
      · have : idxL (L ++ [(a, q, x)]) b = idxL L b := idxL_hit (by simp; omega) (by rw [hold _ hb, idxL_at hb]) fun j hj => by
          rw [hold j (by omega)]
          exact idxL_lt_ne hj
        rw [this, if_pos (by simp; omega), if_pos hb, hold _ hb]
      · have h2 : idxL L b = L.length := by have := idxL_le L b; omega
        have : idxL (L ++ [(a, q, x)]) b = (L ++ [(a, q, x)]).length := idxL_none fun j hj => by
          rcases Nat.lt_or_ge j L.length with h3 | h3
          · rw [hold j h3]
            exact idxL_lt_ne (by rw [h2]; exact h3)
          · obtain rfl : j = L.length := by simp at hj; omega
            rw [hnew]
            exact fun e => hba e.symm
        rw [this, if_neg (by omega), if_neg hb]
theorem ecells_set (L : List Ent) (j : Nat) (e : Ent) : ecells (L.set j e) = (((ecells L).set (j * 3) (.int .i64 e.1)).set (j * 3 + 1) (.int .i64 e.2.1)).set (j * 3 + 2) (.int .i64 e.2.2) := by
  induction L generalizing j with
  | nil => simp [ecells]
  | cons p r ih =>
    cases j with
    | zero => simp [ecells]
    | succ j =>
      have h := ih j
      have e1 : (j + 1) * 3 = j * 3 + 1 + 1 + 1 := by omega
      rw [e1]
      simp only [ecells, List.set_cons_succ, List.flatMap_cons, List.cons_append, List.nil_append] at h ⊢
      rw [h]

/-- What has changed: block g and the row of v alone. -/
structure Far (w w' : World) (g : Nat) (v : Value) : Prop where
  os : w'.os = w.os
  tape : w'.tape = w.tape
  output : w'.output = w.output
  size : w.heap.size ≤ w'.heap.size
  block : ∀ i, i < w.heap.size → i ≠ g → v.ownBlock ≠ some i → w'.heap[i]? = w.heap[i]?
theorem Far.of_below {w w' : World} (g : Nat) (v : Value) (h : Below w.heap.size w w') : Far w w' g v := ⟨h.os, h.tape, h.output, h.size, fun i hi _ _ => h.block i hi⟩

section
variable {w w' : World} {B g : Nat} {nm : ByteArray} {A : Option Addr} {n c : Nat} {brs : List (Int × Int)} {p : Int} {L : List Ent} {v : Value}

theorem own_bk_ne {W : World} {base g : Nat} {t : TypeId} {xs ys : List Value} {m : Nat} {v : Value} (ho : W.ownsRow base 82 3 v m xs) (hb : Bk W g t ys) (ht : t ≠ 82) : v.ownBlock ≠ some g := by
  intro e
  rcases ho.2 with ⟨rfl, _⟩ | ⟨g', cap, cur, rfl, _, hg, _⟩
  · simp [Value.ownBlock] at e
  · simp [Value.ownBlock] at e
    subst e
    unfold Bk at hb
    rw [hg] at hb
    simp at hb
    exact ht hb.2.symm
/-- Two integers side by side lie in no block of that form. -/
theorem row_bk_ne {W : World} {g k off : Nat} {brs : List (Int × Int)} {t : TypeId} {s : ByteArray} {A : Option Addr} {n c : Nat} {p : Int} {v : Value} (h : ∀ j u, (bcells brs)[j]? = some u → W.cell? ⟨k, off + j, none⟩ = some u) (hn : 1 ≤ brs.length) (hb : Bk W g t [.string s, .slice A n c, .int .i64 p, v]) (hv : ∀ x, v ≠ .int .i64 x) : k ≠ g := by
  intro e
  have h0 := h _ _ (bcells_from brs 0 (by omega))
  have h1 := h _ _ (bcells_per brs 0 (by omega))
  rw [e, hb.cell] at h0 h1
  simp only [Nat.zero_mul, Nat.add_zero, Nat.zero_add] at h0 h1
  match off, h0, h1 with
  | 0, h0, _ => simp at h0
  | 1, h0, _ => simp at h0
  | 2, _, h1 => simp at h1; exact hv _ h1
  | 3, h0, _ => simp at h0; exact hv _ h0
  | o + 4, h0, _ => simp at h0
theorem tab_bk_ne {W : World} {g : Nat} {t : TypeId} {s : ByteArray} {xs : List Value} (h : Tab W) (hb : Bk W g t (.string s :: xs)) : g ≠ 2 := by
  intro e
  have h0 := h.2 0 (by omega)
  rw [← e, hb.cell] at h0
  simp at h0

/-- The tax stays while that meter is written. -/
theorem TaxV.far {nm' : ByteArray} {A' : Option Addr} {n' c' : Nat} {brs' : List (Int × Int)} (ht : TaxV w nm A n brs) (hn : 1 ≤ n) (hlow : ∀ k off, A = some ⟨k, off, none⟩ → k < B) (h : RMeterAt w B g nm' A' n' c' brs' p L v) (hf : Far w w' g v) : TaxV w' nm A n brs := by
  have hvi : ∀ x, v ≠ .int .i64 x := fun x e => by
    rcases h.own.2 with ⟨h1, _⟩ | ⟨_, _, _, h1, _⟩ <;> rw [h1] at e <;> cases e
  refine ⟨?_, ht.len, ht.small, ht.name, ?_⟩
  · rcases ht.row with h0 | ⟨k, off, rfl, hk, hc⟩
    · exact .inl h0
    · refine .inr ⟨k, off, rfl, Nat.lt_of_lt_of_le hk hf.size, fun j u hu => (World.cell?_of_block (w := w) ?_).trans (hc j u hu)⟩
      refine hf.block k hk (row_bk_ne hc (by rw [← ht.len]; exact hn) h.bk hvi) fun e => ?_
      have := (h.own.lt k e).1
      have := hlow k off rfl
      omega
  · refine ⟨Nat.le_trans ht.tab.1 hf.size, fun i hi => (World.cell?_of_block (w := w) ?_).trans (ht.tab.2 i hi)⟩
    refine hf.block 2 (by have := ht.tab.1; omega) (tab_bk_ne ht.tab h.bk).symm fun e => ?_
    have := (h.own.lt 2 e).1
    have := h.tab
    omega

def chargeL (nm : ByteArray) (brs : List (Int × Int)) (p : Int) (L : List Ent) (a s t : Int) : List Ent :=
  if (chargeR nm brs p (lookL L) a s t).2 = 0 then putL L a (t / p) (sumM p (lookL L) a t + s) else L
theorem lookL_chargeL (nm : ByteArray) (brs : List (Int × Int)) (p : Int) (L : List Ent) (a s t : Int) : lookL (chargeL nm brs p L a s t) = chargeM nm brs p (lookL L) a s t := by
  unfold chargeL chargeM
  split
  · exact lookL_putL _ _ _ _
  · rfl
theorem chargeL_length (nm : ByteArray) (brs : List (Int × Int)) (p : Int) (L : List Ent) (a s t : Int) : (chargeL nm brs p L a s t).length ≤ L.length + 1 := by
  unfold chargeL putL
  split
  · split <;> simp
  · omega
def RChargePost (w : World) (B g : Nat) (nm : ByteArray) (A : Option Addr) (n c : Nat) (brs : List (Int × Int)) (p : Int) (L : List Ent) (v : Value) (a s t : Int) (e : Ending) (w' : World) : Prop :=
  e = .returned (.tuple #[.int .i64 (chargeR nm brs p (lookL L) a s t).1, .int .i64 (chargeR nm brs p (lookL L) a s t).2]) ∧ ∃ v', RMeterAt w' B g nm A n c brs p (chargeL nm brs p L a s t) v' ∧ Far w w' g v ∧ (v'.ownBlock = v.ownBlock ∨ ∃ k, v'.ownBlock = some k ∧ w.heap.size ≤ k)
end

end Go.Proofs.YtlgedljhheficaaGreatDoor

namespace Go.Proofs.YtlgedljhheficaaGreatDoor
open Go.RowKit

theorem info82 : (Tryz.prog.info? 82).map (fun i => (i.zero, i.size, i.bytes)) = some (some (.agg #[.int .i64 0, .int .i64 0, .int .i64 0]), 3, 24) := by kernel_rfl

section
variable {w w' : World} {B g : Nat} {nm : ByteArray} {A : Option Addr} {n c : Nat} {brs : List (Int × Int)} {p : Int} {L : List Ent} {v : Value}

theorem chargeR_no {er : Int × Int} {a s t : Int} (h : RMeterAt w B g nm A n c brs p L v) (he : chargeR nm brs p (lookL L) a s t = er) (h0 : er.2 ≠ 0) (hb : Below w.heap.size w w') :
    RChargePost w B g nm A n c brs p L v a s t (.returned (.tuple #[.int .i64 er.1, .int .i64 er.2])) w' := by
  refine ⟨by rw [he], v, ?_, Far.of_below _ _ hb, .inl rfl⟩
  rw [chargeL, he, if_neg h0]
  exact h.below hb

/-- The entry is written behind an append. -/
theorem rcharge_new {W w3 : World} {tmp : Obj} {a s t : Int} {g' cap : Nat} {er : Int} {G : World} (h : RMeterAt G B g nm A n c brs p L v) (hGW : Below G.heap.size G W) (hi : ¬ idxL L a < L.length)
    (he : chargeR nm brs p (lookL L) a s t = (er, 0)) (hs : 0 ≤ t / p ∧ t / p ≤ 1099511627776 ∧ 0 ≤ sumM p (lookL L) a t + s ∧ sumM p (lookL L) a t + s ≤ 1099511627776)
    (hown : w3.ownsRow B 82 3 (.slice (some ⟨g', 0, none⟩) (L.length + 1) cap) (L.length + 1) (ecells L ++ [.int .i64 a, .int .i64 (t / p), .int .i64 (sumM p (lookL L) a t + s)])) (hgr : (W.alloc tmp).grownBy w3 v.ownBlock) (hat : v.ownBlock = some g' ∨ g' = W.heap.size + 1) :
    (w3.cell? ⟨g, 3, none⟩ = some v ∧ w3.frozen? ⟨g, 3, none⟩ = false ∧ g < w3.heap.size) ∧
    RChargePost G B g nm A n c brs p L v a s t (.returned (.tuple #[.int .i64 er, .int .i64 0])) (w3.setCell ⟨g, 3, none⟩ (.slice (some ⟨g', 0, none⟩) (L.length + 1) cap)) := by
  have hW := h.below hGW
  have hne := own_bk_ne hW.own hW.bk (by decide)
  have k3 : Bk w3 g 79 [.string nm, .slice A n c, .int .i64 p, v] := (hW.bk.alloc tmp).grown hgr (fun e => hne e.symm)
  have hlt := h.bk.lt
  have hsz : G.heap.size ≤ w3.heap.size := by have := hgr.size; have := hGW.size; simp at *; omega
  refine ⟨⟨k3.cell 3, k3.frozen 3, k3.lt⟩, by rw [he], .slice (some ⟨g', 0, none⟩) (L.length + 1) cap, ?_, ?_, ?_⟩
  · have hfar : Far G (w3.setCell ⟨g, 3, none⟩ (.slice (some ⟨g', 0, none⟩) (L.length + 1) cap)) g v := by
      refine ⟨hgr.os.trans hGW.os, hgr.tape.trans hGW.tape, hgr.output.trans hGW.output, by simpa [World.setCell] using hsz, fun i hi hig hv => ?_⟩
      rw [Below.heap_setCell _ _ _ _ (by simpa using hig), hgr.block i (by have := hGW.size; simp; omega) (fun e => hv e.symm), Below.heap_alloc _ _ _ (by have := hGW.size; omega)]
      exact hGW.block i hi
    have hL : chargeL nm brs p L a s t = L ++ [(a, t / p, sumM p (lookL L) a t + s)] := by
      rw [chargeL, he, if_pos rfl, putL, if_neg hi]
    have hg3 : g' ≠ g := fun e => by
      rcases hat with h1 | h1
      · rw [e] at h1; exact hne h1
      · have := hGW.size; omega
    have hwf : ∀ x y, lookL (chargeL nm brs p L a s t) x = some y → 0 ≤ y.1 ∧ y.1 ≤ 1099511627776 ∧ 0 ≤ y.2 ∧ y.2 ≤ 1099511627776 := fun x y hx => by
      rw [lookL_chargeL, chargeM, he, if_pos rfl] at hx
      unfold upd at hx
      split at hx
      · cases hx
        exact hs
      · exact h.wf _ _ hx
    refine ⟨(k3.set 3 _), ?_, h.tax.far h.ne h.low h hfar, h.name, h.low, h.tab, h.p0, h.p1, hwf, h.ne⟩
    rw [hL, ecells_snoc, List.length_append]
    exact hown.kept (grown_set w3 g 3 _) (.inr (by simpa [Value.ownBlock] using hg3))
  · refine ⟨hgr.os.trans hGW.os, hgr.tape.trans hGW.tape, hgr.output.trans hGW.output, by simpa [World.setCell] using hsz, fun i hi hig hv => ?_⟩
    rw [Below.heap_setCell _ _ _ _ (by simpa using hig), hgr.block i (by have := hGW.size; simp; omega) (fun e => hv e.symm), Below.heap_alloc _ _ _ (by have := hGW.size; omega)]
    exact hGW.block i hi
  · rcases hat with h1 | h1
    · left; rw [h1]; rfl
    · right; exact ⟨g', rfl, by have := hGW.size; omega⟩

/-- The entry is written in its place. -/
theorem rcharge_old {W : World} {a s t : Int} {r cap : Nat} {er : Int} {G : World} {j : Nat} (h : RMeterAt G B g nm A n c brs p L (.slice (some ⟨r, 0, none⟩) L.length cap)) (hGW : Below G.heap.size G W) (hj : j = idxL L a) (hi : idxL L a < L.length)
    (he : chargeR nm brs p (lookL L) a s t = (er, 0)) (hs : 0 ≤ t / p ∧ t / p ≤ 1099511627776 ∧ 0 ≤ sumM p (lookL L) a t + s ∧ sumM p (lookL L) a t + s ≤ 1099511627776) :
    RChargePost G B g nm A n c brs p L (.slice (some ⟨r, 0, none⟩) L.length cap) a s t (.returned (.tuple #[.int .i64 er, .int .i64 0])) (((W.setCell ⟨r, j * 3, none⟩ (.int .i64 a)).setCell ⟨r, j * 3 + 1, none⟩ (.int .i64 (t / p))).setCell ⟨r, j * 3 + 2, none⟩ (.int .i64 (sumM p (lookL L) a t + s))) := by
  have hW := h.below hGW
  have hne : r ≠ g := fun e => own_bk_ne hW.own hW.bk (by decide) (by rw [e]; rfl)
  have hlt := h.bk.lt
  have hfar : Far G (((W.setCell ⟨r, j * 3, none⟩ (.int .i64 a)).setCell ⟨r, j * 3 + 1, none⟩ (.int .i64 (t / p))).setCell ⟨r, j * 3 + 2, none⟩ (.int .i64 (sumM p (lookL L) a t + s))) g (.slice (some ⟨r, 0, none⟩) L.length cap) := by
    refine ⟨hGW.os, hGW.tape, hGW.output, by simpa [World.setCell] using hGW.size, fun i hi hig hv => ?_⟩
    have hir : i ≠ r := fun e => hv (by rw [e]; rfl)
    rw [Below.heap_setCell _ _ _ _ (by simpa using hir), Below.heap_setCell _ _ _ _ (by simpa using hir), Below.heap_setCell _ _ _ _ (by simpa using hir)]
    exact hGW.block i hi
  have hL : chargeL nm brs p L a s t = L.set j (a, t / p, sumM p (lookL L) a t + s) := by
    rw [chargeL, he, if_pos rfl, putL, if_pos hi, hj]
  have hwf : ∀ x y, lookL (chargeL nm brs p L a s t) x = some y → 0 ≤ y.1 ∧ y.1 ≤ 1099511627776 ∧ 0 ≤ y.2 ∧ y.2 ≤ 1099511627776 := fun x y hx => by
    rw [lookL_chargeL, chargeM, he, if_pos rfl] at hx
    unfold upd at hx
    split at hx
    · cases hx
      exact hs
    · exact h.wf _ _ hx
  refine ⟨by rw [he], .slice (some ⟨r, 0, none⟩) L.length cap, ⟨?_, ?_, h.tax.far h.ne h.low h hfar, h.name, h.low, h.tab, h.p0, h.p1, hwf, h.ne⟩, hfar, .inl rfl⟩
  · exact ((hW.bk.far (by simpa using hne.symm) _).far (by simpa using hne.symm) _).far (by simpa using hne.symm) _
  · rw [hL, ecells_set, List.length_set]
    exact ((((hW.own.stored _ _).1).stored _ _).1.stored _ _).1

set_option maxRecDepth 100000 in
set_option maxHeartbeats 2000000 in
theorem rcharge_any (a s t : Int) (h : RMeterAt w B g nm A n c brs p L v) (ha : In64 a) (ht : In64 t) (hl : L.length ≤ 1000) (hB : B ≤ w.heap.size) :
    Calls Tryz.prog 30 #[.pointer (some ⟨g, 0, none⟩), .int .i64 a, .int .i64 s, .int .i64 t] w (RChargePost w B g nm A n c brs p L v a s t) := by
  obtain ⟨i0, hinf, hz0, hz1, hz2⟩ := info_parts info82
  have H := Lib.hid h
  have c0 := h.c0
  have c1 := h.c1
  have c2 := h.c2
  have c3 := h.c3
  have p0 := h.p0
  have p1 := h.p1
  have hlt := h.bk.lt
  obtain ⟨a0, a1⟩ := ha
  obtain ⟨t0, t1⟩ := ht
  clear h
  rcases (show argsB a t = false ∨ argsB a t = true by cases argsB a t <;> simp) with hB | hB
  · have he : chargeR nm brs p (lookL L) a s t = (0, 1) := by rw [chargeR, if_neg (by rw [hB]; simp)]
    have F := Lib.hid (chargeR_no H.out he (by simp) (Below.refl _ _))
    clear he
    have hor : a < 1 ∨ (1 ≤ a ∧ 1073741824 < a) ∨ (1 ≤ a ∧ a ≤ 1073741824 ∧ t < 0) ∨ (1 ≤ a ∧ a ≤ 1073741824 ∧ 0 ≤ t ∧ 1099511627776 < t) := by
      simp [argsB] at hB
      omega
    clear hB
    rcases hor with h1 | ⟨h1, h2⟩ | ⟨h1, h2, h3⟩ | ⟨h1, h2, h3, h4⟩
    all_goals
      go_enter Tryz.func30, Tryz.ntmps30
      go_wp2
      go_ret2
      exact F.out
  · have hb4 : 1 ≤ a ∧ a ≤ 1073741824 ∧ 0 ≤ t ∧ t ≤ 1099511627776 := by
      simp [argsB] at hB
      omega
    obtain ⟨h1, h2, h3, h4⟩ := hb4
    have e0 : (p == 0) = false := by simp; omega
    have e1 : ¬ p = 0 := by omega
    have e2 : t.tdiv p = t / p := Int.tdiv_eq_ediv_of_nonneg (by omega)
    have hd := div_bd h3 p0
    have e3 : IntKind.i64.wrap (t / p) = t / p := IntWalk.i64_in _ (by omega)
    have KF := Lib.hid (find_any a H.out (by omega))
    have HS := Lib.hid (fun q : Nat => rsum_any a t (H.out.below (bel_drewN (Below.refl _ w) q)) (by omega) ⟨by omega, by omega⟩)
    have Hch : Hid (chargeR nm brs p (lookL L) a s t = if t / p < ((lookL L a).getD (0, 0)).1 then (0, 14)
      else if (moreR nm brs (sumM p (lookL L) a t) s).2 = 0 then moreR nm brs (sumM p (lookL L) a t) s else (0, (moreR nm brs (sumM p (lookL L) a t) s).2)) := by
      show chargeR nm brs p (lookL L) a s t = _
      rw [chargeR, if_pos hB]
    clear hB
    by_cases hi : idxL L a < L.length
    · obtain ⟨A', c', rfl, hfm⟩ := H.out.form
      obtain ⟨r, rfl, hr, hcl⟩ := hfm (by omega)
      have hfi : findI L a = (idxL L a : Int) := by unfold findI; rw [if_pos hi]
      have hlk : lookL L a = some (entAt L (idxL L a)).2 := by unfold lookL; rw [if_pos hi]
      have hV := H.out.wf _ _ hlk
      obtain ⟨_, k1e, _⟩ := ecells_at L (idxL L a) hi
      have k1 := hcl _ _ k1e
      rw [hfi] at KF
      rw [hlk] at Hch
      have hsmb : 0 ≤ sumM p (lookL L) a t ∧ sumM p (lookL L) a t ≤ 1099511627776 := by
        unfold sumM
        rw [hlk]
        dsimp only
        split <;> omega
      obtain ⟨V1, hV1⟩ : ∃ V1, (entAt L (idxL L a)).2.1 = V1 := ⟨_, rfl⟩
      rw [hV1] at k1 hV
      change Hid (chargeR nm brs p (lookL L) a s t = if t / p < (entAt L (idxL L a)).2.1 then (0, 14) else _) at Hch
      rw [hV1] at Hch
      obtain ⟨j, hj⟩ : ∃ j, j = idxL L a := ⟨_, rfl⟩
      have hjl : j < L.length := by rw [hj]; exact hi
      rw [← hj] at k1 KF
      have Hj := Lib.hid hj
      have Hi := Lib.hid hi
      have j0 : decide ((0 : Int) ≤ (j : Int)) = true := by simp
      have j1 : decide ((j : Int) < 0) = false := by simp
      clear hfi hlk hi hfm hcl k1e hV1 hj
      obtain ⟨sm, hsm'⟩ : ∃ sm, sumM p (lookL L) a t = sm := ⟨_, rfl⟩
      have Hsm := Lib.hid hsm'
      rw [hsm'] at Hch HS hsmb
      clear hsm'
      obtain ⟨T, hT⟩ : ∃ T, t / p = T := ⟨_, rfl⟩
      have HT := Lib.hid hT
      rw [hT] at e2 e3 hd Hch
      clear hT
      obtain ⟨N, hNL⟩ : ∃ N, L.length = N := ⟨_, rfl⟩
      have HNL := Lib.hid hNL
      rw [hNL] at c3 hjl hl
      by_cases hlate : T < V1
      · have he : chargeR nm brs p (lookL L) a s t = (0, 14) := by rw [Hch.out, if_pos hlate]
        have F := Lib.hid (fun q : Nat => chargeR_no H.out he (by simp) (bel_drewN (Below.refl _ w) q))
        have hlt2 : decide (T < V1) = true := by simpa using hlate
        clear he Hch hNL
        go_enter Tryz.func30, Tryz.ntmps30
        go_wp2_with fail
        (with_reducible refine KF.out.mono ?_)
        rintro e w' ⟨rfl, rfl⟩
        go_wp2
        go_quiet (fail)
        go_wp2
        go_ret2
        exact F.out _
      rw [if_neg hlate] at Hch
      have hlt2 : decide (T < V1) = false := by simpa using hlate
      clear hNL
      rw [HNL.out]
      go_enter Tryz.func30, Tryz.ntmps30
      go_wp2_with fail
      (with_reducible refine KF.out.mono ?_)
      rintro e w' ⟨rfl, rfl⟩
      go_wp2
      go_quiet (fail)
      clear k1
      go_wp2_with fail
      (with_reducible refine (HS.out _).mono ?_)
      rintro e w1 ⟨rfl, hb1⟩
      have hb1 : Below w.heap.size w w1 := ⟨hb1.os, hb1.tape, hb1.output, hb1.size, hb1.block⟩
      have H1 := Lib.hid (H.out.below hb1)
      have B1 := Lib.hid hb1
      clear c0 c1 c2 c3 hb1
      have c0 := H1.out.c0
      have c1 := H1.out.c1
      go_wp2_with fail
      (with_reducible refine (rMore_any c sm s H1.out.tax H1.out.name).mono ?_)
      rintro e w2 ⟨rfl, hb2⟩
      have H2 := Lib.hid (H1.out.below hb2)
      have B2 := Lib.hid (B1.out.trans (hb2.mono B1.out.size))
      clear c0 c1 hb2
      have c2 := H2.out.c2
      rcases moreR_cases nm brs sm s with ⟨hz, m0, m1, m2, m3, m4⟩ | hz
      · have he : chargeR nm brs p (lookL L) a s t = ((moreR nm brs sm s).1, 0) := by rw [Hch.out, if_pos hz, ← hz]
        rw [hz]
        generalize (moreR nm brs sm s).1 = mm at *
        clear hz Hch
        have hw1 : IntKind.i64.wrap (sm + s) = sm + s := IntWalk.i64_in _ (by omega)
        have hjn : ¬ (j : Int) < 0 := by omega
        go_wp2_with fail
        have hb3 : Below w2.heap.size w2 (w2.alloc (.cells #[.int .i64 a, .int .i64 T, .int .i64 (sm + s)] 82)) := (Below.refl _ _).alloc (Nat.le_refl _) _
        have B3 := Lib.hid (B2.out.trans (hb3.mono B2.out.size))
        have H3 := Lib.hid (H2.out.below hb3)
        have Hx : Hid (Bk (w2.alloc (.cells #[.int .i64 a, .int .i64 T, .int .i64 (sm + s)] 82)) w2.heap.size 82 [.int .i64 a, .int .i64 T, .int .i64 (sm + s)]) := Bk.new w2 82 [.int .i64 a, .int .i64 T, .int .i64 (sm + s)]
        generalize w2.alloc (.cells #[.int .i64 a, .int .i64 T, .int .i64 (sm + s)] 82) = W at *
        generalize w2.heap.size = gx at *
        clear hb3 c2
        have c3 : W.cell? ⟨g, 3, none⟩ = some (.slice (some ⟨r, 0, none⟩) N c') := by rw [← HNL.out]; exact H3.out.c3
        have x0 : W.cell? ⟨gx, 0, none⟩ = some (.int .i64 a) := Hx.out.cell 0
        have x1 : W.cell? ⟨gx, 1, none⟩ = some (.int .i64 T) := Hx.out.cell 1
        have x2 : W.cell? ⟨gx, 2, none⟩ = some (.int .i64 (sm + s)) := Hx.out.cell 2
        have xl := Hx.out.lt
        have hgl := H3.out.bk.lt
        have hrl : r < W.heap.size := (H3.out.own.lt r rfl).2
        have fr := fun k => H3.out.own.frozenAt k
        have q0 := (H3.out.own.cellAt (j * 3) (by rw [HNL.out]; omega)).trans (ecells_at L j (by rw [HNL.out]; omega)).1
        have q1 := (H3.out.own.cellAt (j * 3 + 1) (by rw [HNL.out]; omega)).trans (ecells_at L j (by rw [HNL.out]; omega)).2.1
        have q2 := (H3.out.own.cellAt (j * 3 + 2) (by rw [HNL.out]; omega)).trans (ecells_at L j (by rw [HNL.out]; omega)).2.2
        have f0 := fr (j * 3)
        have f1 := fr (j * 3 + 1)
        have f2 := fr (j * 3 + 2)
        have HP := Lib.hid (rcharge_old (a := a) (s := s) (t := t) (W := W.drew) H.out B3.out.drew Hj.out Hi.out he (by rw [HT.out, Hsm.out]; omega))
        rw [HT.out, Hsm.out, HNL.out] at HP
        generalize (entAt L j).1 = o0 at q0
        generalize (entAt L j).2.1 = o1 at q1
        generalize (entAt L j).2.2 = o2 at q2
        clear B3 H3 Hx he H Hi HT Hsm H1 H2 B1 B2 fr Hj
        go_region
        all_goals go_wp2
        all_goals go_ret2
        all_goals exact HP.out
      · have hne : ¬ (moreR nm brs sm s).2 = 0 := by simpa using hz
        have he : chargeR nm brs p (lookL L) a s t = (0, (moreR nm brs sm s).2) := by rw [Hch.out, if_neg hne]
        have F := Lib.hid (chargeR_no H.out he hne B2.out)
        rw [HNL.out] at F
        clear he hne Hch
        generalize (moreR nm brs sm s).2 = me at *
        generalize (moreR nm brs sm s).1 = mm at *
        go_wp2
        go_ret2
        exact F.out
    · have hfi : findI L a = -1 := by unfold findI; rw [if_neg hi]
      have hlk : lookL L a = none := by unfold lookL; rw [if_neg hi]
      have Hi := Lib.hid hi
      rw [hfi] at KF
      rw [hlk] at Hch
      have hnl : ¬ t / p < ((none : Option (Int × Int)).getD (0, 0)).1 := by simp; omega
      rw [if_neg hnl] at Hch
      clear hnl hfi hlk hi
      obtain ⟨sm, hsm'⟩ : ∃ sm, sumM p (lookL L) a t = sm := ⟨_, rfl⟩
      have Hsm := Lib.hid hsm'
      rw [hsm'] at Hch HS
      clear hsm'
      obtain ⟨T, hT⟩ : ∃ T, t / p = T := ⟨_, rfl⟩
      have HT := Lib.hid hT
      rw [hT] at e2 e3 hd
      clear hT
      go_enter Tryz.func30, Tryz.ntmps30
      go_wp2_with fail
      (with_reducible refine KF.out.mono ?_)
      rintro e w' ⟨rfl, rfl⟩
      go_wp2
      go_quiet (fail)
      go_wp2_with fail
      (with_reducible refine (HS.out _).mono ?_)
      rintro e w1 ⟨rfl, hb1⟩
      have hb1 : Below w.heap.size w w1 := ⟨hb1.os, hb1.tape, hb1.output, hb1.size, hb1.block⟩
      have H1 := Lib.hid (H.out.below hb1)
      have B1 := Lib.hid hb1
      clear c0 c1 c2 c3 hb1
      have c0 := H1.out.c0
      have c1 := H1.out.c1
      go_wp2_with fail
      (with_reducible refine (rMore_any c sm s H1.out.tax H1.out.name).mono ?_)
      rintro e w2 ⟨rfl, hb2⟩
      have H2 := Lib.hid (H1.out.below hb2)
      have B2 := Lib.hid (B1.out.trans (hb2.mono B1.out.size))
      clear c0 c1 hb2
      have c2 := H2.out.c2
      have c3 := H2.out.c3
      rcases moreR_cases nm brs sm s with ⟨hz, m0, m1, m2, m3, m4⟩ | hz
      · have he : chargeR nm brs p (lookL L) a s t = ((moreR nm brs sm s).1, 0) := by rw [Hch.out, if_pos hz, ← hz]
        rw [hz]
        generalize (moreR nm brs sm s).1 = mm at *
        clear hz Hch
        have hw1 : IntKind.i64.wrap (sm + s) = sm + s := IntWalk.i64_in _ (by omega)
        have hvs : ∃ A' c', v = .slice A' L.length c' := by obtain ⟨A', c', h, _⟩ := H.out.form; exact ⟨A', c', h⟩
        obtain ⟨A', c', rfl⟩ := hvs
        go_wp2_with fail
        have hb3 : Below w2.heap.size w2 (w2.alloc (.cells #[.int .i64 a, .int .i64 T, .int .i64 (sm + s)] 82)) := (Below.refl _ _).alloc (Nat.le_refl _) _
        have B3 := Lib.hid (B2.out.trans (hb3.mono B2.out.size))
        have H3 := Lib.hid (H2.out.below hb3)
        have Hx : Hid (Bk (w2.alloc (.cells #[.int .i64 a, .int .i64 T, .int .i64 (sm + s)] 82)) w2.heap.size 82 [.int .i64 a, .int .i64 T, .int .i64 (sm + s)]) := Bk.new w2 82 [.int .i64 a, .int .i64 T, .int .i64 (sm + s)]
        generalize w2.alloc (.cells #[.int .i64 a, .int .i64 T, .int .i64 (sm + s)] 82) = W at *
        generalize w2.heap.size = gx at *
        clear hb3 c2 c3
        have c3 : W.cell? ⟨g, 3, none⟩ = some (.slice A' L.length c') := H3.out.c3
        have x0 : W.cell? ⟨gx, 0, none⟩ = some (.int .i64 a) := Hx.out.cell 0
        have x1 : W.cell? ⟨gx, 1, none⟩ = some (.int .i64 T) := Hx.out.cell 1
        have x2 : W.cell? ⟨gx, 2, none⟩ = some (.int .i64 (sm + s)) := Hx.out.cell 2
        have xl := Hx.out.lt
        have hgl := H3.out.bk.lt
        have B4 : Below w.heap.size w W.drew := B3.out.drew
        have hVB : B ≤ W.heap.size := by have := B4.size; simp at this; omega
        have OWN : Hid ((W.drew.alloc (.cells #[.int .i64 a, .int .i64 T, .int .i64 (sm + s)] 82)).ownsRow B 82 3 (.slice A' L.length c') L.length (ecells L)) := (H3.out.own.drew).alloc _
        have C1 : Hid (∀ j u, ([.int .i64 a, .int .i64 T, .int .i64 (sm + s)] : List Value)[j]? = some u → (W.drew.alloc (.cells #[.int .i64 a, .int .i64 T, .int .i64 (sm + s)] 82)).cell? ((⟨W.heap.size, 0, none⟩ : Addr).add j) = some u) := by
          intro j u hj
          have hn := Bk.new W.drew 82 [.int .i64 a, .int .i64 T, .int .i64 (sm + s)]
          match j, hj with
          | 0, hj => simp at hj; subst hj; exact hn.cell 0
          | 1, hj => simp at hj; subst hj; simp [Addr.add]; exact hn.cell 1
          | 2, hj => simp at hj; subst hj; simp [Addr.add]; exact hn.cell 2
          | j + 3, hj => simp at hj
        have C2 : Hid (∀ u ∈ ([.int .i64 a, .int .i64 T, .int .i64 (sm + s)] : List Value), u.oneCell' = true) := by
          intro u hu
          simp only [List.mem_cons, List.not_mem_nil, or_false] at hu
          rcases hu with rfl | rfl | rfl <;> rfl
        have C3 : Hid (L.length + 1 ≤ maxLen) := by show L.length + 1 ≤ maxLen; unfold maxLen; omega
        have C4 : Hid ((L.length + 1) * 24 ≤ 140737488355328) := by show (L.length + 1) * 24 ≤ 140737488355328; omega
        have C5 : Hid (B ≤ (W.drew.alloc (.cells #[.int .i64 a, .int .i64 T, .int .i64 (sm + s)] 82)).heap.size) := by show B ≤ _; simp; omega
        have C6 : Hid ((W.drew.alloc (.cells #[.int .i64 a, .int .i64 T, .int .i64 (sm + s)] 82)).heap.size = W.heap.size + 1) := by show _ = _; simp
        have FIN : Hid (∀ g' cap w3, World.ownsRow w3 B 82 3 (.slice (some ⟨g', 0, none⟩) (L.length + 1) cap) (L.length + 1) (ecells L ++ [.int .i64 a, .int .i64 T, .int .i64 (sm + s)]) → (W.drew.alloc (.cells #[.int .i64 a, .int .i64 T, .int .i64 (sm + s)] 82)).grownBy w3 (Value.slice A' L.length c').ownBlock → ((Value.slice A' L.length c').ownBlock = some g' ∨ g' = W.heap.size + 1) →
          (w3.cell? ⟨g, 3, none⟩ = some (.slice A' L.length c') ∧ w3.frozen? ⟨g, 3, none⟩ = false ∧ g < w3.heap.size) ∧ RChargePost w B g nm A n c brs p L (.slice A' L.length c') a s t (.returned (.tuple #[.int .i64 mm, .int .i64 0])) (w3.setCell ⟨g, 3, none⟩ (.slice (some ⟨g', 0, none⟩) (L.length + 1) cap))) :=
          fun g' cap w3 hown hgr hat => rcharge_new (a := a) (s := s) (t := t) H.out B4 Hi.out he (by rw [HT.out, Hsm.out]; omega) (by rw [HT.out, Hsm.out]; exact hown) hgr hat
        clear B3 H3 Hx B4 he H Hi HT Hsm H1 H2 B1 B2
        go_region_law (refine step_append_lies _ rfl (.tmp 85) (.tmp 87) 77 rfl B 82 i0 (.agg #[.int .i64 0, .int .i64 0, .int .i64 0]) 3 24 Tryz.underlying77 hinf hz0 hz1 hz2 rfl (by decide) _ L.length (ecells L) rfl OWN.out ⟨W.heap.size, 0, none⟩ 1 1 [.int .i64 a, .int .i64 T, .int .i64 (sm + s)] rfl rfl C1.out C2.out (by omega) C3.out C4.out C5.out (W.heap.size + 1) C6.out ?_; intro g' cap w3 hown hgr hat hlt3; obtain ⟨⟨k3, f3, l3⟩, hpost⟩ := FIN.out _ _ _ hown hgr hat; have HP := Lib.hid hpost; clear hpost hown hgr hat)
        all_goals go_wp2
        all_goals go_ret2
        all_goals exact HP.out
      · have hne : ¬ (moreR nm brs sm s).2 = 0 := by simpa using hz
        have he : chargeR nm brs p (lookL L) a s t = (0, (moreR nm brs sm s).2) := by rw [Hch.out, if_neg hne]
        have F := Lib.hid (chargeR_no H.out he hne B2.out)
        clear he hne Hch
        generalize (moreR nm brs sm s).2 = me at *
        generalize (moreR nm brs sm s).1 = mm at *
        go_wp2
        go_ret2
        exact F.out
end

end Go.Proofs.YtlgedljhheficaaGreatDoor

namespace Go.Proofs.YtlgedljhheficaaGreatDoor
open Go.RowKit

/-- The error of New. -/
def newE (nm : ByteArray) (brs : List (Int × Int)) (p : Int) : Int := if validE nm brs = 0 then (if decide (1 ≤ p) && decide (p ≤ 1099511627776) then 0 else 1) else validE nm brs
theorem newE_cases (nm : ByteArray) (brs : List (Int × Int)) (p : Int) : (newE nm brs p = 0 ∧ validE nm brs = 0 ∧ 1 ≤ p ∧ p ≤ 1099511627776) ∨ ((newE nm brs p != 0) = true ∧ ((validE nm brs = 0 ∧ newE nm brs p = 1 ∧ (p < 1 ∨ (1 ≤ p ∧ 1099511627776 < p))) ∨ ((validE nm brs != 0) = true ∧ newE nm brs p = validE nm brs))) := by
  unfold newE
  by_cases hv : validE nm brs = 0
  · rw [if_pos hv]
    by_cases h1 : 1 ≤ p
    · by_cases h2 : p ≤ 1099511627776
      · left; simp [h1, h2, hv]
      · right; simp [h1, h2, hv]; omega
    · right; simp [h1, hv]; omega
  · right
    rw [if_neg hv]
    exact ⟨by simpa using hv, .inr ⟨by simpa using hv, rfl⟩⟩

set_option maxRecDepth 100000 in
set_option maxHeartbeats 1000000 in
theorem New_bad {w : World} {nm : ByteArray} {A : Option Addr} {n : Nat} (c : Nat) {brs : List (Int × Int)} (p : Int) (h : TaxV w nm A n brs) (hE : (newE nm brs p != 0) = true) :
    Calls Tryz.prog 25 #[.agg #[.string nm, .slice A n c], .int .i64 p] w fun e w' => e = .returned (.tuple #[.pointer none, .int .i64 (newE nm brs p)]) ∧ Below w.heap.size w w' := by
  have hb0 : Below w.heap.size w (w.alloc (.cells #[.string nm, .slice A n c] 25)) := (Below.refl _ _).alloc (Nat.le_refl _) _
  have H := Lib.hid h
  clear h
  rcases newE_cases nm brs p with ⟨h0, _⟩ | ⟨_, ⟨hv, h1, hp⟩ | ⟨hv, h1⟩⟩
  · rw [h0] at hE; cases hE
  · rw [h1]
    clear hE h1
    rcases hp with hp | ⟨hp, hq⟩
    all_goals
      go_enter Tryz.func25, Tryz.ntmps25
      go_wp2_with fail
      refine (valid_tax c (H.out.below hb0)).mono ?_
      rintro e w1 ⟨rfl, hb1⟩
      have G1 : Below w.heap.size w w1 := hb0.trans (hb1.mono (by simp))
      rw [hv]
      go_wp2
      go_ret2
      exact ⟨rfl, G1⟩
  · rw [h1]
    clear hE h1
    have K := Lib.hid (valid_tax c (H.out.below hb0))
    clear H
    generalize validE nm brs = E at *
    go_enter Tryz.func25, Tryz.ntmps25
    go_wp2_with fail
    refine K.out.mono ?_
    rintro e w1 ⟨rfl, hb1⟩
    have G1 : Below w.heap.size w w1 := hb0.trans (hb1.mono (by simp))
    go_wp2
    go_ret2
    exact ⟨rfl, G1⟩

/-- What the reference's New leaves. -/
def RNewPost (w : World) (nm : ByteArray) (A : Option Addr) (n c : Nat) (brs : List (Int × Int)) (p : Int) (e : Ending) (w' : World) : Prop :=
  ∃ g, e = .returned (.tuple #[.pointer (some ⟨g, 0, none⟩), .int .i64 (newE nm brs p)]) ∧ Bk w' g 79 [.string nm, .slice A n c, .int .i64 p, .slice none 0 0] ∧ w.heap.size ≤ g ∧ Below w.heap.size w w'

set_option maxRecDepth 100000 in
set_option maxHeartbeats 1000000 in
theorem rNew_any {w : World} {nm : ByteArray} {A : Option Addr} {n : Nat} (c : Nat) {brs : List (Int × Int)} (p : Int) (h : TaxV w nm A n brs) (hnm : Nm nm) :
    Calls Tryz.prog 29 #[.agg #[.string nm, .slice A n c], .int .i64 p] w (RNewPost w nm A n c brs p) := by
  have hb0 : Below w.heap.size w (w.alloc (.cells #[.string nm, .slice A n c] 25)) := (Below.refl _ _).alloc (Nat.le_refl _) _
  have H := Lib.hid h
  have HN := Lib.hid hnm
  clear h hnm
  go_enter Tryz.func29, Tryz.ntmps29
  go_wp2_with fail
  refine (rvalid_tax c (H.out.below hb0) HN.out).mono ?_
  rintro e w1 ⟨rfl, hb1⟩
  have G1 : Below w.heap.size w w1 := hb0.trans (hb1.mono (by simp))
  have c0 : w1.cell? ⟨w.heap.size, 0, none⟩ = some (.string nm) := (hb1.cell (p := ⟨w.heap.size, 0, none⟩) (by simp)).trans (by simp)
  have c1 : w1.cell? ⟨w.heap.size, 1, none⟩ = some (.slice A n c) := (hb1.cell (p := ⟨w.heap.size, 1, none⟩) (by simp)).trans (by simp)
  have l1 : w.heap.size < w1.heap.size := by have := hb1.size; simp at this; omega
  have HP : Hid (∀ E : Int, newE nm brs p = E → RNewPost w nm A n c brs p (.returned (.tuple #[.pointer (some ⟨w1.heap.size, 0, none⟩), .int .i64 E])) (w1.alloc (.cells #[.string nm, .slice A n c, .int .i64 p, .slice none 0 0] 79))) := by
    intro E hE
    exact ⟨w1.heap.size, by rw [hE], Bk.new w1 79 _, G1.size, G1.alloc G1.size _⟩
  clear hb1 hb0 H HN
  rcases newE_cases nm brs p with ⟨h0, hv, p0, p1⟩ | ⟨_, ⟨hv, h1, hp⟩ | ⟨hv, h1⟩⟩
  · have F := Lib.hid (HP.out _ h0)
    rw [hv]
    clear HP h0 hv
    go_wp2
    go_ret2
    exact F.out
  · have F := Lib.hid (HP.out _ h1)
    rw [hv]
    clear HP h1 hv
    rcases hp with hp | ⟨hp, hq⟩
    · go_wp2
      go_ret2
      exact F.out
    · go_wp2
      go_ret2
      exact F.out
  · have F := Lib.hid (HP.out _ h1)
    have hv2 : (validE nm brs == 0) = false := by simpa using hv
    clear HP h1
    generalize validE nm brs = E at *
    go_wp2
    go_ret2
    exact F.out

end Go.Proofs.YtlgedljhheficaaGreatDoor

namespace Go.Proofs.YtlgedljhheficaaGreatDoor
open Go.RowKit

section
variable {w w' : World} {B g : Nat} {nm : ByteArray} {A : Option Addr} {n c : Nat} {brs : List (Int × Int)} {p : Int} {L : List Ent} {v : Value}

def RCopyPost (w : World) (B : Nat) (nm : ByteArray) (A : Option Addr) (n c : Nat) (brs : List (Int × Int)) (p : Int) (L : List Ent) (e : Ending) (w' : World) : Prop :=
  ∃ g v, e = .returned (.pointer (some ⟨g, 0, none⟩)) ∧ RMeterAt w' B g nm A n c brs p L v ∧ w.heap.size ≤ g ∧ (∀ k, v.ownBlock = some k → w.heap.size ≤ k) ∧ Below w.heap.size w w'

theorem rcopy_fin {w3 : World} (h : RMeterAt w B g nm A n c brs p L v) (hB : B ≤ w.heap.size) {v' : Value} (hown : w3.ownsRow w.heap.size 82 3 v' L.length (ecells L)) (hb : Below w.heap.size w w3) :
    RCopyPost w B nm A n c brs p L (.returned (.pointer (some ⟨w3.heap.size, 0, none⟩))) (w3.alloc (.cells #[.string nm, .slice A n c, .int .i64 p, v'] 79)) := by
  have hb4 : Below w.heap.size w (w3.alloc (.cells #[.string nm, .slice A n c, .int .i64 p, v'] 79)) := hb.alloc hb.size _
  have hd := h.below hb4
  refine ⟨w3.heap.size, v', rfl, ⟨Bk.new w3 79 [.string nm, .slice A n c, .int .i64 p, v'], ?_, hd.tax, hd.name, hd.low, hd.tab, hd.p0, hd.p1, hd.wf, hd.ne⟩, hb.size, fun k hk => (hown.lt k hk).1, hb4⟩
  have := hown.alloc (.cells #[.string nm, .slice A n c, .int .i64 p, v'] 79)
  refine ⟨this.1, ?_⟩
  rcases this.2 with h1 | ⟨g, cap, cur, h1, h2, h3⟩
  · exact .inl h1
  · exact .inr ⟨g, cap, cur, h1, Nat.le_trans hB h2, h3⟩

set_option maxRecDepth 100000 in
set_option maxHeartbeats 2000000 in
theorem rcopy_any (h : RMeterAt w B g nm A n c brs p L v) (hl : L.length ≤ 1000) (hB : B ≤ w.heap.size) :
    Calls Tryz.prog 33 #[.pointer (some ⟨g, 0, none⟩)] w (RCopyPost w B nm A n c brs p L) := by
  obtain ⟨i0, hinf, hz0, hz1, hz2⟩ := info_parts info82
  have H := Lib.hid h
  have c0 := h.c0
  have c1 := h.c1
  have c2 := h.c2
  have c3 := h.c3
  have hlt := h.bk.lt
  obtain ⟨A', c', rfl, hfm⟩ := h.form
  obtain ⟨N, hN⟩ : ∃ N, L.length = N := ⟨_, rfl⟩
  by_cases h0 : N = 0
  · subst h0
    have hnil : L = [] := List.eq_nil_of_length_eq_zero hN
    have F := Lib.hid (rcopy_fin H.out hB (w3 := w.drew) (v' := .slice none 0 0) (by rw [hnil]; exact World.ownsRow_nil _ _ _ _) (Below.refl _ _).drew)
    rw [hN] at c3
    clear h hfm H hN hnil
    cases A'
    · go_enter Tryz.func33, Tryz.ntmps33
      go_wp2_with fail
      go_region
      all_goals go_wp2
      all_goals go_ret
      all_goals exact F.out
    · go_enter Tryz.func33, Tryz.ntmps33
      go_wp2_with fail
      go_region
      all_goals go_wp2
      all_goals go_ret
      all_goals exact F.out
  · obtain ⟨r, rfl, hr, hcl⟩ := hfm (by omega)
    have hln := ecells_length L
    have FIN : Hid (∀ g' cap w3, World.ownsRow w3 w.heap.size 82 3 (.slice (some ⟨g', 0, none⟩) (0 + N) cap) (0 + N) ([] ++ ecells L) → w.drew.grownBy w3 (Value.slice none 0 0).ownBlock → 
      (w3.cell? ⟨g, 0, none⟩ = some (.string nm) ∧ w3.cell? ⟨g, 1, none⟩ = some (.slice A n c) ∧ w3.cell? ⟨g, 2, none⟩ = some (.int .i64 p) ∧ g < w3.heap.size) ∧
      RCopyPost w B nm A n c brs p L (.returned (.pointer (some ⟨w3.heap.size, 0, none⟩))) (w3.alloc (.cells #[.string nm, .slice A n c, .int .i64 p, .slice (some ⟨g', 0, none⟩) N cap] 79))) := by
      intro g' cap w3 hown hgr
      have hb : Below w.heap.size w w3 := ⟨hgr.os, hgr.tape, hgr.output, hgr.size, fun k hk => hgr.block k hk (by simp [Value.ownBlock])⟩
      have h3 := H.out.below hb
      refine ⟨⟨h3.c0, h3.c1, h3.c2, h3.bk.lt⟩, rcopy_fin H.out hB (by rw [hN]; rw [List.nil_append] at hown; rw [Nat.zero_add] at hown; exact hown) hb⟩
    have C1 : Hid (∀ j u, (ecells L)[j]? = some u → w.drew.cell? ((⟨r, 0, none⟩ : Addr).add j) = some u) := by
      intro j u hj
      have e1 : (⟨r, 0, none⟩ : Addr).add j = ⟨r, j, none⟩ := by
        unfold Addr.add; split
        · subst_vars; rfl
        · simp
      rw [e1]
      exact hcl j u hj
    have C2 : Hid (∀ u ∈ ecells L, u.oneCell' = true) := by
      intro u hu
      simp only [ecells, List.mem_flatMap, List.mem_cons, List.not_mem_nil, or_false] at hu
      obtain ⟨e, _, h | h | h⟩ := hu <;> rw [h] <;> rfl
    have C3 : Hid (0 + N ≤ maxLen) := by show 0 + N ≤ maxLen; unfold maxLen; omega
    have C4 : Hid ((0 + N) * 24 ≤ 140737488355328) := by show (0 + N) * 24 ≤ 140737488355328; omega
    have C0 : Hid ((ecells L).length = N * 3) := by show _ = _; rw [← hN]; exact hln
    rw [hN] at c3
    have hN0 : 0 < N := by omega
    clear h hfm H hN hln hcl h0
    go_enter Tryz.func33, Tryz.ntmps33
    go_wp2_with fail
    go_region_law (refine step_append_lies _ rfl (.tmp 12) (.tmp 16) 77 rfl w.heap.size 82 i0 (.agg #[.int .i64 0, .int .i64 0, .int .i64 0]) 3 24 Tryz.underlying77 hinf hz0 hz1 hz2 rfl (by decide) _ 0 [] rfl (World.ownsRow_nil _ _ _ _) ⟨r, 0, none⟩ N c' (ecells L) rfl C0.out C1.out C2.out hN0 C3.out C4.out (Nat.le_refl _) w.heap.size rfl ?_; intro g' cap w3 hown hgr hat hlt3; obtain ⟨⟨k0, k1, k2, l3⟩, hpost⟩ := FIN.out _ _ _ hown hgr; have HP := Lib.hid hpost; clear hpost hown hgr hat)
    all_goals go_wp2
    all_goals go_ret
    all_goals exact HP.out
end

end Go.Proofs.YtlgedljhheficaaGreatDoor

namespace Go.Proofs.YtlgedljhheficaaGreatDoor
open Go.RowKit Go.Maps

theorem law3 : Keyed Tryz.prog 3 := Maps.int_keyed Tryz.underlying3
def mkV (v : Int × Int) : Value := .agg #[.int .i64 v.1, .int .i64 v.2]
theorem inv_key (key : Value) (kl : Lit) (h : keyOf Tryz.prog 3 key = some kl) : ∃ x, key = Value.int .i64 x := by
  obtain ⟨x, hx, _⟩ := Maps.keyOf_int_inv Tryz.underlying3 h
  exact ⟨x, hx⟩
theorem inv_val (v : Value) (y : DataW Unit × List MemPlace) (h : totElem v = some y) : ∃ c, v = mkV c := by
  obtain ⟨d, ps⟩ := y
  obtain ⟨p, s, hv, _⟩ := totElem_inv h
  exact ⟨(p, s), hv⟩

section
variable {w w' : World} {g b cnt : Nat} {nm : ByteArray} {A : Option Addr} {n c : Nat} {brs : List (Int × Int)} {p : Int} {M : Int → Option (Int × Int)}

/-- The copy so far holds just what is no longer to come. -/
def Part (left : Lit → Bool) (M Mo : Int → Option (Int × Int)) : Prop := ∀ a, (left (.int .i64 a) = true → (M a).isSome = true ∧ Mo a = none) ∧ (left (.int .i64 a) = false → Mo a = M a)
theorem part_step {left : Lit → Bool} {Mo : Int → Option (Int × Int)} (h : Part left M Mo) {x : Int} {v : Int × Int} (hx : left (.int .i64 x) = true) (hv : v = (M x).getD (0, 0)) :
    Part (fun z => left z && !z.sameKey (.int .i64 x)) M (upd Mo x v) := by
  intro a
  by_cases ha : a = x
  · subst ha
    have h1 := ((h a).1 hx).1
    have hs : (Lit.int .i64 a).sameKey (.int .i64 a) = true := WideAt.sameKey_self (keyLit a)
    constructor
    · intro e; simp [hs] at e
    · intro _
      rw [upd, if_pos rfl, hv]
      cases hM : M a with
      | none => rw [hM] at h1; cases h1
      | some u => rfl
  · have hs : (Lit.int .i64 a).sameKey (.int .i64 x) = false := by
      cases hk : (Lit.int .i64 a).sameKey (.int .i64 x)
      · rfl
      · have := WideAt.sameKey_eq hk
        simp at this
        exact absurd this ha
    constructor
    · intro e
      simp [hs] at e
      obtain ⟨k1, k2⟩ := (h a).1 e
      exact ⟨k1, by rw [upd, if_neg ha, k2]⟩
    · intro e
      simp [hs] at e
      rw [upd, if_neg ha]
      exact (h a).2 e

def CopyPost (w : World) (nm : ByteArray) (A : Option Addr) (n c : Nat) (brs : List (Int × Int)) (p : Int) (M : Int → Option (Int × Int)) (cnt : Nat) (e : Ending) (w' : World) : Prop :=
  ∃ g b, e = .returned (.pointer (some ⟨g, 0, none⟩)) ∧ MeterAt w' g b cnt nm A n c brs p M ∧ w.heap.size ≤ g ∧ w.heap.size ≤ b ∧ Below w.heap.size w w'

set_option maxRecDepth 100000 in
set_option maxHeartbeats 2000000 in
theorem copy_any (h : MeterAt w g b cnt nm A n c brs p M) (hc : cnt < 900) :
    Calls Tryz.prog 32 #[.pointer (some ⟨g, 0, none⟩)] w (CopyPost w nm A n c brs p M cnt) := by
  have H := Lib.hid h
  have c0 := h.c0
  have c1 := h.c1
  have c2 := h.c2
  have c3 := h.c3
  have hlt := h.bk.lt
  obtain ⟨D, hown, hD⟩ := h.map
  have HO := Lib.hid hown
  have HD := Lib.hid hD
  have hbl := hown.lt
  obtain ⟨es, clock, hb, F, hs, hDe⟩ := hown
  have hsz : Maps.size D ≤ cnt := by
    rw [hDe]
    simp [Maps.size, length_sorted]
    exact hs
  have hlen := (show w.drew.ownsMap Tryz.prog 3 totElem b cnt D from HO.out).len Tryz.underlying71 3
  clear h F hDe hD hb
  have hmm := fun (k : Int) (W : World) => run_mapHint (P := Tryz.prog) 71 3 75 .i64 k Tryz.underlying71 W
  go_enter Tryz.func32, Tryz.ntmps32
  go_wp2_with fail
  go_region
  have hB1 : Below w.heap.size w ((w.alloc (.map #[] 0)).alloc (.cells #[.string nm, .slice A n c, .int .i64 p, .map (some w.heap.size)] 73)).drew := (((Below.refl _ w).alloc (Nat.le_refl _) _).alloc (by simp) _).drew
  have hs1 : ((w.alloc (.map #[] 0)).alloc (.cells #[.string nm, .slice A n c, .int .i64 p, .map (some w.heap.size)] 73)).drew.heap.size = w.heap.size + 2 := by simp
  have hm1 : MapT ((w.alloc (.map #[] 0)).alloc (.cells #[.string nm, .slice A n c, .int .i64 p, .map (some w.heap.size)] 73)).drew w.heap.size 0 (fun _ => none) := by
    have h := (MapT.made w).kept (World.grownBy_alloc (w.alloc (.map #[] 0)) (.cells #[.string nm, .slice A n c, .int .i64 p, .map (some w.heap.size)] 73) none) (by simp)
    exact h
  have hk1 : Bk ((w.alloc (.map #[] 0)).alloc (.cells #[.string nm, .slice A n c, .int .i64 p, .map (some w.heap.size)] 73)).drew (w.heap.size + 1) 73 [.string nm, .slice A n c, .int .i64 p, .map (some w.heap.size)] := by
    have := Bk.new (w.alloc (.map #[] 0)) 73 [.string nm, .slice A n c, .int .i64 p, .map (some w.heap.size)]
    rw [World.size_alloc] at this
    exact this
  generalize ((w.alloc (.map #[] 0)).alloc (.cells #[.string nm, .slice A n c, .int .i64 p, .map (some w.heap.size)] 73)).drew = W at *
  have HOW := HO.out.kept (grown_of_below hB1 none) (by simp)
  have g3 : W.cell? ⟨g, 3, none⟩ = some (.map (some b)) := (hB1.cell (p := ⟨g, 3, none⟩) hlt).trans c3
  have hlt1 : g < W.heap.size := by omega
  clear c0 c1 c2 c3 hlen hmm
  go_wp2_with (first
    | (at_range; refine wpList_range_own _ rfl _ 71 rfl 3 75 law3 Tryz.underlying71 _ b cnt _ rfl HOW ?_; intro w0 hrg0 hg0 hs0)
    | go_in)
  go_frame
  rw [hs1] at hrg0 hs0 ⊢
  have hB0 : Below w.heap.size w w0 := hB1.grown hg0 (by omega) (fun j hj => by cases hj)
  have hm0 := hm1.kept hg0 (by simp)
  have hk0 := hk1.grown hg0 (by simp)
  go_loopw [4] (fun _ wr => ∃ (left : Lit → Bool) (k m : Nat) (Mo : Int → Option (Int × Int)), wr.ranges Tryz.prog 3 totElem b (w.heap.size + 2) cnt D left k ∧ m + k ≤ cnt ∧ MapT wr w.heap.size m Mo ∧ Part left M Mo ∧
      Bk wr (w.heap.size + 1) 73 [.string nm, .slice A n c, .int .i64 p, .map (some w.heap.size)] ∧ Below w.heap.size w wr) (fun _ wr => wr.rangeLeft b (w.heap.size + 2))
  case atStart =>
    refine ⟨_, _, 0, _, hrg0, by omega, hm0, fun a => ⟨fun e => ⟨?_, rfl⟩, fun e => ?_⟩, hk0, hB0⟩
    · rw [← (HD.out a).1]; exact e
    · rw [(HD.out a).1] at e
      cases hM : M a with
      | none => rfl
      | some u => rw [hM] at e; cases e
  case round =>
    obtain ⟨left, k, m, Mo, hrg, hmk, hmap, hpart, hbk, hbw⟩ := hrel
    have HM := Lib.hid hmap
    have HP := Lib.hid hpart
    have HK := Lib.hid hbk
    have HBW := Lib.hid hbw
    clear hmap hpart hbk hbw hm0 hk0 hm1 hk1
    go_wp2_with (first
      | (at_next; refine wpList_next_ranges _ rfl _ rfl 3 law3 totElem (Value.int .i64) mkV inv_key inv_val b (w.heap.size + 2) cnt _ _ _ rfl hrg ?_ ?_)
      | go_in)
    · intro hk hleft
      have hfin : CopyPost w nm A n c brs p M cnt (.returned (.pointer (some ⟨w.heap.size + 1, 0, none⟩))) wr := by
        have hME : Mo = M := funext fun a => (HP.out a).2 (hleft _)
        have h2 := H.out.below HBW.out
        refine ⟨w.heap.size + 1, w.heap.size, rfl, ⟨HK.out, ?_, h2.tax, h2.p0, h2.p1, h2.wf⟩, by omega, Nat.le_refl _, HBW.out⟩
        obtain ⟨D2, ho, hD2⟩ := HM.out
        rw [hME] at hD2
        exact ⟨D2, ho.mono (by omega), hD2⟩
      have HF := Lib.hid hfin
      clear hfin
      go_wp2
      go_ret
      exact HF.out
    · intro x v1 v2 kl yd yp w1 k1 hkey hlk hv hat hrg1 hlt1' hg1 hs1' hen
      obtain ⟨x', hx', rfl, hwx⟩ := Maps.keyOf_int_inv Tryz.underlying3 hkey
      obtain rfl : x = x' := by simpa using hx'
      clear hx'
      have hin : In64 x := by have hw2 := hwx; simp [Lit.wf, IntKind.min, IntKind.max, IntKind.signed, IntKind.bits] at hw2; unfold In64; omega
      have hy : yd = totD (v1, v2) := by
        have h1 : totElem (mkV (v1, v2)) = some (totD (v1, v2), []) := rfl
        rw [h1] at hv
        cases hv
        rfl
      have hvM : (v1, v2) = (M x).getD (0, 0) := by
        have h1 := (HD.out x).2
        rw [hat, hy] at h1
        exact totD_inj h1
      have hP2 := Lib.hid (part_step HP.out hlk hvM)
      have hlt2 := hrg.lt
      have hne := hrg.ne
      have hm2 := HM.out.kept hg1 (by simp)
      have hk2 := HK.out.grown hg1 (by simp)
      have hB2 : Below w.heap.size w w1 := HBW.out.grown hg1 HBW.out.size (fun j hj => by cases hj; omega)
      have Hen := hen
      change (Instr.entry (.pointer (some ⟨w.heap.size + 2, 0, none⟩))).run Tryz.prog w1 = .ok (.tuple #[.int .i64 x, .agg #[.int .i64 v1, .int .i64 v2]]) w1 at hen
      have hb3 : Below w1.heap.size w1 (w1.alloc (.cells #[.int .i64 v1, .int .i64 v2] 75)).drew := ((Below.refl _ w1).alloc (Nat.le_refl _) _).drew
      have hg3 : w1.grownBy (w1.alloc (.cells #[.int .i64 v1, .int .i64 v2] 75)).drew none := grown_of_below hb3 none
      have hm3 := hm2.kept hg3 (by simp)
      have hk3 := hk2.grown hg3 (by simp)
      have hrg3 := hrg1.kept hg3 (by simp) (by simp)
      obtain ⟨w4, hrun, hm4, hg4⟩ := hm3.update (a := x) hin v1 v2 (by omega)
      have hne2 : w.heap.size + 1 ≠ w.heap.size := by omega
      have hk4 := hk3.grown hg4 (by simp)
      have hrg4 := hrg3.kept hg4 (by simp; omega) (by simp)
      have hB4 : Below w.heap.size w w4 := (hB2.trans (hb3.mono hB2.size)).grown hg4 (by have := hB2.size; simp; omega) (fun j hj => by cases hj; exact Nat.le_refl _)
      have y3 : w1.cell? ⟨w.heap.size + 1, 3, none⟩ = some (.map (some w.heap.size)) := hk2.cell 3
      have yl := hk2.lt
      have y4 : (w1.alloc (.cells #[.int .i64 v1, .int .i64 v2] 75)).cell? ⟨w.heap.size + 1, 3, none⟩ = some (.map (some w.heap.size)) := hk3.cell 3
      have HREL := Lib.hid (And.intro hrg4 (And.intro hm4 (And.intro hk4 hB4)))
      have HRG := Lib.hid hrg
      clear hm2 hk2 hB2 hb3 hg3 hm3 hk3 hrg3 hm4 hg4 hk4 hrg4 hB4 hrg1 hv hat hy hvM hkey hlk hwx hin hg1 Hen hrg hrg0 hg0 hB0
      unfold mkV
      go_wp2_with fail
      go_region
      all_goals go_wp2
      all_goals go_roundw
      case rel => exact ⟨_, k1, m + 1, _, HREL.out.1, by omega, HREL.out.2.1, hP2.out, HREL.out.2.2.1, HREL.out.2.2.2⟩
      case measure => rw [HREL.out.1.left_eq, HRG.out.left_eq]; exact hlt1'
end

end Go.Proofs.YtlgedljhheficaaGreatDoor

namespace Go.Proofs.YtlgedljhheficaaGreatDoor
open Go.RowKit

section
variable {w w' : World} {B g b cnt : Nat} {nm : ByteArray} {A : Option Addr} {n c : Nat} {brs : List (Int × Int)} {p : Int} {L : List Ent} {v : Value} {M : Int → Option (Int × Int)}

theorem bk_map_ne {W : World} {g b m : Nat} {t : TypeId} {xs : List Value} {M : Int → Option (Int × Int)} (hb : Bk W g t xs) (hm : MapT W b m M) : g ≠ b := by
  intro e
  obtain ⟨D, ⟨es, clock, h, _⟩, _⟩ := hm
  unfold Bk at hb
  rw [e, h] at hb
  cases hb
theorem own_map_ne {W : World} {base b m k : Nat} {t : TypeId} {s : Nat} {xs : List Value} {v : Value} {M : Int → Option (Int × Int)} (ho : W.ownsRow base t s v k xs) (hm : MapT W b m M) : v.ownBlock ≠ some b := by
  intro e
  obtain ⟨D, ⟨es, clock, h, _⟩, _⟩ := hm
  rcases ho.2 with ⟨rfl, _⟩ | ⟨g', cap, cur, rfl, _, hg, _⟩
  · simp [Value.ownBlock] at e
  · simp [Value.ownBlock] at e
    subst e
    rw [hg] at h
    cases h
theorem bk_bk_ne {W : World} {g g' : Nat} {t t' : TypeId} {xs ys : List Value} (h : Bk W g t xs) (k : Bk W g' t' ys) (ht : t ≠ t') : g ≠ g' := by
  intro e
  unfold Bk at h k
  rw [e, k] at h
  simp at h
  exact ht h.2.symm

theorem RMeterAt.grownMap {b m : Nat} {M : Int → Option (Int × Int)} (h : RMeterAt w B g nm A n c brs p L v) (hm : MapT w b m M) (hg : w.grownBy w' (some b)) : RMeterAt w' B g nm A n c brs p L v :=
  ⟨h.bk.grown hg (fun e => bk_map_ne h.bk hm (Option.some.inj e)), h.own.kept hg (.inr (own_map_ne h.own hm)), h.tax.grown hm hg, h.name, h.low, h.tab, h.p0, h.p1, h.wf, h.ne⟩
theorem MeterAt.grownMap {b' m : Nat} {M' : Int → Option (Int × Int)} (h : MeterAt w g b cnt nm A n c brs p M) (hm : MapT w b' m M') (hg : w.grownBy w' (some b')) (hne : b ≠ b') : MeterAt w' g b cnt nm A n c brs p M :=
  ⟨h.bk.grown hg (fun e => bk_map_ne h.bk hm (Option.some.inj e)), h.map.kept hg (fun e => hne (Option.some.inj e)), h.tax.grown hm hg, h.p0, h.p1, h.wf⟩
/-- A block that is neither the meter's nor its row's is left alone. -/
theorem Far.bk {W W' : World} {g' : Nat} {t : TypeId} {xs : List Value} (hf : Far W W' g v) (h : Bk W g' t xs) (hg : g' ≠ g) (hv : v.ownBlock ≠ some g') : Bk W' g' t xs := (hf.block g' h.lt hg hv).trans h
variable {nm' : ByteArray} {A' : Option Addr} {n' c' : Nat} {brs' : List (Int × Int)} {p' : Int} {L' : List Ent} {v' : Value} {g' : Nat}
theorem MeterAt.far (h : MeterAt w g b cnt nm A n c brs p M) (hn : 1 ≤ n) (hlow : ∀ k off, A = some ⟨k, off, none⟩ → k < B) (hy : RMeterAt w B g' nm' A' n' c' brs' p' L' v') (hf : Far w w' g' v') : MeterAt w' g b cnt nm A n c brs p M := by
  refine ⟨hf.bk h.bk (bk_bk_ne h.bk hy.bk (by decide)) (own_bk_ne hy.own h.bk (by decide)), ?_, h.tax.far hn hlow hy hf, h.p0, h.p1, h.wf⟩
  have hlt := h.map.lt
  have h1 := hf.block b hlt (bk_map_ne hy.bk h.map).symm (own_map_ne hy.own h.map)
  obtain ⟨D, ⟨es, clock, hb, F, hs, hD⟩, hM⟩ := h.map
  exact ⟨D, ⟨es, clock, h1.trans hb, F, hs, hD⟩, hM⟩
theorem RMeterAt.far (h : RMeterAt w B g nm A n c brs p L v) (hy : RMeterAt w B g' nm' A' n' c' brs' p' L' v') (hf : Far w w' g' v') (hne : g ≠ g') (hv : v.ownBlock = none ∨ v.ownBlock ≠ v'.ownBlock) : RMeterAt w' B g nm A n c brs p L v := by
  refine ⟨hf.bk h.bk hne (own_bk_ne hy.own h.bk (by decide)), ?_, h.tax.far h.ne h.low hy hf, h.name, h.low, h.tab, h.p0, h.p1, h.wf, h.ne⟩
  refine ⟨h.own.1, ?_⟩
  rcases h.own.2 with h1 | ⟨r, cap, cur, h1, h2, h3, h4⟩
  · exact .inl h1
  · refine .inr ⟨r, cap, cur, h1, h2, (hf.block r (Array.getElem?_eq_some_iff.1 h3).1 (fun e => ?_) (fun e => ?_)).trans h3, h4⟩
    · exact own_bk_ne h.own hy.bk (by decide) (by rw [h1, e]; rfl)
    · rcases hv with h5 | h5
      · rw [h1] at h5; simp [Value.ownBlock] at h5
      · exact h5 (by rw [h1, e]; rfl)

set_option maxRecDepth 100000 in
set_option maxHeartbeats 1000000 in
theorem same_meters {gy : Nat} {Ay : Option Addr} {cy : Nat} (tick : Int) (hx : MeterAt w g b cnt nm A n c brs p (lookL L)) (hy : RMeterAt w B gy nm Ay n cy brs p L v) (hl : L.length ≤ 100000) (ht : In64 tick) :
    Calls Tryz.prog 31 #[.pointer (some ⟨g, 0, none⟩), .pointer (some ⟨gy, 0, none⟩), .int .i64 tick] w fun e w' => e = .returned (.bool true) ∧ Below w.heap.size w w' := by
  have HX := Lib.hid hx
  have HY := Lib.hid hy
  have KX : Hid (∀ (a : Int) (W : World), In64 a → Below w.heap.size w W → Calls Tryz.prog 28 #[.pointer (some ⟨g, 0, none⟩), .int .i64 a, .int .i64 tick] W fun e w' => e = .returned (.int .i64 (sumM p (lookL L) a tick)) ∧ Below W.heap.size W w') := fun a W ha hW => sumM_any a tick (HX.out.below hW) ha ht
  have KY : Hid (∀ (a : Int) (W : World), Below w.heap.size w W → Calls Tryz.prog 47 #[.pointer (some ⟨gy, 0, none⟩), .int .i64 a, .int .i64 tick] W fun e w' => e = .returned (.int .i64 (sumM p (lookL L) a tick)) ∧ Below W.heap.size W w') := fun a W hW => rsum_any a tick (HY.out.below hW) hl ht
  clear hx hy ht HX HY
  generalize sumM p (lookL L) = S at *
  have q : ∀ z : Int, (z != z) = false := fun z => by simp
  have q2 : ∀ z : Int, (z == z) = true := fun z => by simp
  go_enter Tryz.func31, Tryz.ntmps31
  go_wp2
  go_loopw [7] (fun i wr => ∃ k : Nat, k ≤ 5 ∧ i = .int .i64 k ∧ Below w.heap.size w wr) (fun i _ => 5 - (intOf i).toNat)
  case atStart => exact ⟨0, Nat.zero_le _, rfl, Below.refl _ _⟩
  case round =>
    obtain ⟨k, hk, rfl, hb⟩ := hrel
    have HB := Lib.hid hb
    clear hb
    by_cases hlt : k < 5
    · have i1 : Hid (In64 (k : Int)) := ⟨by omega, by omega⟩
      go_wp2_with fail
      (with_reducible refine (KX.out (k : Int) _ i1.out HB.out).mono ?_)
      rintro e w1 ⟨rfl, hb1⟩
      have HB1 := Lib.hid (HB.out.trans (hb1.mono HB.out.size))
      clear hb1
      go_wp2_with fail
      (with_reducible refine (KY.out _ _ HB1.out).mono ?_)
      rintro e w2 ⟨rfl, hb2⟩
      have HB2 := Lib.hid (HB1.out.trans (hb2.mono HB1.out.size))
      clear hb2
      generalize S (k : Int) tick = z at *
      go_wp2
      go_roundw
      case rel => exact ⟨k + 1, by omega, by go_num, HB2.out⟩
      case measure => simp [intOf]; omega
    · have i1 : Hid (In64 1073741824) := ⟨by omega, by omega⟩
      go_wp2_with fail
      (with_reducible refine (KX.out 1073741824 _ i1.out HB.out).mono ?_)
      rintro e w1 ⟨rfl, hb1⟩
      have HB1 := Lib.hid (HB.out.trans (hb1.mono HB.out.size))
      clear hb1
      go_wp2_with fail
      (with_reducible refine (KY.out _ _ HB1.out).mono ?_)
      rintro e w2 ⟨rfl, hb2⟩
      have HB2 := Lib.hid (HB1.out.trans (hb2.mono HB1.out.size))
      clear hb2
      generalize S 1073741824 tick = z at *
      go_wp2
      go_ret
      exact ⟨by rfl, HB2.out⟩
end

end Go.Proofs.YtlgedljhheficaaGreatDoor

namespace Go.Proofs.YtlgedljhheficaaGreatDoor
open Go.RowKit

/-- A meter of the program (block gx, map bx), the reference's (block gy, list v) and what both hold. -/
structure PM where
  gx : Nat
  bx : Nat
  cnt : Nat
  L : List Ent
  gy : Nat
  v : Value
/-- What does not change: the tax, the period, the tax's copy. -/
structure Con where
  nm : ByteArray
  A : Option Addr
  n : Nat
  c : Nat
  brs : List (Int × Int)
  p : Int
  Ax : Option Addr
  cx : Nat
  B : Nat
  base : Nat
structure Pair (w : World) (k : Con) (q : PM) : Prop where
  x : MeterAt w q.gx q.bx q.cnt k.nm k.Ax k.n k.cx k.brs k.p (lookL q.L)
  y : RMeterAt w k.B q.gy k.nm k.A k.n k.c k.brs k.p q.L q.v
  lx : ∀ j off, k.Ax = some ⟨j, off, none⟩ → j < k.B
  g1 : k.base ≤ q.gx
  g2 : k.base ≤ q.bx
  g3 : k.base ≤ q.gy
  g4 : k.base ≤ k.B
  len : q.L.length ≤ q.cnt
/-- Two pairs do not share what they write. -/
structure Sep (q q2 : PM) : Prop where
  b : q2.bx ≠ q.bx
  g : q2.gy ≠ q.gy
  v : ∀ j, q2.v.ownBlock = some j → q.v.ownBlock ≠ some j
theorem Sep.symm {q q2 : PM} (h : Sep q q2) : Sep q2 q := ⟨h.b.symm, h.g.symm, fun j e e2 => h.v j e2 e⟩

section
variable {w w1 w2 : World} {k : Con} {q q2 : PM} {a s t : Int} {v' : Value}
theorem Pair.below (h : Pair w k q) (hb : Below w.heap.size w w1) : Pair w1 k q := ⟨h.x.below hb, h.y.below hb, h.lx, h.g1, h.g2, h.g3, h.g4, h.len⟩
/-- The pair behind a charge. -/
def PM.next (k : Con) (q : PM) (a s t : Int) (v' : Value) : PM := ⟨q.gx, q.bx, q.cnt + 1, chargeL k.nm k.brs k.p q.L a s t, q.gy, v'⟩
theorem Pair.charged (h : Pair w k q) (hc : MeterAt w1 q.gx q.bx (q.cnt + 1) k.nm k.Ax k.n k.cx k.brs k.p (chargeM k.nm k.brs k.p (lookL q.L) a s t)) (hg : w.grownBy w1 (some q.bx))
    (hr : RMeterAt w2 k.B q.gy k.nm k.A k.n k.c k.brs k.p (chargeL k.nm k.brs k.p q.L a s t) v') (hf : Far w1 w2 q.gy q.v) : Pair w2 k (q.next k a s t v') := by
  refine ⟨?_, hr, h.lx, h.g1, h.g2, h.g3, h.g4, ?_⟩
  · have := hc.far h.y.ne h.lx (h.y.grownMap h.x.map hg) hf
    rw [← lookL_chargeL] at this
    exact this
  · have := chargeL_length k.nm k.brs k.p q.L a s t
    have := h.len
    show (chargeL k.nm k.brs k.p q.L a s t).length ≤ q.cnt + 1
    omega
theorem Pair.kept (h2 : Pair w k q2) (h : Pair w k q) (hs : Sep q q2) (hg : w.grownBy w1 (some q.bx)) (hf : Far w1 w2 q.gy q.v) : Pair w2 k q2 := by
  have y1 := h.y.grownMap h.x.map hg
  refine ⟨(h2.x.grownMap h.x.map hg hs.b).far h2.y.ne h2.lx y1 hf, (h2.y.grownMap h.x.map hg).far y1 hf hs.g ?_, h2.lx, h2.g1, h2.g2, h2.g3, h2.g4, h2.len⟩
  cases hv : q2.v.ownBlock with
  | none => exact .inl rfl
  | some j => exact .inr (fun e => hs.v j hv e.symm)
theorem Sep.next (hs : Sep q q2) (h2 : Pair w k q2) (hg : w.grownBy w1 (some q.bx)) (hl : v'.ownBlock = q.v.ownBlock ∨ ∃ j, v'.ownBlock = some j ∧ w1.heap.size ≤ j) : Sep (q.next k a s t v') q2 := by
  refine ⟨hs.b, hs.g, fun j e => ?_⟩
  show v'.ownBlock ≠ some j
  rcases hl with h | ⟨i, h, hi⟩
  · rw [h]; exact hs.v j e
  · rw [h]
    intro e2
    have := (h2.y.own.lt j e).2
    have := hg.size
    have := Option.some.inj e2
    omega
/-- What else lies in memory. -/
structure Env (w0 w : World) (k : Con) (g0 : Nat) : Prop where
  box : Bk w g0 25 [.string k.nm, .slice k.A k.n k.c]
  bel : Below w0.heap.size w0 w
  base : k.base = w0.heap.size
  sz : k.B ≤ w.heap.size
theorem Env.below {w0 : World} {g0 : Nat} (h : Env w0 w k g0) (hb : Below w.heap.size w w1) : Env w0 w1 k g0 :=
  ⟨h.box.below hb h.box.lt, h.bel.trans (hb.mono h.bel.size), h.base, Nat.le_trans h.sz hb.size⟩
theorem Env.step {w0 : World} {g0 : Nat} (hE : Env w0 w k g0) (h : Pair w k q) (hg : w.grownBy w1 (some q.bx)) (hf : Far w1 w2 q.gy q.v) : Env w0 w2 k g0 := by
  have b1 := hE.box.grown hg (fun e => bk_map_ne hE.box h.x.map (Option.some.inj e))
  have y1 := h.y.grownMap h.x.map hg
  refine ⟨hf.bk b1 (bk_bk_ne b1 y1.bk (by decide)) (own_bk_ne y1.own b1 (by decide)), ?_, hE.base, Nat.le_trans hE.sz (Nat.le_trans hg.size hf.size)⟩
  have hb1 := hE.bel.grown hg hE.bel.size (fun j e => by cases e; rw [← hE.base]; exact h.g2)
  refine ⟨hf.os.trans hb1.os, hf.tape.trans hb1.tape, hf.output.trans hb1.output, Nat.le_trans hb1.size hf.size, fun i hi => (hf.block i (Nat.lt_of_lt_of_le hi hb1.size) ?_ ?_).trans (hb1.block i hi)⟩
  · have := h.g3
    have := hE.base
    omega
  · intro e
    have := (h.y.own.lt i e).1
    have := h.g4
    have := hE.base
    omega
/-- The contracts of the two charges, and of same, for a pair. -/
theorem Pair.kx (h : Pair w k q) (a s t : Int) (ha : In64 a) (ht : In64 t) (hc : q.cnt < 900) :
    Calls Tryz.prog 26 #[.pointer (some ⟨q.gx, 0, none⟩), .int .i64 a, .int .i64 s, .int .i64 t] w (ChargePost w q.gx q.bx q.cnt k.nm k.Ax k.n k.cx k.brs k.p (lookL q.L) a s t) := charge_any a s t h.x ha ht hc
theorem Pair.ky (h : Pair w k q) (hg : w.grownBy w1 (some q.bx)) (hB : k.B ≤ w.heap.size) (a s t : Int) (ha : In64 a) (ht : In64 t) (hc : q.cnt < 900) :
    Calls Tryz.prog 30 #[.pointer (some ⟨q.gy, 0, none⟩), .int .i64 a, .int .i64 s, .int .i64 t] w1 (RChargePost w1 k.B q.gy k.nm k.A k.n k.c k.brs k.p q.L q.v a s t) :=
  rcharge_any a s t (h.y.grownMap h.x.map hg) ha ht (by have := h.len; omega) (Nat.le_trans hB hg.size)
theorem Pair.same (h : Pair w k q) (t : Int) (ht : In64 t) (hc : q.cnt < 900) :
    Calls Tryz.prog 31 #[.pointer (some ⟨q.gx, 0, none⟩), .pointer (some ⟨q.gy, 0, none⟩), .int .i64 t] w fun e w' => e = .returned (.bool true) ∧ Below w.heap.size w w' :=
  same_meters t h.x h.y (by have := h.len; omega) ht
end

end Go.Proofs.YtlgedljhheficaaGreatDoor

namespace Go.Proofs.YtlgedljhheficaaGreatDoor
open Go.RowKit

theorem in64_around (z m : Int) (h1 : 1 ≤ m) (h2 : m ≤ 1000) : In64 (around z m) := by
  have := around_lo z m h1
  have := around_hi z m h1
  exact ⟨by omega, by omega⟩

/-- The copies, once they are there. -/
def Second (w : World) (k : Con) (q : PM) (r : Nat) (cv dv : Value) : Prop :=
  (cv = .pointer none ∧ dv = .pointer none) ∨ ∃ q2, cv = .pointer (some ⟨q2.gx, 0, none⟩) ∧ dv = .pointer (some ⟨q2.gy, 0, none⟩) ∧ Pair w k q2 ∧ Sep q q2 ∧ q2.cnt ≤ r + 1
theorem Second.below {w w' : World} {k : Con} {q : PM} {r : Nat} {cv dv : Value} (h : Second w k q r cv dv) (hb : Below w.heap.size w w') : Second w' k q r cv dv := by
  rcases h with h | ⟨q2, h1, h2, h3, h4, h5⟩
  · exact .inl h
  · exact .inr ⟨q2, h1, h2, h3.below hb, h4, h5⟩
theorem Second.charged {w w1 w2 : World} {k : Con} {q : PM} {r : Nat} {cv dv : Value} {a s t : Int} {v' : Value} (h : Second w k q r cv dv) (hp : Pair w k q) (hg : w.grownBy w1 (some q.bx)) (hf : Far w1 w2 q.gy q.v) (hl : v'.ownBlock = q.v.ownBlock ∨ ∃ j, v'.ownBlock = some j ∧ w1.heap.size ≤ j) : Second w2 k (q.next k a s t v') r cv dv := by
  rcases h with h | ⟨q2, h1, h2, h3, h4, h5⟩
  · exact .inl h
  · exact .inr ⟨q2, h1, h2, h3.kept hp h4 hg hf, h4.next h3 hg hl, h5⟩
abbrev eight : Array Value := #[.int .i64 1, .int .i64 2, .int .i64 3, .int .i64 0, .int .i64 1073741824, .int .i64 1073741825, .int .i64 (-1), .int .i64 4]
theorem eight_at (j : Nat) (h : j < 8) : ∃ a, eight[j]? = some (.int .i64 a) ∧ In64 a := by
  rcases (show j = 0 ∨ j = 1 ∨ j = 2 ∨ j = 3 ∨ j = 4 ∨ j = 5 ∨ j = 6 ∨ j = 7 by omega) with rfl | rfl | rfl | rfl | rfl | rfl | rfl | rfl <;> exact ⟨_, rfl, by decide, by decide⟩
theorem in64_wrap (x : Int) : In64 (IntKind.i64.wrap x) := by
  unfold In64
  rw [IntKind.wrap_i64]
  omega
theorem Pair.same_at {w w' : World} {k : Con} {q : PM} (h : Pair w k q) (hb : Below w.heap.size w w') (t : Int) (ht : In64 t) (hc : q.cnt < 900) {gx gy : Nat} (e1 : q.gx = gx) (e2 : q.gy = gy) :
    Calls Tryz.prog 31 #[.pointer (some ⟨gx, 0, none⟩), .pointer (some ⟨gy, 0, none⟩), .int .i64 t] w' fun e w2 => e = .returned (.bool true) ∧ Below w'.heap.size w' w2 := by
  rw [← e1, ← e2]
  exact (h.below hb).same t ht hc
/-- The copies are laid. -/
theorem second_made {w w6 w7 : World} {k : Con} {q : PM} {r gc bc gd : Nat} {vd : Value} (h : Pair w k q) (hx : MeterAt w6 gc bc q.cnt k.nm k.Ax k.n k.cx k.brs k.p (lookL q.L)) (h1 : w.heap.size ≤ gc) (h2 : w.heap.size ≤ bc) (b6 : Below w.heap.size w w6)
    (hy : RMeterAt w7 k.B gd k.nm k.A k.n k.c k.brs k.p q.L vd) (h3 : w6.heap.size ≤ gd) (h4 : ∀ j, vd.ownBlock = some j → w6.heap.size ≤ j) (b7 : Below w6.heap.size w6 w7) (hr : q.cnt ≤ r + 1) :
    Second w7 k q r (.pointer (some ⟨gc, 0, none⟩)) (.pointer (some ⟨gd, 0, none⟩)) := by
  have s6 := b6.size
  have l1 := h.x.bk.lt
  have l2 := h.x.map.lt
  have l3 := h.y.bk.lt
  have g1 := h.g1
  refine .inr ⟨⟨gc, bc, q.cnt, q.L, gd, vd⟩, rfl, rfl, ⟨hx.below b7, hy, h.lx, ?_, ?_, ?_, h.g4, h.len⟩, ⟨?_, ?_, fun j e e2 => ?_⟩, hr⟩
  · show k.base ≤ gc; omega
  · show k.base ≤ bc; omega
  · show k.base ≤ gd; omega
  · show bc ≠ q.bx; omega
  · show gd ≠ q.gy; omega
  · have := h4 j e
    have := (h.y.own.lt j e2).2
    omega
theorem lookL_nil : lookL [] = fun _ => none := by funext a; rfl
theorem row_low {w : World} {A : Option Addr} {n : Nat} {brs : List (Int × Int)} (h : Row w w.heap.size A (bcells brs)) (hn : n = brs.length) (h1 : 1 ≤ n) : ∀ k off, A = some ⟨k, off, none⟩ → k < w.heap.size := by
  intro k off e
  obtain ⟨b, o, hA, hb, _⟩ := row_at_some h hn h1
  rw [e] at hA
  cases hA
  exact hb
theorem pair_start {w0 W w2 w3 : World} {g gx bx gy : Nat} {nm : ByteArray} {A Ax : Option Addr} {n c cx : Nat} {brs : List (Int × Int)} {P : Int} (hL : TaxAt W g nm A n c brs) (hk : Bk W g 25 [.string nm, .slice A n c]) (hB : Below w0.heap.size w0 W) (hnm : Nm nm) (hv : validE nm brs = 0)
    (hx : MeterAt w2 gx bx 0 nm Ax n cx brs P (fun _ => none)) (h1 : W.heap.size ≤ gx) (h2 : W.heap.size ≤ bx) (b2 : Below W.heap.size W w2) (hy : Bk w3 gy 79 [.string nm, .slice A n c, .int .i64 P, .slice none 0 0]) (h3 : w2.heap.size ≤ gy) (b3 : Below w2.heap.size w2 w3) :
    Pair w3 ⟨nm, A, n, c, brs, P, Ax, cx, w3.heap.size, w0.heap.size⟩ ⟨gx, bx, 0, [], gy, .slice none 0 0⟩ ∧ Env w0 w3 ⟨nm, A, n, c, brs, P, Ax, cx, w3.heap.size, w0.heap.size⟩ g := by
  have b23 : Below W.heap.size W w3 := b2.trans (b3.mono b2.size)
  have hL3 := hL.below b23
  have hx3 := hx.below b3
  have hpos := (good_of_valid hv).pos
  have hn1 : 1 ≤ n := by rw [hL.len]; exact hpos
  have s1 := hB.size
  have s2 := b2.size
  have s3 := b3.size
  refine ⟨⟨?_, ⟨hy, World.ownsRow_nil _ _ _ _, hL3.v, hnm, row_low hL3.row hL3.len hn1, hL3.tab.1, hx.p0, hx.p1, (fun a v h => by rw [show lookL [] a = none from rfl] at h; cases h), hn1⟩, row_low hx3.tax.row hx3.tax.len hn1, Nat.le_trans s1 h1, Nat.le_trans s1 h2, by show w0.heap.size ≤ gy; omega, by show w0.heap.size ≤ w3.heap.size; omega, Nat.le_refl _⟩, hk.below b23 hk.lt, hB.trans (b23.mono s1), rfl, Nat.le_refl _⟩
  show MeterAt w3 gx bx 0 nm Ax n cx brs P (lookL [])
  rw [lookL_nil]
  exact hx3

set_option maxRecDepth 100000 in
set_option maxHeartbeats 4000000 in
theorem taxmeter_any {w : World} {A0 : Option Addr} {n0 : Nat} (c0 : Nat) {zs : List Int} {A1 : Option Addr} {n1 : Nat} (c1 : Nat) {ms : List Int} (per : Int) {A3 : Option Addr} {n3 : Nat} (c3 : Nat) {os : List Int} (h : IntsV w A0 n0 zs) (hm : IntsV w A1 n1 ms) (ho : IntsV w A3 n3 os) (hs : n1 * 8 ≤ 140737488351232) (hs3 : n3 * 8 ≤ 140737488351232) (hT : Tab w)
    (x0 : -9223372036854775808 ≤ per) (x1 : per ≤ 9223372036854775807) :
    Calls Tryz.prog 7 #[.slice A0 n0 c0, .slice A1 n1 c1, .int .i64 per, .slice A3 n3 c3] w fun e w' => e = .returned (.bool true) ∧ Below w.heap.size w w' := by
  have K := Lib.hid (taxbent_any c0 c1 h hm hs)
  have HT := Lib.hid hT
  have HO := Lib.hid ho
  clear h hm hT ho
  have a1 := around_lo per 12 (by omega)
  have a2 := around_hi per 12 (by omega)
  go_enter Tryz.func7, Tryz.ntmps7
  go_wp2_with fail
  (with_reducible refine K.out.mono ?_)
  rintro e w1 ⟨nm, A, n, c, brs, rfl, hnm, hrow, hn, h100, hB1⟩
  clear K
  have hb0 : Below w1.heap.size w1 (w1.alloc (.cells #[.string nm, .slice A n c] 25)) := (Below.refl _ _).alloc (Nat.le_refl _) _
  have L1 : TaxAt (w1.alloc (.cells #[.string nm, .slice A n c] 25)) w1.heap.size nm A n c brs :=
    ⟨by simp, by simp, by simp, (hrow.below hb0).more hb0.size, hn, by omega, hnm.plain, (HT.out.below hB1 HT.out.1).below hb0 (Nat.lt_of_lt_of_le HT.out.1 hB1.size)⟩
  have B2 : Below w.heap.size w (w1.alloc (.cells #[.string nm, .slice A n c] 25)) := hB1.alloc hB1.size _
  have kb := Bk.new w1 25 [.string nm, .slice A n c]
  have HL := Lib.hid L1
  have HB := Lib.hid B2
  have HN := Lib.hid hnm
  have HKB := Lib.hid kb
  clear hrow hb0 L1 B2 hnm HT hn hB1 kb
  go_wp2_with fail
  generalize hW : w1.alloc (.cells #[.string nm, .slice A n c] 25) = W at HL HB HKB ⊢
  generalize w1.heap.size = g at *
  clear hW w1
  (with_reducible refine (around_any per 12 _ x0 x1 (by omega) (by omega)).mono ?_)
  rintro e w' ⟨rfl, rfl⟩
  go_wp2_with fail
  (with_reducible refine (around_any per 9 _ x0 x1 (by omega) (by omega)).mono ?_)
  rintro e w' ⟨rfl, rfl⟩
  generalize around per 12 = P12 at *
  go_upto_if 33 with fail
  go_cut [10] (fun b wx => ∃ P, b = .int .i64 P ∧ In64 P ∧ wx = W)
  case first =>
    generalize around per 9 = P9 at *
    go_wp2
    all_goals go_meet
    all_goals exact ⟨_, rfl, ⟨by omega, by omega⟩, rfl⟩
  case rest =>
    obtain ⟨P, rfl, hP, rfl⟩ := hcut
    clear a1 a2
    have t0 := HL.out.c0
    have t1 := HL.out.c1
    have tg := HL.out.lt
    have RN : Hid (∀ V : World, Below wc.heap.size wc V → Calls Tryz.prog 29 #[.agg #[.string nm, .slice A n c], .int .i64 P] V (RNewPost V nm A n c brs P)) := fun V hV => rNew_any c P (HL.out.below hV).v HN.out
    rcases newE_cases nm brs P with ⟨hE, hv, p0, p1⟩ | ⟨hE, _⟩
    · have KN := Lib.hid (New_good c P HL.out.v hv p0 p1)
      have HV := Lib.hid hv
      have HE0 := Lib.hid hE
      clear hv hE
      go_wp2_with fail
      (with_reducible refine KN.out.mono ?_)
      rintro e w2 ⟨gx, bx, Ax, cx, rfl, hx, hgx, hbx, hb2⟩
      clear KN
      have u0 : w2.cell? ⟨g, 0, none⟩ = some (.string nm) := (hb2.cell (p := ⟨g, 0, none⟩) tg).trans t0
      have u1 : w2.cell? ⟨g, 1, none⟩ = some (.slice A n c) := (hb2.cell (p := ⟨g, 1, none⟩) tg).trans t1
      clear t0 t1 tg
      have HX := Lib.hid hx
      have HB2 := Lib.hid hb2
      clear hx hb2
      go_wp2_with fail
      (with_reducible refine (RN.out _ HB2.out).mono ?_)
      rintro e w3 ⟨gy, rfl, hky, hgy, hb3⟩
      obtain ⟨hpair, henv⟩ := pair_start HL.out HKB.out HB.out HN.out HV.out HX.out hgx hbx HB2.out hky hgy hb3
      rw [HE0.out]
      have HPR := Lib.hid hpair
      have HEN := Lib.hid henv
      have hw3 : 1 ≤ P ∧ P ≤ 1099511627776 := ⟨p0, p1⟩
      clear hpair henv hky hb3 HX HB2 RN HL HB HKB HN HV HE0 u0 u1 hgx hbx hgy
      go_wp2_with fail
      generalize (⟨nm, A, n, c, brs, P, Ax, cx, w3.heap.size, w.heap.size⟩ : Con) = k at HPR HEN
      go_loopw [15, 16, 17] (fun cv dv i wr => ∃ (r : Nat) (q : PM), i = .int .i64 (3 * (r : Int)) ∧ r ≤ 12 ∧ Env w wr k g ∧ Pair wr k q ∧ q.gx = gx ∧ q.gy = gy ∧ q.cnt ≤ r ∧ Second wr k q r cv dv) (fun _ _ i _ => 40 - (intOf i).toNat)
      case atStart => exact ⟨0, _, rfl, by omega, HEN.out, HPR.out, rfl, rfl, Nat.le_refl _, .inl ⟨rfl, rfl⟩⟩
      case round =>
        clear HPR HEN
        obtain ⟨r, q, rfl, hr, hE, hPr, rfl, rfl, hcnt, hS⟩ := hrel
        have HE := Lib.hid hE
        have HP := Lib.hid hPr
        have HS := Lib.hid hS
        clear hE hPr hS
        have hw2 : IntKind.i64.wrap (3 * (r : Int) + 2) = 3 * (r : Int) + 2 := IntWalk.i64_in _ (by omega)
        by_cases hc1 : 3 * r + 2 < n3
        · by_cases hc2 : r < 12
          · have hol := HO.out.len
            obtain ⟨b3, o3, rfl, hb3, hc3⟩ := HO.out.row.at_ 0 (by rw [ints_length]; omega)
            have hcw : ∀ j u, (ints os)[j]? = some u → wr.cell? ⟨b3, o3 + j, none⟩ = some u := fun j u hu => (HE.out.bel.cell (p := ⟨b3, o3 + j, none⟩) hb3).trans (hc3 j u hu)
            have e0 := hcw _ _ (ints_at os (3 * r) (by omega))
            have e1 := hcw _ _ (ints_at os (3 * r + 1) (by omega))
            have e2 := hcw _ _ (ints_at os (3 * r + 2) (by omega))
            have z0 := HO.out.wf.at_ (3 * r)
            have z1 := HO.out.wf.at_ (3 * r + 1)
            have z2 := HO.out.wf.at_ (3 * r + 2)
            generalize os[3 * r]?.getD 0 = v0 at e0 z0
            generalize os[3 * r + 1]?.getD 0 = v1 at e1 z1
            generalize os[3 * r + 2]?.getD 0 = v2 at e2 z2
            have hbw : b3 < wr.heap.size := Nat.lt_of_lt_of_le hb3 HE.out.bel.size
            clear hcw hc3 hol
            have f0 := around_lo v0 8 (by omega)
            have f1 := around_hi v0 8 (by omega)
            obtain ⟨j, hj⟩ : ∃ j : Nat, around v0 8 = j := ⟨(around v0 8).toNat, by omega⟩
            have K8 := Lib.hid (fun V => around_any v0 8 V z0.1 z0.2 (by omega) (by omega))
            rw [hj] at K8 f1
            obtain ⟨ac, hac, hin⟩ := eight_at j (by omega)
            have hcell : (wr.alloc (.cells eight 3)).cell? ⟨wr.heap.size, j, none⟩ = some (.int .i64 ac) := (World.cell?_alloc_at (w := wr) _ _ _ _ rfl).trans hac
            have i0 : ((3 * (r : Int)).toNat) = 3 * r := by omega
            have i1 : (0 : Int) ≤ 3 * (r : Int) := by omega
            have i2 : 3 * (r : Int) < (n3 : Int) := by omega
            have i3 : 3 * r < n3 := by omega
            clear hj f0 hac
            go_wp2_with fail
            (with_reducible refine (K8.out _).mono ?_)
            rintro e w' ⟨rfl, rfl⟩
            go_wp2_with fail
            have hb1 : Below wr.heap.size wr (wr.alloc (.cells eight 3)) := (Below.refl _ _).alloc (Nat.le_refl _) _
            have HE1 := Lib.hid (HE.out.below hb1)
            have HP1 := Lib.hid (HP.out.below hb1)
            have HS1 := Lib.hid (HS.out.below hb1)
            have e0' := (hb1.cell (p := ⟨b3, o3 + 3 * r, none⟩) hbw).trans e0
            have e1' := (hb1.cell (p := ⟨b3, o3 + (3 * r + 1), none⟩) hbw).trans e1
            have e2' := (hb1.cell (p := ⟨b3, o3 + (3 * r + 2), none⟩) hbw).trans e2
            have hbw' : b3 < (wr.alloc (.cells eight 3)).heap.size := Nat.lt_of_lt_of_le hbw hb1.size
            clear HE HP HS e0 e1 e2 hbw hb1 hcell K8
            generalize wr.alloc (.cells eight 3) = V at *
            generalize wr.heap.size = gE at *
            have t0 : V.cell? ⟨g, 0, none⟩ = some (.string k.nm) := HE1.out.box.cell 0
            have t1 : V.cell? ⟨g, 1, none⟩ = some (.slice k.A k.n k.c) := HE1.out.box.cell 1
            have tg := HE1.out.box.lt
            have B0 : Below V.heap.size V V := Below.refl _ _
            have KS : Hid (∀ U : World, Below V.heap.size V U → Calls Tryz.prog 11 #[.agg #[.string k.nm, .slice k.A k.n k.c], .int .i64 v1] U fun e w' => e = .returned (.int .i64 (sumOf k.brs v1)) ∧ Below U.heap.size U w') := fun U hU => Sum_any k.c v1 (HP1.out.below hU).y.tax.row (HP1.out.below hU).y.tax.len z1.1 z1.2
            generalize sumOf k.brs v1 = s0 at KS
            have HC : Hid (∀ U : World, Below V.heap.size V U → U.cell? ⟨g, 0, none⟩ = some (.string k.nm) ∧ U.cell? ⟨g, 1, none⟩ = some (.slice k.A k.n k.c) ∧ U.cell? ⟨b3, o3 + (3 * r + 1), none⟩ = some (.int .i64 v1)) := fun U hU =>
              ⟨(hU.cell (p := ⟨g, 0, none⟩) tg).trans t0, (hU.cell (p := ⟨g, 1, none⟩) tg).trans t1, (hU.cell (p := ⟨b3, o3 + (3 * r + 1), none⟩) hbw').trans e1'⟩
            have j0 : IntKind.i64.wrap (3 * (r : Int) + 1) = 3 * (r : Int) + 1 := IntWalk.i64_in _ (by omega)
            have j1 : (3 * (r : Int) + 1).toNat = 3 * r + 1 := by omega
            have j2 : (0 : Int) ≤ 3 * (r : Int) + 1 := by omega
            have j3 : 3 * (r : Int) + 1 < (n3 : Int) := by omega
            have j4 : 3 * r + 1 < n3 := by omega
            go_region_held3 (fun U => U.cell? ⟨g, 0, none⟩ = some (.string k.nm) ∧ U.cell? ⟨g, 1, none⟩ = some (.slice k.A k.n k.c) ∧ U.cell? ⟨b3, o3 + (3 * r + 1), none⟩ = some (.int .i64 v1)) (first | exact HC.out _ B0.drew | exact HC.out _ B1) (first | (go_at_call 11; (with_reducible refine (KS.out _ B0.drew).mono ?_); rintro e wa ⟨rfl, hba⟩; have B1 := B0.drew.trans hba))
            have HE2 := Lib.hid (HE1.out.below B1)
            have HP2 := Lib.hid (HP1.out.below B1)
            have HS2 := Lib.hid (HS1.out.below B1)
            have d0 := (B1.cell (p := ⟨b3, o3 + 3 * r, none⟩) hbw').trans e0'
            have d1 := (B1.cell (p := ⟨b3, o3 + (3 * r + 1), none⟩) hbw').trans e1'
            have d2 := (B1.cell (p := ⟨b3, o3 + (3 * r + 2), none⟩) hbw').trans e2'
            have hbA : b3 < wa.heap.size := Nat.lt_of_lt_of_le hbw' B1.size
            clear HE1 HP1 HS1 e0' e1' e2' hbw' hba B0 B1 t0 t1 tg HC KS
            have f12 := around_lo v2 12 (by omega)
            have f13 := around_hi v2 12 (by omega)
            have k0 : (3 * (r : Int)) / 3 = r := by omega
            have k1 : (3 * (r : Int)).tdiv 3 = r := by rw [Int.tdiv_eq_ediv_of_nonneg (by omega)]; exact k0
            have k2 : (3 * (r : Int) + 2).toNat = 3 * r + 2 := by omega
            have k3 : (0 : Int) ≤ 3 * (r : Int) + 2 := by omega
            have k4 : 3 * (r : Int) + 2 < (n3 : Int) := by omega
            have k5 : 3 * r + 2 < n3 := by omega
            go_wp2_with fail
            (with_reducible refine (around_any v2 12 _ z2.1 z2.2 (by omega) (by omega)).mono ?_)
            rintro e w' ⟨rfl, rfl⟩
            generalize around v2 12 = t12 at *
            go_wp2_with fail
            (with_reducible refine (around_any v2 50 _ z2.1 z2.2 (by omega) (by omega)).mono ?_)
            rintro e w' ⟨rfl, rfl⟩
            generalize around v2 50 = t50 at *
            go_upto_if 103 with fail
            go_cut [19, 20] (fun sv tv wx => ∃ s t, sv = .int .i64 s ∧ tv = .int .i64 t ∧ In64 t ∧ wx = wa)
            case first =>
              go_wp2
              all_goals go_meet
              all_goals exact ⟨_, _, rfl, rfl, ⟨by omega, by omega⟩, rfl⟩
            case rest =>
              obtain ⟨s, t, rfl, rfl, ht, hwx⟩ := hcut
              rw [← hwx] at HE2 HP2 HS2
              clear hwx d0 d1 d2 hbA k0 k1 k2 k3 k4 k5 j0 j1 j2 j3 j4 f12 f13 t12 t50
              generalize wc = V2 at *
              obtain ⟨tp, htp⟩ : ∃ tp, IntKind.i64.wrap (t + P) = tp := ⟨_, rfl⟩
              have inTp : In64 tp := by rw [← htp]; exact in64_wrap _
              obtain ⟨ti, hti⟩ : ∃ ti, IntKind.i64.wrap (t + 3 * (r : Int)) = ti := ⟨_, rfl⟩
              have inTi : In64 ti := by rw [← hti]; exact in64_wrap _
              have ITP := Lib.hid inTp
              have ITI := Lib.hid inTi
              have IT := Lib.hid ht
              have IA := Lib.hid hin
              clear inTp inTi ht hin
              have hKX := HP2.out.kx ac s t IA.out IT.out (by omega)
              have hKY := fun (w1 : World) (hg : V2.grownBy w1 (some q.bx)) => HP2.out.ky hg HE2.out.sz ac s t IA.out IT.out (by omega)
              unfold ChargePost at hKX
              unfold RChargePost at hKY
              generalize chargeR k.nm k.brs k.p (lookL q.L) ac s t = C at hKX hKY
              have KX := Lib.hid hKX
              have KY := Lib.hid hKY
              clear hKX hKY
              have hEE : ∀ z : Int, (z != z) = false := fun z => by simp
              go_wp2_with fail
              (with_reducible refine KX.out.mono ?_)
              rintro e w4 ⟨rfl, hm4, hg4⟩
              have HM4 := Lib.hid hm4
              have HG4 := Lib.hid hg4
              clear hm4 hg4 KX
              go_wp2_with fail
              (with_reducible refine (KY.out _ HG4.out).mono ?_)
              rintro e w5 ⟨rfl, v5, hr5, hf5, hl5⟩
              have hP5 := HP2.out.charged HM4.out HG4.out hr5 hf5
              have hE5 := HE2.out.step HP2.out HG4.out hf5
              have hS5 := HS2.out.charged (a := ac) (s := s) (t := t) HP2.out HG4.out hf5 hl5
              have x5 : (q.next k ac s t v5).gx = q.gx := rfl
              have y5 : (q.next k ac s t v5).gy = q.gy := rfl
              have n5 : (q.next k ac s t v5).cnt = q.cnt + 1 := rfl
              clear hr5 hf5 hl5 KY
              generalize q.next k ac s t v5 = q5 at *
              have HP5 := Lib.hid hP5
              have HE5 := Lib.hid hE5
              have HS5 := Lib.hid hS5
              have X5 := Lib.hid x5
              have Y5 := Lib.hid y5
              have N5 := Lib.hid n5
              clear hP5 hE5 hS5 x5 y5 n5 HM4 HG4 HE2 HP2 HS2 v5
              have hc5 : q5.cnt ≤ r + 1 := by rw [N5.out]; omega
              have hc9 : q5.cnt < 900 := by omega
              have hKS := fun (T : Int) (hT : In64 T) (U : World) (hU : Below w5.heap.size w5 U) => HP5.out.same_at hU T hT hc9 X5.out Y5.out
              have KS := Lib.hid hKS
              clear hKS
              go_wp2_with fail
              (with_reducible refine (KS.out t IT.out _ (Below.refl _ _)).mono ?_)
              rintro e w6 ⟨rfl, hb6⟩
              have HB6 := Lib.hid hb6
              clear hb6
              go_wp2_with fail
              (with_reducible refine (KS.out tp ITP.out _ HB6.out).mono ?_)
              rintro e w7 ⟨rfl, hb7⟩
              have hb7 : Below w5.heap.size w5 w7 := HB6.out.trans (hb7.mono HB6.out.size)
              have HP7 := Lib.hid (HP5.out.below hb7)
              have HE7 := Lib.hid (HE5.out.below hb7)
              have HS7 := Lib.hid (HS5.out.below hb7)
              clear hb7 HB6 KS HP5 HE5 HS5 htp
              generalize w7 = V7 at *
              go_upto_if 154 with fail
              go_cut [15, 16] (fun cv dv wx => Env w wx k g ∧ Pair wx k q5 ∧ Second wx k q5 r cv dv)
              case first =>
                by_cases h3 : r = 3
                · subst h3
                  have KC := Lib.hid (copy_any HP7.out.x hc9)
                  have KR := fun (U : World) (hU : Below V7.heap.size V7 U) => rcopy_any (HP7.out.below hU).y (by have := HP7.out.len; omega) (Nat.le_trans HE7.out.sz hU.size)
                  have HKR := Lib.hid KR
                  clear KR
                  rw [X5.out] at KC
                  rw [Y5.out] at HKR
                  go_wp2_with fail
                  (with_reducible refine KC.out.mono ?_)
                  rintro e w8 ⟨gc, bc, rfl, hxc, hgc, hbc, hb8⟩
                  go_wp2_with fail
                  (with_reducible refine (HKR.out _ hb8).mono ?_)
                  rintro e w9 ⟨gd, vd, rfl, hyd, hgd, hvd, hb9⟩
                  have hb79 : Below V7.heap.size V7 w9 := hb8.trans (hb9.mono hb8.size)
                  have HSec := Lib.hid (second_made (r := 3) HP7.out hxc hgc hbc hb8 hyd hgd hvd hb9 hc5)
                  have HP9 := Lib.hid (HP7.out.below hb79)
                  have HE9 := Lib.hid (HE7.out.below hb79)
                  clear hxc hyd hb8 hb9 hb79 KC HKR HP7 HE7 HS7
                  go_wp2
                  go_meet
                  exact ⟨HE9.out, HP9.out, HSec.out⟩
                · have h9 : (3 * (r : Int) == 9) = false := by simp; omega
                  go_wp2
                  go_meet
                  exact ⟨HE7.out, HP7.out, HS7.out⟩
              case rest =>
                obtain ⟨hE8, hP8, hS8⟩ := hcut
                clear HE7 HP7 HS7
                generalize wc = V8 at *
                rcases hS8 with ⟨rfl, rfl⟩ | ⟨q2, rfl, rfl, hP2, hSep, hc2'⟩
                · have HE8 := Lib.hid hE8
                  have HP8 := Lib.hid hP8
                  clear hE8 hP8
                  go_wp2
                  go_roundw
                  case rel => exact ⟨r + 1, q5, by go_num, by omega, HE8.out, HP8.out, X5.out, Y5.out, hc5, .inl ⟨rfl, rfl⟩⟩
                  case measure => simp [intOf]; omega
                · have hKX := hP2.kx 2 7 ti ⟨by omega, by omega⟩ ITI.out (by omega)
                  have hKY := fun (w1 : World) (hg : V8.grownBy w1 (some q2.bx)) => hP2.ky hg hE8.sz 2 7 ti ⟨by omega, by omega⟩ ITI.out (by omega)
                  unfold ChargePost at hKX
                  unfold RChargePost at hKY
                  generalize chargeR k.nm k.brs k.p (lookL q2.L) 2 7 ti = C2 at hKX hKY
                  have KX := Lib.hid hKX
                  have KY := Lib.hid hKY
                  have HE8 := Lib.hid hE8
                  have HP8 := Lib.hid hP8
                  have HQ2 := Lib.hid hP2
                  have HSep := Lib.hid hSep
                  clear hKX hKY hE8 hP8 hP2 hSep
                  go_wp2_with fail
                  (with_reducible refine KX.out.mono ?_)
                  rintro e w4 ⟨rfl, hm4, hg4⟩
                  have HM4 := Lib.hid hm4
                  have HG4 := Lib.hid hg4
                  clear hm4 hg4 KX
                  go_wp2_with fail
                  (with_reducible refine (KY.out _ HG4.out).mono ?_)
                  rintro e w5 ⟨rfl, v5, hr5, hf5, hl5⟩
                  have hP5 := HQ2.out.charged HM4.out HG4.out hr5 hf5
                  have hE5 := HE8.out.step HQ2.out HG4.out hf5
                  have hK5 := HP8.out.kept HQ2.out HSep.out.symm HG4.out hf5
                  have hS5 := (HSep.out.symm.next (a := 2) (s := 7) (t := ti) HP8.out HG4.out hl5).symm
                  have x6 : (q2.next k 2 7 ti v5).gx = q2.gx := rfl
                  have y6 : (q2.next k 2 7 ti v5).gy = q2.gy := rfl
                  have n6 : (q2.next k 2 7 ti v5).cnt = q2.cnt + 1 := rfl
                  clear hr5 hf5 hl5 KY
                  generalize q2.next k 2 7 ti v5 = q6 at *
                  have HP5 := Lib.hid hP5
                  have HE5 := Lib.hid hE5
                  have HK5 := Lib.hid hK5
                  have HS5 := Lib.hid hS5
                  have X6 := Lib.hid x6
                  have Y6 := Lib.hid y6
                  have N6 := Lib.hid n6
                  clear hP5 hE5 hK5 hS5 x6 y6 n6 HM4 HG4 HE8 HP8 HQ2 HSep
                  have hc6 : q6.cnt ≤ r + 1 + 1 := by rw [N6.out]; omega
                  have hc96 : q6.cnt < 900 := by omega
                  have hKS := fun (T : Int) (hT : In64 T) (U : World) (hU : Below w5.heap.size w5 U) => HP5.out.same_at hU T hT hc96 X6.out Y6.out
                  have KS := Lib.hid hKS
                  have hKT := fun (T : Int) (hT : In64 T) (U : World) (hU : Below w5.heap.size w5 U) => HK5.out.same_at hU T hT hc9 X5.out Y5.out
                  have KT := Lib.hid hKT
                  clear hKS hKT
                  go_wp2_with fail
                  (with_reducible refine (KS.out ti ITI.out _ (Below.refl _ _)).mono ?_)
                  rintro e w6 ⟨rfl, hb6⟩
                  have HB6 := Lib.hid hb6
                  clear hb6
                  go_wp2_with fail
                  (with_reducible refine (KT.out ti ITI.out _ HB6.out).mono ?_)
                  rintro e w7 ⟨rfl, hb7⟩
                  have hb7 : Below w5.heap.size w5 w7 := HB6.out.trans (hb7.mono HB6.out.size)
                  have HP7 := Lib.hid (HP5.out.below hb7)
                  have HK7 := Lib.hid (HK5.out.below hb7)
                  have HE7 := Lib.hid (HE5.out.below hb7)
                  clear hb7 HB6 KS KT HP5 HE5 HK5
                  go_wp2
                  go_roundw
                  case rel => exact ⟨r + 1, q5, by go_num, by omega, HE7.out, HK7.out, X5.out, Y5.out, hc5, .inr ⟨q6, by rw [X6.out], by rw [Y6.out], HP7.out, HS5.out, hc6⟩⟩
                  case measure => simp [intOf]; omega
          · have hr12 : r = 12 := by omega
            subst hr12
            have HT9 := Lib.hid HP.out.y.tax.tab
            have HB9 := Lib.hid HE.out.bel
            clear HE HP HS
            go_wp2_with fail
            (with_reducible refine (lives_any _ HT9.out).mono ?_)
            rintro e w9 ⟨rfl, hb⟩
            have HBF := HB9.out.trans (hb.mono HB9.out.size)
            go_wp2
            go_ret
            exact ⟨rfl, HBF⟩
        · have HT9 := Lib.hid HP.out.y.tax.tab
          have HB9 := Lib.hid HE.out.bel
          clear HE HP HS
          go_wp2_with fail
          (with_reducible refine (lives_any _ HT9.out).mono ?_)
          rintro e w9 ⟨rfl, hb⟩
          have HBF := HB9.out.trans (hb.mono HB9.out.size)
          go_wp2
          go_ret
          exact ⟨rfl, HBF⟩
    · have KN := Lib.hid (New_bad c P HL.out.v hE)
      have HTB := Lib.hid HL.out.tab
      have HBB := Lib.hid HB.out
      clear HL HB HKB HN
      have hRN := RN.out
      clear RN
      unfold RNewPost at hRN
      have RN := Lib.hid hRN
      clear hRN
      generalize newE nm brs P = E at *
      have hEE : ∀ z : Int, (z != z) = false := fun z => by simp
      go_wp2_with fail
      (with_reducible refine KN.out.mono ?_)
      rintro e w2 ⟨rfl, hb2⟩
      have HB2 := Lib.hid hb2
      have u0 : w2.cell? ⟨g, 0, none⟩ = some (.string nm) := (hb2.cell (p := ⟨g, 0, none⟩) tg).trans t0
      have u1 : w2.cell? ⟨g, 1, none⟩ = some (.slice A n c) := (hb2.cell (p := ⟨g, 1, none⟩) tg).trans t1
      clear hb2 t0 t1 tg KN
      go_wp2_with fail
      (with_reducible refine (RN.out _ HB2.out).mono ?_)
      rintro e w3 ⟨gy, rfl, _, _, hb3⟩
      have HB3 := Lib.hid (HB2.out.trans (hb3.mono HB2.out.size))
      clear hb3 u0 u1 RN
      have HT3 := Lib.hid (HTB.out.below HB3.out HTB.out.1)
      go_wp2_with fail
      (with_reducible refine (lives_any _ HT3.out).mono ?_)
      rintro e w9 ⟨rfl, hb⟩
      have G1 := HBB.out.trans (HB3.out.mono HBB.out.size)
      have HB9 := G1.trans (hb.mono G1.size)
      go_wp2
      go_ret
      exact ⟨rfl, HB9⟩

end Go.Proofs.YtlgedljhheficaaGreatDoor
