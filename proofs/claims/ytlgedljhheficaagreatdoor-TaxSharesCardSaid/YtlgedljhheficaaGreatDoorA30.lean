/- A meter: its block and its map; the contract of Meter.Sum. -/
import Derived.Test.YtlgedljhheficaaGreatDoorA28
import Derived.Maps.Own
import Derived.Maps.OwnOps
import Derived.Maps.OwnSet
import Derived.BigQuiet
namespace Go.Proofs.YtlgedljhheficaaGreatDoor
open Go.RowKit

def totD (v : Int × Int) : DataW Unit := .agg [.lit (.int .i64 v.1), .lit (.int .i64 v.2)]
def totElem (v : Value) : Option (DataW Unit × List MemPlace) :=
  match v with
  | .agg xs => match xs.toList with
    | [.int .i64 p, .int .i64 s] => some (totD (p, s), [])
    | _ => none
  | _ => none
theorem totElem_mk (p s : Int) : totElem (.agg #[.int .i64 p, .int .i64 s]) = some (totD (p, s), []) := rfl
theorem totElem_inv {v : Value} {d : DataW Unit} {ps : List MemPlace} (h : totElem v = some (d, ps)) : ∃ p s, v = .agg #[.int .i64 p, .int .i64 s] ∧ d = totD (p, s) := by
  unfold totElem at h
  split at h
  · rename_i xs
    split at h
    · rename_i p s hx
      cases h
      exact ⟨p, s, by rw [← hx], rfl⟩
    · cases h
  · cases h
theorem totD_inj {a b : Int × Int} (h : totD a = totD b) : a = b := by
  obtain ⟨a1, a2⟩ := a
  obtain ⟨b1, b2⟩ := b
  simpa [totD] using h

def In64 (a : Int) : Prop := -9223372036854775808 ≤ a ∧ a ≤ 9223372036854775807
/-- The map at block b: M. -/
def MapT (w : World) (b n : Nat) (M : Int → Option (Int × Int)) : Prop :=
  ∃ D : DataW Unit, w.ownsMap Tryz.prog 3 totElem b n D ∧ ∀ a, Maps.has D (.int .i64 a) = (M a).isSome ∧ D.atKey (.int .i64 a) (totD (0, 0)) = totD ((M a).getD (0, 0))

theorem zero75 (w : World) : (zeroValue 75).run Tryz.prog w = .ok (.agg #[.int .i64 0, .int .i64 0]) w := by kernel_rfl
theorem key_int {a : Int} (h : In64 a) : keyOf Tryz.prog 3 (.int .i64 a) = some (.int .i64 a) := Maps.keyOf_int_mk Tryz.underlying3 (WalkArith.wf_i64 h)
theorem keyLit (a : Int) : WideAt.IsKeyLit (.int .i64 a) := by simp [WideAt.IsKeyLit]

theorem MapT.made (w : World) : MapT (w.alloc (.map #[] 0)) w.heap.size 0 fun _ => none :=
  ⟨_, World.ownsMap_made w Tryz.prog 3 totElem, fun _ => ⟨rfl, rfl⟩⟩
theorem MapT.kept {w w' : World} {b n : Nat} {M : Int → Option (Int × Int)} {row : Option Nat} (h : MapT w b n M) (hg : w.grownBy w' row) (hne : some b ≠ row) : MapT w' b n M := by
  obtain ⟨D, ho, hD⟩ := h
  exact ⟨D, ho.kept hg hne, hD⟩
theorem MapT.lt {w : World} {b n : Nat} {M : Int → Option (Int × Int)} (h : MapT w b n M) : b < w.heap.size := by
  obtain ⟨D, ho, hD⟩ := h
  exact ho.lt
theorem MapT.look {w : World} {b n : Nat} {M : Int → Option (Int × Int)} (h : MapT w b n M) {a : Int} (ha : In64 a) :
    (Instr.lookup 71 (.map (some b)) (.int .i64 a) false).run Tryz.prog w = .ok (.agg #[.int .i64 ((M a).getD (0, 0)).1, .int .i64 ((M a).getD (0, 0)).2]) w := by
  obtain ⟨D, ho, hD⟩ := h
  obtain ⟨v, ps, hrun, hv⟩ := ho.lookup (Maps.int_keyed Tryz.underlying3) Tryz.underlying71 (zero75 w) (totElem_mk 0 0) (key_int ha)
  obtain ⟨p, s, rfl, hd⟩ := totElem_inv hv
  rw [(hD a).2] at hd
  have := totD_inj hd
  rw [this]
  exact hrun
theorem MapT.look_ok {w : World} {b n : Nat} {M : Int → Option (Int × Int)} (h : MapT w b n M) {a : Int} (ha : In64 a) :
    (Instr.lookup 71 (.map (some b)) (.int .i64 a) true).run Tryz.prog w = .ok (.tuple #[.agg #[.int .i64 ((M a).getD (0, 0)).1, .int .i64 ((M a).getD (0, 0)).2], .bool (M a).isSome]) w := by
  obtain ⟨D, ho, hD⟩ := h
  obtain ⟨v, ps, hrun, hv⟩ := ho.look_ok (Maps.int_keyed Tryz.underlying3) Tryz.underlying71 (zero75 w) (totElem_mk 0 0) (key_int ha)
  obtain ⟨p, s, rfl, hd⟩ := totElem_inv hv
  rw [(hD a).2] at hd
  have := totD_inj hd
  rw [this, ← (hD a).1]
  exact hrun
def upd (M : Int → Option (Int × Int)) (a : Int) (v : Int × Int) : Int → Option (Int × Int) := fun x => if x = a then some v else M x
theorem MapT.update {w : World} {b n : Nat} {M : Int → Option (Int × Int)} (h : MapT w b n M) {a : Int} (ha : In64 a) (p s : Int) (hn : n < 1000) :
    ∃ w', (Instr.mapUpdate 71 (.map (some b)) (.int .i64 a) (.agg #[.int .i64 p, .int .i64 s])).run Tryz.prog w = .ok () w' ∧ MapT w' b (n + 1) (upd M a (p, s)) ∧ w.grownBy w' (some b) := by
  obtain ⟨D, ho, hD⟩ := h
  obtain ⟨w', hrun, ho', hg⟩ := ho.update (Maps.int_keyed Tryz.underlying3) Tryz.underlying71 (by unfold maxLen; omega) (key_int ha) (totElem_mk p s)
  refine ⟨w', hrun, ⟨_, ho', fun x => ?_⟩, hg⟩
  by_cases hx : x = a
  · subst hx
    rw [Maps.has_put_same ho.isMap (keyLit x), Maps.atKey_put_same ho.isMap (keyLit x)]
    simp [upd]
  · have hne : (Lit.int .i64 x) ≠ .int .i64 a := by simpa using hx
    rw [Maps.has_put_other hne, Maps.atKey_put_other hne]
    simpa [upd, hx] using hD x

/-- What stays while a map at block b is written. -/
theorem cell_grown {w w' : World} {b n : Nat} {M : Int → Option (Int × Int)} (hm : MapT w b n M) (hg : w.grownBy w' (some b)) {p : Addr} {u : Value} (h : w.cell? p = some u) : w'.cell? p = some u := by
  have hne : p.block ≠ b := by
    intro e
    obtain ⟨D, ⟨es, clock, hb, _⟩, _⟩ := hm
    rw [← e] at hb
    simp [World.cell?, hb] at h
  have hlt : p.block < w.heap.size := by
    rcases Nat.lt_or_ge p.block w.heap.size with h1 | h1
    · exact h1
    · simp [World.cell?, Array.getElem?_eq_none h1] at h
  exact (World.cell?_of_block (w := w) (hg.block p.block hlt (fun e => hne (Option.some.inj e)))).trans h
theorem Row.grown {w w' : World} {b n B : Nat} {M : Int → Option (Int × Int)} {A : Option Addr} {xs : List Value} (h : Row w B A xs) (hm : MapT w b n M) (hg : w.grownBy w' (some b)) : Row w' B A xs := by
  rcases h with rfl | ⟨b', off, rfl, hb, hc⟩
  · exact .inl rfl
  · exact .inr ⟨b', off, rfl, hb, fun j u hu => cell_grown hm hg (hc j u hu)⟩
theorem Tab.grown {w w' : World} {b n : Nat} {M : Int → Option (Int × Int)} (h : Tab w) (hm : MapT w b n M) (hg : w.grownBy w' (some b)) : Tab w' :=
  ⟨Nat.le_trans h.1 hg.size, fun i hi => cell_grown hm hg (h.2 i hi)⟩
theorem TaxV.grown {w w' : World} {b n m : Nat} {M : Int → Option (Int × Int)} {nm : ByteArray} {A : Option Addr} {brs : List (Int × Int)} (h : TaxV w nm A m brs) (hm : MapT w b n M) (hg : w.grownBy w' (some b)) : TaxV w' nm A m brs :=
  ⟨(h.row.grown hm hg).more hg.size, h.len, h.small, h.name, h.tab.grown hm hg⟩
theorem IntsV.grown {w w' : World} {b n m : Nat} {M : Int → Option (Int × Int)} {A : Option Addr} {zs : List Int} (h : IntsV w A m zs) (hm : MapT w b n M) (hg : w.grownBy w' (some b)) : IntsV w' A m zs :=
  ⟨(h.row.grown hm hg).more hg.size, h.len, h.wf⟩

/-- A meter at block g. -/
structure MeterAt (w : World) (g b cnt : Nat) (nm : ByteArray) (A : Option Addr) (n c : Nat) (brs : List (Int × Int)) (p : Int) (M : Int → Option (Int × Int)) : Prop where
  bk : Bk w g 73 [.string nm, .slice A n c, .int .i64 p, .map (some b)]
  map : MapT w b cnt M
  tax : TaxV w nm A n brs
  p0 : 1 ≤ p
  p1 : p ≤ 1099511627776
  wf : ∀ a v, M a = some v → 0 ≤ v.1 ∧ v.1 ≤ 1099511627776 ∧ 0 ≤ v.2 ∧ v.2 ≤ 1099511627776
section
variable {w w' : World} {g b cnt : Nat} {nm : ByteArray} {A : Option Addr} {n c : Nat} {brs : List (Int × Int)} {p : Int} {M : Int → Option (Int × Int)}
theorem MeterAt.below (h : MeterAt w g b cnt nm A n c brs p M) (hb : Below w.heap.size w w') : MeterAt w' g b cnt nm A n c brs p M :=
  ⟨h.bk.below hb h.bk.lt, h.map.kept (grown_of_below hb none) (by simp), h.tax.below hb, h.p0, h.p1, h.wf⟩
theorem MeterAt.ne (h : MeterAt w g b cnt nm A n c brs p M) : g ≠ b := by
  intro e
  obtain ⟨D, ⟨es, clock, hb, _⟩, _⟩ := h.map
  have := h.bk
  unfold Bk at this
  rw [e, hb] at this
  simp at this
theorem MeterAt.c0 (h : MeterAt w g b cnt nm A n c brs p M) : w.cell? ⟨g, 0, none⟩ = some (.string nm) := h.bk.cell 0
theorem MeterAt.c1 (h : MeterAt w g b cnt nm A n c brs p M) : w.cell? ⟨g, 1, none⟩ = some (.slice A n c) := h.bk.cell 1
theorem MeterAt.c2 (h : MeterAt w g b cnt nm A n c brs p M) : w.cell? ⟨g, 2, none⟩ = some (.int .i64 p) := h.bk.cell 2
theorem MeterAt.c3 (h : MeterAt w g b cnt nm A n c brs p M) : w.cell? ⟨g, 3, none⟩ = some (.map (some b)) := h.bk.cell 3

/-- What Meter.Sum returns. -/
def sumM (p : Int) (M : Int → Option (Int × Int)) (a tick : Int) : Int :=
  match M a with
  | some v => if 0 ≤ tick ∧ v.1 = tick / p then v.2 else 0
  | none => 0

set_option maxRecDepth 100000 in
set_option maxHeartbeats 1000000 in
theorem sumM_any (a tick : Int) (h : MeterAt w g b cnt nm A n c brs p M) (ha : In64 a) (ht : In64 tick) :
    Calls Tryz.prog 28 #[.pointer (some ⟨g, 0, none⟩), .int .i64 a, .int .i64 tick] w fun e w' => e = .returned (.int .i64 (sumM p M a tick)) ∧ Below w.heap.size w w' := by
  have hlook := h.map.look_ok ha
  have c2 := h.c2
  have c3 := h.c3
  have p0 := h.p0
  have p1 := h.p1
  have hlt := h.bk.lt
  have hwf := h.wf a
  obtain ⟨t0, t1⟩ := ht
  have hb0 : Below w.heap.size w (w.alloc (.cells #[.int .i64 ((M a).getD (0, 0)).1, .int .i64 ((M a).getD (0, 0)).2] 75)) := (Below.refl _ _).alloc (Nat.le_refl _) _
  have Hb := Lib.hid hb0
  have Hs : Hid (sumM p M a tick = match M a with | some v => if 0 ≤ tick ∧ v.1 = tick / p then v.2 else 0 | none => 0) := rfl
  generalize sumM p M a tick = S at *
  clear h hb0
  cases hM : M a with
  | none =>
    rw [hM] at hlook Hs Hb
    clear hM hwf
    go_enter Tryz.func28, Tryz.ntmps28
    go_wp2
    go_quiet (fail)
    go_wp2
    go_ret
    exact ⟨by rw [Hs.out]; rfl, bel_drewN Hb.out _⟩
  | some v =>
    obtain ⟨v1, v2⟩ := v
    have hv := hwf _ hM
    rw [hM] at hlook Hs Hb
    clear hM hwf
    by_cases hneg : tick < 0
    · go_enter Tryz.func28, Tryz.ntmps28
      go_wp2
      go_quiet (fail)
      go_wp2
      go_ret
      exact ⟨by rw [Hs.out]; simp; omega, bel_drewN Hb.out _⟩
    · have e0 : (p == 0) = false := by simp; omega
      have e1 : ¬ p = 0 := by omega
      have e2 : tick.tdiv p = tick / p := Int.tdiv_eq_ediv_of_nonneg (by omega)
      have e3 : IntKind.i64.wrap (tick / p) = tick / p := IntWalk.i64_in _ (by
        have := Int.ediv_nonneg (a := tick) (b := p) (by omega) (by omega)
        have := Int.ediv_le_self (a := tick) p (by omega)
        omega)
      by_cases heq : v1 = tick / p
      · have hd : (v1 != tick / p) = false := by simpa using heq
        have HE := Lib.hid heq
        clear heq
        go_enter Tryz.func28, Tryz.ntmps28
        go_wp2
        go_quiet (fail)
        go_wp2
        go_ret
        exact ⟨by rw [Hs.out]; simp [HE.out]; omega, bel_drewN Hb.out _⟩
      · have hd : (v1 != tick / p) = true := by simpa using heq
        have HE := Lib.hid heq
        clear heq
        go_enter Tryz.func28, Tryz.ntmps28
        go_wp2
        go_quiet (fail)
        go_wp2
        go_ret
        exact ⟨by rw [Hs.out]; simp [HE.out], bel_drewN Hb.out _⟩
end

end Go.Proofs.YtlgedljhheficaaGreatDoor
