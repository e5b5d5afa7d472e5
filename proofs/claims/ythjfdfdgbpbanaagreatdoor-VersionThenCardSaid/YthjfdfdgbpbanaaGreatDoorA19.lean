/- Maps with strings as keys; the contracts of differ on items and of version.names. -/
import Derived.Test.YthjfdfdgbpbanaaGreatDoorA18
import Derived.Maps.Own
import Derived.Maps.OwnOps
import Derived.Maps.OwnSet
namespace Go.Proofs.YthjfdfdgbpbanaaGreatDoor
open Go.RowKit

theorem grown_of_below {a w : World} (h : Below a.heap.size a w) (row : Option Nat) : a.grownBy w row := ⟨h.os, h.tape, h.output, h.size, fun i hi _ => h.block i hi⟩
theorem zero4 (w : World) : (zeroValue 4).run Tryz.prog w = .ok (.bool false) w := by kernel_rfl
theorem zero3 (w : World) : (zeroValue 3).run Tryz.prog w = .ok (.int .i64 0) w := by kernel_rfl
theorem plainBool_inv {P : Program} {e : TypeId} (he : P.underlying e = some .bool) {v : Value} {z : DataW Unit × List MemPlace} (h : plainElem P e v = some z) : ∃ x, v = .bool x ∧ z = (.lit (.bool x), []) := by
  unfold plainElem at h
  rw [he] at h
  cases v <;> simp_all
theorem key_str {s : ByteArray} (h : s.size ≤ maxLen) : keyOf Tryz.prog 9 (.string s) = some (.string s.data.toList) := WideMaps.keyOf_string_mk Tryz.underlying9 h
theorem keyLit (l : List UInt8) : WideAt.IsKeyLit (.string l) := by simp [WideAt.IsKeyLit]
theorem bytes_inj {s t : ByteArray} (h : s.data.toList = t.data.toList) : s = t := by
  cases s; cases t
  simp only [ByteArray.mk.injEq]
  exact Array.toList_inj.1 h

/-- The map at block b: which strings it holds as true. -/
def MapS (w : World) (b n : Nat) (M : ByteArray → Bool) : Prop :=
  ∃ D : DataW Unit, w.ownsMap Tryz.prog 9 (plainElem Tryz.prog 4) b n D ∧ ∀ s : ByteArray, D.atKey (.string s.data.toList) (.lit (.bool false)) = .lit (.bool (M s))
theorem MapS.made (w : World) : MapS (w.alloc (.map #[] 0)) w.heap.size 0 fun _ => false :=
  ⟨_, World.ownsMap_made w Tryz.prog 9 (plainElem Tryz.prog 4), fun _ => rfl⟩
theorem MapS.kept {w w' : World} {b n : Nat} {M : ByteArray → Bool} {row : Option Nat} (h : MapS w b n M) (hg : w.grownBy w' row) (hne : some b ≠ row) : MapS w' b n M := by
  obtain ⟨D, ho, hD⟩ := h
  exact ⟨D, ho.kept hg hne, hD⟩
theorem MapS.below {w w' : World} {b n : Nat} {M : ByteArray → Bool} (h : MapS w b n M) (hb : Below w.heap.size w w') : MapS w' b n M := h.kept (grown_of_below hb none) (by simp)
theorem MapS.look {w : World} {b n : Nat} {M : ByteArray → Bool} (h : MapS w b n M) {s : ByteArray} (hs : s.size ≤ maxLen) :
    (Instr.lookup 224 (.map (some b)) (.string s) false).run Tryz.prog w = .ok (.bool (M s)) w := by
  obtain ⟨D, ho, hD⟩ := h
  obtain ⟨v, ps, hrun, hv⟩ := ho.lookup (Maps.string_keyed Tryz.underlying9) Tryz.underlying224 (zero4 w) (plainElem_bool Tryz.underlying4 false) (key_str hs)
  obtain ⟨x, rfl, hx⟩ := plainBool_inv Tryz.underlying4 hv
  rw [hD s] at hx
  have : x = M s := by have := hx.symm; simp at this; exact this.1
  rw [this] at hrun
  exact hrun
theorem MapS.put {w : World} {b n : Nat} {M : ByteArray → Bool} (h : MapS w b n M) {s : ByteArray} (hs : s.size ≤ maxLen) (hn : n < 1000000000) :
    ∃ w', (Instr.mapUpdate 224 (.map (some b)) (.string s) (.bool true)).run Tryz.prog w = .ok () w' ∧ MapS w' b (n + 1) (fun t => decide (t = s) || M t) ∧ w.grownBy w' (some b) := by
  obtain ⟨D, ho, hD⟩ := h
  obtain ⟨w', hrun, ho', hg⟩ := ho.update (Maps.string_keyed Tryz.underlying9) Tryz.underlying224 (by unfold maxLen; omega) (key_str hs) (plainElem_bool Tryz.underlying4 true)
  refine ⟨w', hrun, ⟨_, ho', fun t => ?_⟩, hg⟩
  by_cases hx : t = s
  · subst hx
    rw [Maps.atKey_put_same ho.isMap (keyLit _)]
    simp
  · have hne : (Lit.string t.data.toList) ≠ .string s.data.toList := fun e => hx (bytes_inj (by simpa using e))
    rw [Maps.atKey_put_other hne, hD t]
    simp [hx]

/-- The map at block b: the indices of names. -/
def MapI (w : World) (b n : Nat) (M : ByteArray → Option Nat) : Prop :=
  ∃ D : DataW Unit, w.ownsMap Tryz.prog 9 (plainElem Tryz.prog 3) b n D ∧ ∀ s : ByteArray, Maps.has D (.string s.data.toList) = (M s).isSome ∧ D.atKey (.string s.data.toList) (.lit (.int .i64 0)) = .lit (.int .i64 (((M s).getD 0 : Nat) : Int))
theorem MapI.made (w : World) : MapI (w.alloc (.map #[] 0)) w.heap.size 0 fun _ => none :=
  ⟨_, World.ownsMap_made w Tryz.prog 9 (plainElem Tryz.prog 3), fun _ => ⟨rfl, rfl⟩⟩
theorem MapI.kept {w w' : World} {b n : Nat} {M : ByteArray → Option Nat} {row : Option Nat} (h : MapI w b n M) (hg : w.grownBy w' row) (hne : some b ≠ row) : MapI w' b n M := by
  obtain ⟨D, ho, hD⟩ := h
  exact ⟨D, ho.kept hg hne, hD⟩
theorem MapI.below {w w' : World} {b n : Nat} {M : ByteArray → Option Nat} (h : MapI w b n M) (hb : Below w.heap.size w w') : MapI w' b n M := h.kept (grown_of_below hb none) (by simp)
theorem MapI.lt {w : World} {b n : Nat} {M : ByteArray → Option Nat} (h : MapI w b n M) : b < w.heap.size := by
  obtain ⟨D, ho, hD⟩ := h
  exact ho.lt
theorem MapI.look {w : World} {b n : Nat} {M : ByteArray → Option Nat} (h : MapI w b n M) {s : ByteArray} (hs : s.size ≤ maxLen) :
    (Instr.lookup 91 (.map (some b)) (.string s) true).run Tryz.prog w = .ok (.tuple #[.int .i64 (((M s).getD 0 : Nat) : Int), .bool (M s).isSome]) w := by
  obtain ⟨D, ho, hD⟩ := h
  obtain ⟨v, ps, hrun, hv⟩ := ho.look_ok (Maps.string_keyed Tryz.underlying9) Tryz.underlying91 (zero3 w) (plainElem_int Tryz.underlying3 (by decide)) (key_str hs)
  obtain ⟨x, rfl, hx, _⟩ := plainElem_int_inv Tryz.underlying3 hv
  rw [(hD s).2] at hx
  have : x = (((M s).getD 0 : Nat) : Int) := by have := hx.symm; simp at this; exact this.1
  rw [this, (hD s).1] at hrun
  exact hrun
theorem MapI.put {w : World} {b n : Nat} {M : ByteArray → Option Nat} (h : MapI w b n M) {s : ByteArray} (hs : s.size ≤ maxLen) (i : Nat) (hi : i ≤ 1000000) (hn : n < 1000000000) :
    ∃ w', (Instr.mapUpdate 91 (.map (some b)) (.string s) (.int .i64 (i : Int))).run Tryz.prog w = .ok () w' ∧ MapI w' b (n + 1) (fun t => if t = s then some i else M t) ∧ w.grownBy w' (some b) := by
  obtain ⟨D, ho, hD⟩ := h
  obtain ⟨w', hrun, ho', hg⟩ := ho.update (Maps.string_keyed Tryz.underlying9) Tryz.underlying91 (by unfold maxLen; omega) (key_str hs) (plainElem_int Tryz.underlying3 (a := (i : Int)) (WalkArith.wf_i64 ⟨by omega, by omega⟩))
  refine ⟨w', hrun, ⟨_, ho', fun t => ?_⟩, hg⟩
  by_cases hx : t = s
  · subst hx
    rw [Maps.has_put_same ho.isMap (keyLit _), Maps.atKey_put_same ho.isMap (keyLit _)]
    simp
  · have hne : (Lit.string t.data.toList) ≠ .string s.data.toList := fun e => hx (bytes_inj (by simpa using e))
    rw [Maps.has_put_other hne, Maps.atKey_put_other hne, (hD t).1, (hD t).2]
    simp [hx]

/-- A name occurs among items. -/
def hasN (l : List It) (s : ByteArray) : Bool := l.any fun t => decide (s = t.name)
theorem hasN_snoc (l : List It) (t : It) (s : ByteArray) : hasN (l ++ [t]) s = (decide (s = t.name) || hasN l s) := by
  simp [hasN, Bool.or_comm]
theorem take_it (l : List It) (k : Nat) (h : k < l.length) : l.take (k + 1) = l.take k ++ [itAt l k] := by
  rw [List.take_succ_eq_append_getElem h]
  simp only [itAt, List.getElem?_eq_getElem h, Option.getD_some]
def distTo (l : List It) : Nat → Bool
  | 0 => true
  | k + 1 => distTo l k && !hasN (l.take k) (itAt l k).name
def distB (l : List It) : Bool := distTo l l.length
theorem distTo_no {l : List It} {k : Nat} (h : hasN (l.take k) (itAt l k).name = true) : ∀ m, k < m → distTo l m = false := by
  intro m hm
  induction m with
  | zero => omega
  | succ m ih =>
    by_cases e : k = m
    · subst e; simp [distTo, h]
    · simp [distTo, ih (by omega)]

theorem cell_grownS {w w' : World} {b n : Nat} {M : ByteArray → Bool} (hm : MapS w b n M) (hg : w.grownBy w' (some b)) {p : Addr} {u : Value} (h : w.cell? p = some u) : w'.cell? p = some u := by
  have hne : p.block ≠ b := by
    intro e
    obtain ⟨D, ⟨es, clock, hb, _⟩, _⟩ := hm
    rw [← e] at hb
    simp [World.cell?, hb] at h
  have hlt : p.block < w.heap.size := by
    rcases Nat.lt_or_ge p.block w.heap.size with h1 | h1
    · exact h1
    · simp [World.cell?, Array.getElem?_eq_none h1] at h
  exact (World.cell?_of_block (w := w) (hg.block p.block hlt (fun e => hne (Option.some.inj e)))).trans h

theorem plain_max {s : ByteArray} (h : PlainName s) : s.size ≤ maxLen := by have := h.len; unfold maxLen; omega

set_option maxRecDepth 100000 in
set_option maxHeartbeats 1000000 in
theorem differ_items {w : World} {A : Option Addr} {n : Nat} (c : Nat) {l : List It} (h : ItemsV w A n l) :
    Calls Tryz.prog 130 #[.slice A n c, .func (.func 131) #[] #[]] w fun e w' => e = .returned (.bool (distB l)) ∧ Below w.heap.size w w' := by
  have hmm := fun W : World => run_mapHint (P := Tryz.prog) 224 9 4 .i64 n Tryz.underlying224 W
  have Hn := Lib.hid h.len
  have H := Lib.hid h
  have hs := h.small
  clear h
  go_enter Tryz.func130, Tryz.ntmps130
  go_wp2_with fail
  have Hm0 := Lib.hid (MapS.made w)
  have hB0 : Below w.heap.size w (w.alloc (.map #[] 0)) := (Below.refl _ _).alloc (Nat.le_refl _) _
  go_loopw [13] (fun i wr => ∃ k : Nat, k ≤ n ∧ i = .int .i64 k ∧ distTo l k = true ∧ MapS wr w.heap.size k (hasN (l.take k)) ∧ Below w.heap.size w wr) (fun i _ => n - (intOf i).toNat)
  case atStart => exact ⟨0, Nat.zero_le _, rfl, rfl, Hm0.out, hB0⟩
  case round =>
    obtain ⟨k, hk, rfl, hR, hm, hb⟩ := hrel
    have HR := Lib.hid hR
    have HM := Lib.hid hm
    have hsz := hb.size
    clear hR hm hmm Hm0
    by_cases hlt : k < n
    · have hkl : k < l.length := by have := Hn.out; omega
      obtain ⟨b, off, rfl, hbb, c0, c1, c2, c3, c4, c5, c6⟩ := (H.out.below hb).at_ k hlt
      have hpm := plain_max (H.out.name _ (itAt_mem hkl))
      have hb2 : Below w.heap.size w (wr.alloc (.cells #[.string (itAt l k).name, .bool (itAt l k).object, .bool (itAt l k).mixed, .bool (itAt l k).coin, .int .i64 (itAt l k).wear, .int .i64 (itAt l k).bnd, .int .i64 (itAt l k).level] 89)) := hb.alloc hsz _
      have Hst : Hid (hasN (l.take k) (itAt l k).name = false → distTo l (k + 1) = true) := fun h => by simp [distTo, HR.out, h]
      have Hno : Hid (hasN (l.take k) (itAt l k).name = true → distB l = false) := fun h => distTo_no h _ hkl
      have HT : Hid (hasN (l.take (k + 1)) = fun s => decide (s = (itAt l k).name) || hasN (l.take k) s) := by
        show hasN (l.take (k + 1)) = _
        funext s
        rw [take_it l k hkl, hasN_snoc]
      have HM2 := Lib.hid (HM.out.below ((Below.refl _ wr).alloc (Nat.le_refl _) (.cells #[.string (itAt l k).name, .bool (itAt l k).object, .bool (itAt l k).mixed, .bool (itAt l k).coin, .int .i64 (itAt l k).wear, .int .i64 (itAt l k).bnd, .int .i64 (itAt l k).level] 89)))
      clear hkl HM
      generalize itAt l k = t at *
      obtain ⟨nm, ob, mi, co, we, bi, le⟩ := t
      dsimp only at *
      go_wp2_with fail
      have HB := Lib.hid (Bk.new wr 89 [.string nm, .bool ob, .bool mi, .bool co, .int .i64 we, .int .i64 bi, .int .i64 le])
      refine (itname_any ⟨nm, ob, mi, co, we, bi, le⟩ _).mono ?_
      rintro e w1 ⟨rfl, hb1⟩
      have hb3 : Below w.heap.size w w1 := hb2.trans (hb1.mono (by simp; omega))
      have HM3 := Lib.hid (HM2.out.below hb1)
      have HB3 := Lib.hid (HB.out.below hb1 (by simp))
      have hlk := HM3.out.look hpm
      clear HM2 HB hb1
      cases hq : hasN (l.take k) nm
      · have Hq := Lib.hid (Hst.out hq)
        rw [hq] at hlk
        clear hq Hst Hno
        have d0 : w1.cell? ⟨wr.heap.size, 0, none⟩ = some (.string nm) := HB3.out.cell 0
        have d1 : w1.cell? ⟨wr.heap.size, 1, none⟩ = some (.bool ob) := HB3.out.cell 1
        have d2 : w1.cell? ⟨wr.heap.size, 2, none⟩ = some (.bool mi) := HB3.out.cell 2
        have d3 : w1.cell? ⟨wr.heap.size, 3, none⟩ = some (.bool co) := HB3.out.cell 3
        have d4 : w1.cell? ⟨wr.heap.size, 4, none⟩ = some (.int .i64 we) := HB3.out.cell 4
        have d5 : w1.cell? ⟨wr.heap.size, 5, none⟩ = some (.int .i64 bi) := HB3.out.cell 5
        have d6 : w1.cell? ⟨wr.heap.size, 6, none⟩ = some (.int .i64 le) := HB3.out.cell 6
        go_wp2_with fail
        refine (itname_any ⟨nm, ob, mi, co, we, bi, le⟩ _).mono ?_
        rintro e w2 ⟨rfl, hb4⟩
        obtain ⟨w3, hrun, hM4, hg4⟩ := (HM3.out.below hb4).put hpm (by omega)
        have hb5 : Below w.heap.size w w3 := (hb3.trans (hb4.mono hb3.size)).grown hg4 (Nat.le_trans hb3.size hb4.size) (fun g e => by cases e; exact Nat.le_refl _)
        have HM4 := Lib.hid hM4
        clear hM4 hg4 hb4 d0 d1 d2 d3 d4 d5 d6 hlk
        go_wp2
        go_roundw
        case rel => exact ⟨k + 1, by omega, by go_num, Hq.out, by rw [HT.out]; exact HM4.out, hb5⟩
        case measure => simp [intOf]; omega
      · have Hq := Lib.hid (Hno.out hq)
        rw [hq] at hlk
        clear hq Hst Hno
        go_wp2
        go_ret
        exact ⟨by rw [Hq.out]; rfl, hb3⟩
    · have hkn : k = l.length := by have := Hn.out; omega
      have HT : Hid (distB l = true) := by show distB l = true; unfold distB; rw [← hkn]; exact HR.out
      clear hkn
      go_wp2
      go_ret
      exact ⟨by rw [HT.out]; rfl, hb⟩

end Go.Proofs.YthjfdfdgbpbanaaGreatDoor
