/- catalog.Valid on a catalog of good items and nothing else; version.names. The contract of version.names. What version.New computes, and its memory. -/
import Derived.Test.YthjfdfdgbpbanaaGreatDoorS1x2
import Derived.Laws.EntriesVeiled
set_option linter.unusedVariables false
set_option linter.unusedSimpArgs false
open Go.RowKit
namespace Go.Proofs.YthjfdfdgbpbanaaGreatDoor
abbrev catV (A : Option Addr) (n c : Nat) : Value := .agg #[.slice A n c, .slice none 0 0, .slice none 0 0, .slice none 0 0]
abbrev catO (A : Option Addr) (n c : Nat) : Obj := .cells #[.slice A n c, .slice none 0 0, .slice none 0 0, .slice none 0 0] 28
abbrev catL (A : Option Addr) (n c : Nat) : List Value := [.slice A n c, .slice none 0 0, .slice none 0 0, .slice none 0 0]
/-- Items that a valid catalog may have. -/
structure GoodIt (l : List It) : Prop where
 len : l.length ≤ 64
 fits : l.all itFitsB = true
 dist : distB l = true
 formed : l.all itFormedB = true
 range : l.all itRangeB = true
/-- A catalog of good items in memory. -/
structure CatV (w : World) (A : Option Addr) (n : Nat) (l : List It) : Prop where
 items : ItemsV w A n l
 good : GoodIt l
 tab : Tab w
theorem CatV.below {w w' : World} {A : Option Addr} {n : Nat} {l : List It} (h : CatV w A n l) (hb : Below w.heap.size w w') : CatV w' A n l := ⟨h.items.below hb, h.good, h.tab.below hb h.tab.1⟩
theorem CatV.n64 {w : World} {A : Option Addr} {n : Nat} {l : List It} (h : CatV w A n l) : n ≤ 64 := by have := h.items.len; have := h.good.len; omega
set_option maxRecDepth 100000 in
set_option maxHeartbeats 1000000 in
theorem limits_items {w : World} {A : Option Addr} {n : Nat} (c : Nat) {l : List It} (h : CatV w A n l) : Calls Tryz.prog 100 #[catV A n c] w fun e w' => e = .returned (.bool true) ∧ Below w.heap.size w w' := by
 have hb0 : Below w.heap.size w (w.alloc (catO A n c)) := (Below.refl _ _).alloc (Nat.le_refl _) _
 have hn := h.n64
 clear h
 have hd : decide (n ≤ 64) = true := by simpa using hn
 go_enter Tryz.func100, Tryz.ntmps100
 go_wp2_with fail
 refine (every_nil118 _ _).mono ?_
 rintro e w1 ⟨rfl, rfl⟩
 go_wp2_with fail
 refine (every_nil120 _ _).mono ?_
 rintro e w1 ⟨rfl, rfl⟩
 go_wp2_with fail
 refine (every_nil122 _ _).mono ?_
 rintro e w1 ⟨rfl, rfl⟩
 go_wp2
 go_ret
 exact ⟨rfl, hb0⟩
set_option maxRecDepth 100000 in
set_option maxHeartbeats 1000000 in
theorem fit_items {w : World} {A : Option Addr} {n : Nat} (c : Nat) {l : List It} (h : CatV w A n l) : Calls Tryz.prog 101 #[catV A n c] w fun e w' => e = .returned (.bool true) ∧ Below w.heap.size w w' := by
 have hb0 : Below w.heap.size w (w.alloc (catO A n c)) := (Below.refl _ _).alloc (Nat.le_refl _) _
 have K := every_it125 c itFitsB (h.items.below hb0) (fun t W ht hW => itfits_any t (h.items.name t ht) W ((h.tab.below hb0 h.tab.1).below hW (by have := h.tab.1; simp)))
 rw [h.good.fits] at K
 have HK := Lib.hid K
 clear K h
 go_enter Tryz.func101, Tryz.ntmps101
 go_wp2_with fail
 refine HK.out.mono ?_
 rintro e w1 ⟨rfl, hb1⟩
 have hbk := Bk.new w 28 (catL A n c)
 have hbk2 : Bk w1 w.heap.size 28 (catL A n c) := (hbk).below hb1 (by simp)
 have d1 : w1.cell? ⟨w.heap.size, 1, none⟩ = some (.slice none 0 0) := hbk2.cell 1
 have d2 : w1.cell? ⟨w.heap.size, 2, none⟩ = some (.slice none 0 0) := hbk2.cell 2
 have d3 : w1.cell? ⟨w.heap.size, 3, none⟩ = some (.slice none 0 0) := hbk2.cell 3
 have G1 : Below w.heap.size w w1 := hb0.trans (hb1.mono (by simp))
 clear hbk hbk2 hb1 HK hb0
 go_wp2_with fail
 refine (every_nil118 _ _).mono ?_
 rintro e w2 ⟨rfl, rfl⟩
 go_wp2_with fail
 refine (every_nil120 _ _).mono ?_
 rintro e w2 ⟨rfl, rfl⟩
 go_wp2_with fail
 refine (every_nil122 _ _).mono ?_
 rintro e w2 ⟨rfl, rfl⟩
 go_wp2
 go_ret
 exact ⟨rfl, G1⟩
set_option maxRecDepth 100000 in
set_option maxHeartbeats 1000000 in
theorem formed_items {w : World} {A : Option Addr} {n : Nat} (c : Nat) {l : List It} (h : CatV w A n l) : Calls Tryz.prog 103 #[catV A n c] w fun e w' => e = .returned (.bool true) ∧ Below w.heap.size w w' := by
 have hb0 : Below w.heap.size w ((w.alloc (catO A n c)).alloc (.cells #[.func (.func 138) #[] #[.pointer (some ⟨w.heap.size, 0, none⟩)]] 197)) := ((Below.refl _ _).alloc (Nat.le_refl _) _).alloc (by simp) _
 have K := every_it139 c itFormedB (h.items.below hb0) (fun t W _ _ => itformed_any t W)
 rw [h.good.formed] at K
 have HK := Lib.hid K
 clear K h
 go_enter Tryz.func103, Tryz.ntmps103
 go_wp2_with fail
 refine HK.out.mono ?_
 rintro e w1 ⟨rfl, hb1⟩
 have hbk := Bk.new w 28 (catL A n c)
 have hbk2 : Bk w1 w.heap.size 28 (catL A n c) := (hbk.alloc _).below hb1 (by simp; omega)
 have d1 : w1.cell? ⟨w.heap.size, 1, none⟩ = some (.slice none 0 0) := hbk2.cell 1
 have d2 : w1.cell? ⟨w.heap.size, 2, none⟩ = some (.slice none 0 0) := hbk2.cell 2
 have d3 : w1.cell? ⟨w.heap.size, 3, none⟩ = some (.slice none 0 0) := hbk2.cell 3
 have G1 : Below w.heap.size w w1 := hb0.trans (hb1.mono (by simp; omega))
 clear hbk hbk2 hb1 HK hb0
 go_wp2_with fail
 refine (every_nil118 _ _).mono ?_
 rintro e w2 ⟨rfl, rfl⟩
 go_wp2_with fail
 refine (every_nil120 _ _).mono ?_
 rintro e w2 ⟨rfl, rfl⟩
 go_wp2_with fail
 refine (every_nil122 _ _).mono ?_
 rintro e w2 ⟨rfl, rfl⟩
 go_wp2
 go_ret
 exact ⟨rfl, G1⟩
set_option maxRecDepth 100000 in
set_option maxHeartbeats 1000000 in
theorem range_items {w : World} {A : Option Addr} {n : Nat} (c : Nat) {l : List It} (h : CatV w A n l) : Calls Tryz.prog 104 #[catV A n c] w fun e w' => e = .returned (.bool true) ∧ Below w.heap.size w w' := by
 have hb0 : Below w.heap.size w ((w.alloc (catO A n c)).alloc (.cells #[.func (.func 147) #[] #[]] 197)) := ((Below.refl _ _).alloc (Nat.le_refl _) _).alloc (by simp) _
 have K := every_it150 c itRangeB (h.items.below hb0) (fun t W _ _ => itrange_any t W)
 rw [h.good.range] at K
 have HK := Lib.hid K
 clear K h
 go_enter Tryz.func104, Tryz.ntmps104
 go_wp2_with fail
 refine HK.out.mono ?_
 rintro e w1 ⟨rfl, hb1⟩
 have hbk := Bk.new w 28 (catL A n c)
 have hbk2 : Bk w1 w.heap.size 28 (catL A n c) := (hbk.alloc _).below hb1 (by simp; omega)
 have d1 : w1.cell? ⟨w.heap.size, 1, none⟩ = some (.slice none 0 0) := hbk2.cell 1
 have d2 : w1.cell? ⟨w.heap.size, 2, none⟩ = some (.slice none 0 0) := hbk2.cell 2
 have d3 : w1.cell? ⟨w.heap.size, 3, none⟩ = some (.slice none 0 0) := hbk2.cell 3
 have G1 : Below w.heap.size w w1 := hb0.trans (hb1.mono (by simp; omega))
 clear hbk hbk2 hb1 HK hb0
 go_wp2_with fail
 refine (every_nil118 _ _).mono ?_
 rintro e w2 ⟨rfl, rfl⟩
 go_wp2_with fail
 refine (every_nil120 _ _).mono ?_
 rintro e w2 ⟨rfl, rfl⟩
 go_wp2_with fail
 refine (every_nil122 _ _).mono ?_
 rintro e w2 ⟨rfl, rfl⟩
 go_wp2
 go_ret
 exact ⟨rfl, G1⟩
set_option maxRecDepth 100000 in
set_option maxHeartbeats 1000000 in
theorem names_items {w : World} {A : Option Addr} {n : Nat} (c : Nat) {l : List It} (h : CatV w A n l) : Calls Tryz.prog 102 #[catV A n c] w fun e w' => e = .returned (.bool true) ∧ Below w.heap.size w w' := by
 have hb0 : Below w.heap.size w (w.alloc (catO A n c)) := (Below.refl _ _).alloc (Nat.le_refl _) _
 have K := differ_items c (h.items.below hb0)
 rw [h.good.dist] at K
 have HK := Lib.hid K
 clear K h
 go_enter Tryz.func102, Tryz.ntmps102
 go_wp2_with fail
 refine HK.out.mono ?_
 rintro e w1 ⟨rfl, hb1⟩
 have k1 : Bk w1 w.heap.size 28 (catL A n c) := (Bk.new w 28 (catL A n c)).below hb1 (by simp)
 have G1 : Below w.heap.size w w1 := hb0.trans (hb1.mono (by simp))
 have d1 : w1.cell? ⟨w.heap.size, 1, none⟩ = some (.slice none 0 0) := k1.cell 1
 clear hb1 HK hb0
 go_wp2_with fail
 refine (differ_nil132 _ _).mono ?_
 rintro e w2 ⟨rfl, hb2⟩
 have k2 := k1.below hb2 k1.lt
 have G2 := G1.trans (hb2.mono G1.size)
 have d2 : w2.cell? ⟨w.heap.size, 2, none⟩ = some (.slice none 0 0) := k2.cell 2
 clear d1 k1 hb2 G1
 go_wp2_with fail
 refine (differ_nil134 _ _).mono ?_
 rintro e w3 ⟨rfl, hb3⟩
 have k3 := k2.below hb3 k2.lt
 have G3 := G2.trans (hb3.mono G2.size)
 have d3 : w3.cell? ⟨w.heap.size, 3, none⟩ = some (.slice none 0 0) := k3.cell 3
 clear d2 k2 hb3 G2
 go_wp2_with fail
 refine (differ_nil136 _ _).mono ?_
 rintro e w4 ⟨rfl, hb4⟩
 go_wp2
 go_ret
 exact ⟨rfl, G3.trans (hb4.mono G3.size)⟩
set_option maxRecDepth 100000 in
set_option maxHeartbeats 1000000 in
theorem valid_items {w : World} {A : Option Addr} {n : Nat} (c : Nat) {l : List It} (h : CatV w A n l) : Calls Tryz.prog 80 #[catV A n c] w fun e w' => e = .returned (.int .i64 0) ∧ Below w.heap.size w w' := by
 have hb0 : Below w.heap.size w (w.alloc (catO A n c)) := (Below.refl _ _).alloc (Nat.le_refl _) _
 have H := Lib.hid h
 clear h
 go_enter Tryz.func80, Tryz.ntmps80
 go_wp2_with fail
 refine (limits_items c (H.out.below hb0)).mono ?_
 rintro e w1 ⟨rfl, hb1⟩
 have k1 : Bk w1 w.heap.size 28 (catL A n c) := (Bk.new w 28 (catL A n c)).below hb1 (by simp)
 have G1 : Below w.heap.size w w1 := hb0.trans (hb1.mono (by simp))
 have s0 : w1.cell? ⟨w.heap.size, 0, none⟩ = some (.slice A n c) := k1.cell 0
 have s1 : w1.cell? ⟨w.heap.size, 1, none⟩ = some (.slice none 0 0) := k1.cell 1
 have s2 : w1.cell? ⟨w.heap.size, 2, none⟩ = some (.slice none 0 0) := k1.cell 2
 have s3 : w1.cell? ⟨w.heap.size, 3, none⟩ = some (.slice none 0 0) := k1.cell 3
 go_wp2_with fail
 refine (fit_items c (H.out.below G1)).mono ?_
 rintro e w2 ⟨rfl, hb2⟩
 have k2 := k1.below hb2 k1.lt
 have G2 := G1.trans (hb2.mono G1.size)
 clear s0 s1 s2 s3
 have s0 : w2.cell? ⟨w.heap.size, 0, none⟩ = some (.slice A n c) := k2.cell 0
 have s1 : w2.cell? ⟨w.heap.size, 1, none⟩ = some (.slice none 0 0) := k2.cell 1
 have s2 : w2.cell? ⟨w.heap.size, 2, none⟩ = some (.slice none 0 0) := k2.cell 2
 have s3 : w2.cell? ⟨w.heap.size, 3, none⟩ = some (.slice none 0 0) := k2.cell 3
 go_wp2_with fail
 refine (names_items c (H.out.below G2)).mono ?_
 rintro e w3 ⟨rfl, hb3⟩
 have k3 := k2.below hb3 k2.lt
 have G3 := G2.trans (hb3.mono G2.size)
 clear s0 s1 s2 s3
 have s0 : w3.cell? ⟨w.heap.size, 0, none⟩ = some (.slice A n c) := k3.cell 0
 have s1 : w3.cell? ⟨w.heap.size, 1, none⟩ = some (.slice none 0 0) := k3.cell 1
 have s2 : w3.cell? ⟨w.heap.size, 2, none⟩ = some (.slice none 0 0) := k3.cell 2
 have s3 : w3.cell? ⟨w.heap.size, 3, none⟩ = some (.slice none 0 0) := k3.cell 3
 go_wp2_with fail
 refine (formed_items c (H.out.below G3)).mono ?_
 rintro e w4 ⟨rfl, hb4⟩
 have k4 := k3.below hb4 k3.lt
 have G4 := G3.trans (hb4.mono G3.size)
 clear s0 s1 s2 s3
 have s0 : w4.cell? ⟨w.heap.size, 0, none⟩ = some (.slice A n c) := k4.cell 0
 have s1 : w4.cell? ⟨w.heap.size, 1, none⟩ = some (.slice none 0 0) := k4.cell 1
 have s2 : w4.cell? ⟨w.heap.size, 2, none⟩ = some (.slice none 0 0) := k4.cell 2
 have s3 : w4.cell? ⟨w.heap.size, 3, none⟩ = some (.slice none 0 0) := k4.cell 3
 go_wp2_with fail
 refine (range_items c (H.out.below G4)).mono ?_
 rintro e w5 ⟨rfl, hb5⟩
 have k5 := k4.below hb5 k4.lt
 have G5 := G4.trans (hb5.mono G4.size)
 clear s0 s1 s2 s3
 go_wp2
 go_ret
 exact ⟨rfl, G5⟩
set_option maxRecDepth 100000 in
set_option maxHeartbeats 1000000 in
theorem both_items {w : World} {A A' : Option Addr} {n n' : Nat} (c c' : Nat) {l l' : List It} (h : CatV w A n l) (h' : CatV w A' n' l') :
 Calls Tryz.prog 43 #[catV A n c, catV A' n' c'] w fun e w' => e = .returned (.int .i64 0) ∧ Below w.heap.size w w' := by
 have hb0 : Below w.heap.size w ((w.alloc (catO A n c)).alloc (catO A' n' c')) := ((Below.refl _ _).alloc (Nat.le_refl _) _).alloc (by simp) _
 have H := Lib.hid h
 have H' := Lib.hid h'
 clear h h'
 go_enter Tryz.func43, Tryz.ntmps43
 go_wp2_with fail
 refine (valid_items c (H.out.below hb0)).mono ?_
 rintro e w1 ⟨rfl, hb1⟩
 have kx := Bk.new (w.alloc (catO A n c)) 28 (catL A' n' c')
 rw [World.size_alloc] at kx
 have k1 : Bk w1 (w.heap.size + 1) 28 (catL A' n' c') := kx.below hb1 (by simp)
 have G1 : Below w.heap.size w w1 := hb0.trans (hb1.mono (by simp; omega))
 have s0 : w1.cell? ⟨w.heap.size + 1, 0, none⟩ = some (.slice A' n' c') := k1.cell 0
 have s1 : w1.cell? ⟨w.heap.size + 1, 1, none⟩ = some (.slice none 0 0) := k1.cell 1
 have s2 : w1.cell? ⟨w.heap.size + 1, 2, none⟩ = some (.slice none 0 0) := k1.cell 2
 have s3 : w1.cell? ⟨w.heap.size + 1, 3, none⟩ = some (.slice none 0 0) := k1.cell 3
 clear kx hb1 hb0
 go_wp2_with fail
 refine (valid_items c' (H'.out.below G1)).mono ?_
 rintro e w2 ⟨rfl, hb2⟩
 go_wp2
 go_ret
 exact ⟨rfl, G1.trans (hb2.mono G1.size)⟩
/-- A slice's value. -/
structure Sl where
 A : Option Addr
 n : Nat
 c : Nat
abbrev Sl.v (s : Sl) : Value := .slice s.A s.n s.c
/-- A catalog's value. -/
abbrev catS (i r t x : Sl) : Value := .agg #[.slice i.A i.n i.c, .slice r.A r.n r.c, .slice t.A t.n t.c, .slice x.A x.n x.c]
abbrev catSL (i r t x : Sl) : List Value := [.slice i.A i.n i.c, .slice r.A r.n r.c, .slice t.A t.n t.c, .slice x.A x.n x.c]
abbrev catSO (i r t x : Sl) : Obj := .cells #[.slice i.A i.n i.c, .slice r.A r.n r.c, .slice t.A t.n t.c, .slice x.A x.n x.c] 28
/-- The index of the last of the first k items with a name. -/
def idxTo (l : List It) : Nat → ByteArray → Option Nat
 | 0, _ => none
 | k + 1, s => if s = (itAt l k).name then some k else idxTo l k s
theorem idxTo_lt {l : List It} {k : Nat} {s : ByteArray} {i : Nat} (h : idxTo l k s = some i) : i < k ∧ (itAt l i).name = s := by
 induction k with
 | zero => simp [idxTo] at h
 | succ k ih =>
   simp only [idxTo] at h
   split at h
   ·rename_i e
    cases h
    exact ⟨by omega, e.symm⟩
   ·have := ih h
    exact ⟨by omega, this.2⟩
def NamesPost (w : World) (l : List It) (n : Nat) (e : Ending) (w' : World) : Prop := ∃ b, e = .returned (.map (some b)) ∧ MapI w' b n (idxTo l n) ∧ w.heap.size ≤ b ∧ Below w.heap.size w w'
set_option maxRecDepth 100000 in
set_option maxHeartbeats 1000000 in
theorem names_any {w : World} {i r t x : Sl} {l : List It} (h : ItemsV w i.A i.n l) : Calls Tryz.prog 44 #[catS i r t x] w (NamesPost w l i.n) := by
 obtain ⟨A, n, c⟩ := i
 dsimp only at *
 have hmm := fun W : World => run_mapHint (P := Tryz.prog) 91 9 3 .i64 n Tryz.underlying91 W
 have Hn := Lib.hid h.len
 have H := Lib.hid h
 have hs := h.small
 clear h
 go_enter Tryz.func44, Tryz.ntmps44
 go_wp2_with fail
 have Hm0 := MapI.made (w.alloc (catSO ⟨A, n, c⟩ r t x))
 rw [World.size_alloc] at Hm0
 have HM0 := Lib.hid Hm0
 have hB0 : Below w.heap.size w ((w.alloc (catSO ⟨A, n, c⟩ r t x)).alloc (.map #[] 0)) := ((Below.refl _ _).alloc (Nat.le_refl _) _).alloc (by simp) _
 clear Hm0
 go_loopw [13] (fun i wr => ∃ k : Nat, k ≤ n ∧ i = .int .i64 k ∧ MapI wr (w.heap.size + 1) k (idxTo l k) ∧ Below w.heap.size w wr) (fun i _ => n - (intOf i).toNat)
 case atStart => exact ⟨0, Nat.zero_le _, rfl, HM0.out, hB0⟩
 case round =>
  obtain ⟨k, hk, rfl, hm, hb⟩ := hrel
  have HM := Lib.hid hm
  have hsz := hb.size
  clear hm hmm HM0
  by_cases hlt : k < n
  ·have hkl : k < l.length := by have := Hn.out; omega
   obtain ⟨b, off, rfl, hbb, c0, c1, c2, c3, c4, c5, c6⟩ := (H.out.below hb).at_ k hlt
   have hpm := plain_max (H.out.name _ (itAt_mem hkl))
   have hb2 : Below w.heap.size w (wr.alloc (.cells #[.string (itAt l k).name, .bool (itAt l k).object, .bool (itAt l k).mixed, .bool (itAt l k).coin, .int .i64 (itAt l k).wear, .int .i64 (itAt l k).bnd, .int .i64 (itAt l k).level] 89)) := hb.alloc hsz _
   have HT : Hid (idxTo l (k + 1) = fun s => if s = (itAt l k).name then some k else idxTo l k s) := rfl
   have HM2 := HM.out.below ((Below.refl _ wr).alloc (Nat.le_refl _) (.cells #[.string (itAt l k).name, .bool (itAt l k).object, .bool (itAt l k).mixed, .bool (itAt l k).coin, .int .i64 (itAt l k).wear, .int .i64 (itAt l k).bnd, .int .i64 (itAt l k).level] 89))
   obtain ⟨w3, hrun, hM4, hg4⟩ := HM2.put hpm k (by omega) (by omega)
   have hb5 : Below w.heap.size w w3 := hb2.grown hg4 (by simp; omega) (fun g e => by cases e; omega)
   have HM4 := Lib.hid hM4
   clear hkl HM HM2 hM4 hg4
   generalize itAt l k = t at *
   obtain ⟨nm, ob, mi, co, we, bi, le⟩ := t
   dsimp only at *
   go_wp2
   go_roundw
   case rel => exact ⟨k + 1, by omega, by go_num, by rw [HT.out]; exact HM4.out, hb5⟩
   case measure => simp [intOf]; omega
  ·obtain rfl : k = n := by omega
   go_wp2
   go_ret
   exact ⟨_, rfl, HM.out, by omega, hb⟩
section
structure Ren where
 old : ByteArray
 new : ByteArray
 num : Int
 den : Int
def Ren.none : Ren := ⟨⟨#[]⟩, ⟨#[]⟩, 0, 0⟩
abbrev Ren.cells (r : Ren) : List Value := [.string r.old, .string r.new, .int .i64 r.num, .int .i64 r.den]
def renAt (l : List Ren) (k : Nat) : Ren := l[k]?.getD Ren.none
def rcells (l : List Ren) : List Value := l.flatMap Ren.cells
theorem rcells_cons (t : Ren) (l : List Ren) : rcells (t :: l) = t.cells ++ rcells l := by simp [rcells]
theorem rcells_length (l : List Ren) : (rcells l).length = l.length * 4 := by
 induction l with
 | nil => rfl
 | cons t l ih => rw [rcells_cons, List.length_append, ih]; simp; omega
theorem rcells_get (l : List Ren) (k r : Nat) (h : k < l.length) (hr : r < 4) : (rcells l)[k * 4 + r]? = (renAt l k).cells[r]? := by
 induction l generalizing k with
 | nil => simp at h
 | cons t l ih =>
   rw [rcells_cons]
   cases k with
   | zero => rw [List.getElem?_append_left (by simp; omega)]; simp [renAt]
   | succ k =>
     rw [List.getElem?_append_right (by simp; omega)]
     have e : (k + 1) * 4 + r - t.cells.length = k * 4 + r := by simp; omega
     rw [e, ih k (by simpa using h)]
     simp [renAt]
structure RensV (w : World) (A : Option Addr) (n : Nat) (l : List Ren) : Prop where
 row : Row w w.heap.size A (rcells l)
 len : n = l.length
 small : n ≤ 1000
 size : ∀ k, k < n → (renAt l k).old.size ≤ maxLen ∧ (renAt l k).new.size ≤ maxLen
theorem RensV.below {w w' : World} {A : Option Addr} {n : Nat} {l : List Ren} (h : RensV w A n l) (hb : Below w.heap.size w w') : RensV w' A n l := ⟨(h.row.below hb).more hb.size, h.len, h.small, h.size⟩
theorem RensV.at_ {w : World} {A : Option Addr} {n : Nat} {l : List Ren} (h : RensV w A n l) (k : Nat) (hk : k < n) : ∃ b off, A = some ⟨b, off, none⟩ ∧ b < w.heap.size ∧
 w.cell? ⟨b, off + k * 4, none⟩ = some (.string (renAt l k).old) ∧ w.cell? ⟨b, off + k * 4 + 1, none⟩ = some (.string (renAt l k).new) ∧ w.cell? ⟨b, off + k * 4 + 2, none⟩ = some (.int .i64 (renAt l k).num) ∧ w.cell? ⟨b, off + k * 4 + 3, none⟩ = some (.int .i64 (renAt l k).den) := by
 have hl : k < l.length := by have := h.len; omega
 obtain ⟨b, off, hA, hb, hc⟩ := h.row.at_ 0 (by rw [rcells_length]; omega)
 have g := fun r hr => rcells_get l k r hl hr
 refine ⟨b, off, hA, hb, ?_, ?_, ?_, ?_⟩
 ·exact hc _ _ (g 0 (by omega))
 ·rw [Nat.add_assoc]; exact hc _ _ (g 1 (by omega))
 ·rw [Nat.add_assoc]; exact hc _ _ (g 2 (by omega))
 ·rw [Nat.add_assoc]; exact hc _ _ (g 3 (by omega))
def bools (l : List Bool) : List Value := l.map Value.bool
theorem bools_set (l : List Bool) (k : Nat) (x : Bool) : (bools l).set k (.bool x) = bools (l.set k x) := by simp [bools, List.map_set]
def bAt (l : List Bool) (k : Nat) : Bool := l[k]?.getD false
theorem bools_at (l : List Bool) (k : Nat) (h : k < l.length) : (bools l)[k]? = some (.bool (bAt l k)) := by simp [bools, bAt, h]
def factorB (r : Ren) : Bool := decide (1 ≤ r.num) && decide (r.num ≤ 1048576) && decide (1 ≤ r.den) && decide (r.den ≤ 1048576)
/-- The error of a rename, where the items marked in ren have been renamed. -/
def typeB (a b : It) (r : Ren) : Bool := alikeB a b && (!a.object || (r.num == 1 && r.den == 1))
def renErr (lo ln : List It) (ren : List Bool) (r : Ren) : Int :=
 match idxTo lo lo.length r.old, idxTo ln ln.length r.new with
 | some a, some b => if bAt ren a = true then 8 else if factorB r = false then 5 else if typeB (itAt lo a) (itAt ln b) r = false then 9 else 0
 | _, _ => 6
/-- What a rename does. -/
def renSt (lo ln : List It) (st : List Bool × List Tr) (r : Ren) : List Bool × List Tr :=
 match idxTo lo lo.length r.old, idxTo ln ln.length r.new with
 | some a, some b => (st.1.set a true, st.2.set a ((b : Int), r.num, r.den))
 | _, _ => st
def renTo (lo ln : List It) (rs : List Ren) : Nat → List Bool × List Tr
 | 0 => (List.replicate lo.length false, List.replicate lo.length (0, 0, 0))
 | k + 1 => renSt lo ln (renTo lo ln rs k) (renAt rs k)
theorem renTo_len (lo ln : List It) (rs : List Ren) (k : Nat) : (renTo lo ln rs k).1.length = lo.length ∧ (renTo lo ln rs k).2.length = lo.length := by
 induction k with
 | zero => simp [renTo]
 | succ k ih =>
   simp only [renTo, renSt]
   split
   ·simp [ih.1, ih.2]
   ·exact ih
/-- The first error of the first k renames. -/
def renE (lo ln : List It) (rs : List Ren) : Nat → Int
 | 0 => 0
 | k + 1 => if renE lo ln rs k ≠ 0 then renE lo ln rs k else renErr lo ln (renTo lo ln rs k).1 (renAt rs k)
theorem renE_stays {lo ln : List It} {rs : List Ren} {k : Nat} (h : renE lo ln rs k ≠ 0) : ∀ m, k ≤ m → renE lo ln rs m = renE lo ln rs k := by
 intro m hm
 induction m with
 | zero => obtain rfl : k = 0 := by omega
           rfl
 | succ m ih =>
   by_cases e : k = m + 1
   ·subst e; rfl
   ·have h1 := ih (by omega)
    simp only [renE]
    rw [if_pos (by rw [h1]; exact h), h1]
/-- The counterpart of an item that is not renamed, and its error. -/
def keepT (ln : List It) (t : It) : Tr := match idxTo ln ln.length t.name with | some b => ((b : Int), 1, 1) | none => (-1, 0, 0)
def keepErr (ln : List It) (t : It) : Int := match idxTo ln ln.length t.name with | some b => if alikeB t (itAt ln b) = false then 9 else 0 | none => 0
def endAt (lo ln : List It) (st : List Bool × List Tr) (i : Nat) : Tr := if bAt st.1 i = true then st.2[i]?.getD (0, 0, 0) else keepT ln (itAt lo i)
def endTo (lo ln : List It) (st : List Bool × List Tr) (k : Nat) : List Tr := (List.range lo.length).map fun i => if i < k then endAt lo ln st i else st.2[i]?.getD (0, 0, 0)
def endE (lo ln : List It) (st : List Bool × List Tr) : Nat → Int
 | 0 => 0
 | k + 1 => if endE lo ln st k ≠ 0 then endE lo ln st k else if bAt st.1 k = true then 0 else keepErr ln (itAt lo k)
theorem endE_stays {lo ln : List It} {st : List Bool × List Tr} {k : Nat} (h : endE lo ln st k ≠ 0) : ∀ m, k ≤ m → endE lo ln st m = endE lo ln st k := by
 intro m hm
 induction m with
 | zero => obtain rfl : k = 0 := by omega
           rfl
 | succ m ih =>
   by_cases e : k = m + 1
   ·subst e; rfl
   ·have h1 := ih (by omega)
    simp only [endE]
    rw [if_pos (by rw [h1]; exact h), h1]
@[simp] theorem endTo_length (lo ln : List It) (st : List Bool × List Tr) (k : Nat) : (endTo lo ln st k).length = lo.length := by simp [endTo]
theorem endTo_zero (lo ln : List It) (st : List Bool × List Tr) (h : st.2.length = lo.length) : endTo lo ln st 0 = st.2 := by
 apply List.ext_getElem?
 intro i
 by_cases hi : i < lo.length
 ·simp [endTo, hi, h]
 ·rw [List.getElem?_eq_none (by simp; omega), List.getElem?_eq_none (by omega)]
theorem endTo_at (lo ln : List It) (st : List Bool × List Tr) (k i : Nat) (hi : i < lo.length) : (endTo lo ln st k)[i]? = some (if i < k then endAt lo ln st i else st.2[i]?.getD (0, 0, 0)) := by
 simp [endTo, hi]
theorem endTo_skip (lo ln : List It) (st : List Bool × List Tr) (k : Nat) (h : bAt st.1 k = true) : endTo lo ln st (k + 1) = endTo lo ln st k := by
 apply List.ext_getElem?
 intro i
 by_cases hi : i < lo.length
 ·rw [endTo_at _ _ _ _ _ hi, endTo_at _ _ _ _ _ hi]
  by_cases e : i = k
  ·subst e; rw [if_pos (by omega), if_neg (by omega), endAt, if_pos h]
  ·by_cases h2 : i < k
   ·rw [if_pos h2, if_pos (by omega)]
   ·rw [if_neg h2, if_neg (by omega)]
 ·rw [List.getElem?_eq_none (by simp; omega), List.getElem?_eq_none (by simp; omega)]
theorem endTo_set (lo ln : List It) (st : List Bool × List Tr) (k : Nat) (hk : k < lo.length) (h : ¬ bAt st.1 k = true) : (endTo lo ln st k).set k (keepT ln (itAt lo k)) = endTo lo ln st (k + 1) := by
 apply List.ext_getElem?
 intro i
 by_cases e : k = i
 ·subst e
  rw [List.getElem?_set_self (by simpa using hk), endTo_at _ _ _ _ _ hk, if_pos (by omega), endAt, if_neg h]
 ·rw [List.getElem?_set_ne e]
  by_cases hi : i < lo.length
  ·rw [endTo_at _ _ _ _ _ hi, endTo_at _ _ _ _ _ hi]
   by_cases h2 : i < k
   ·rw [if_pos h2, if_pos (by omega)]
   ·rw [if_neg h2, if_neg (by omega)]
  ·rw [List.getElem?_eq_none (by simp; omega), List.getElem?_eq_none (by simp; omega)]
/-- The error and the counterparts of New on valid catalogs. -/
def newE (lo ln : List It) (rs : List Ren) : Int := if renE lo ln rs rs.length ≠ 0 then renE lo ln rs rs.length else endE lo ln (renTo lo ln rs rs.length) lo.length
def newL (lo ln : List It) (rs : List Ren) : List Tr := if newE lo ln rs = 0 then endTo lo ln (renTo lo ln rs rs.length) lo.length else []
def NewPost (w : World) (lo ln : List It) (rs : List Ren) (e : Ending) (w' : World) : Prop :=
 ∃ A c, e = .returned (.tuple #[.slice A (newL lo ln rs).length c, .int .i64 (newE lo ln rs)]) ∧ Row w' w'.heap.size A (tcells (newL lo ln rs)) ∧ Below w.heap.size w w'
theorem newPost_err {w w' : World} {lo ln : List It} {rs : List Ren} {E : Int} (h : newE lo ln rs = E) (hE : E ≠ 0) (hb : Below w.heap.size w w') : NewPost w lo ln rs (.returned (.tuple #[.slice none 0 0, .int .i64 E])) w' := by
 have h1 : newL lo ln rs = [] := by unfold newL; rw [if_neg (by omega)]
 exact ⟨none, 0, by rw [h1, h]; rfl, by rw [h1]; exact .inl rfl, hb⟩
theorem newE_ren {lo ln : List It} {rs : List Ren} {k : Nat} (hk : k < rs.length) (h0 : renE lo ln rs k = 0) (h : renErr lo ln (renTo lo ln rs k).1 (renAt rs k) ≠ 0) : newE lo ln rs = renErr lo ln (renTo lo ln rs k).1 (renAt rs k) := by
 have h1 : renE lo ln rs (k + 1) = renErr lo ln (renTo lo ln rs k).1 (renAt rs k) := by simp only [renE]; rw [if_neg (by omega)]
 have h2 := renE_stays (m := rs.length) (by rw [h1]; exact h) hk
 unfold newE
 rw [h2, h1, if_pos h]
/-- The memory of New. -/
structure NewAt (w W : World) (io ro to_ xo ix rx tx xx : Sl) (bo bn gm gr : Nat) (lo ln : List It) (ren : List Bool) (m : List Tr) : Prop where
 mo : MapI W bo io.n (idxTo lo io.n)
 mn : MapI W bn ix.n (idxTo ln ix.n)
 bm : Bk W gm 64 (tcells m)
 br : Bk W gr 4 (bools ren)
 b1 : Bk W w.heap.size 28 (catSL io ro to_ xo)
 b2 : Bk W (w.heap.size + 1) 28 (catSL ix rx tx xx)
 below : Below w.heap.size w W
 gm2 : w.heap.size + 2 ≤ gm
 gr2 : w.heap.size + 2 ≤ gr
 ne : gm ≠ gr
theorem MapI.ne_bk {W : World} {b n g : Nat} {M : ByteArray → Option Nat} {t : TypeId} {xs : List Value} (h : MapI W b n M) (hb : Bk W g t xs) : b ≠ g := by
 rintro rfl
 obtain ⟨D, ⟨es, clock, hh, _⟩, _⟩ := h
 unfold Bk at hb
 rw [hh] at hb
 cases hb
section
variable {w W W' : World} {io ro to_ xo ix rx tx xx : Sl} {bo bn gm gr : Nat} {lo ln : List It} {ren : List Bool} {m : List Tr}
theorem NewAt.grow (h : NewAt w W io ro to_ xo ix rx tx xx bo bn gm gr lo ln ren m) (hb : Below W.heap.size W W') : NewAt w W' io ro to_ xo ix rx tx xx bo bn gm gr lo ln ren m :=
 ⟨h.mo.below hb, h.mn.below hb, h.bm.below hb h.bm.lt, h.br.below hb h.br.lt, h.b1.below hb h.b1.lt, h.b2.below hb h.b2.lt, h.below.trans (hb.mono h.below.size), h.gm2, h.gr2, h.ne⟩
theorem NewAt.setR (h : NewAt w W io ro to_ xo ix rx tx xx bo bn gm gr lo ln ren m) (a : Nat) : NewAt w (W.setCell ⟨gr, a, none⟩ (.bool true)) io ro to_ xo ix rx tx xx bo bn gm gr lo ln (ren.set a true) m := by
 have g := grown_setCell W gr a (.bool true)
 have h1 := h.gr2
 exact ⟨h.mo.kept g (fun e => h.mo.ne_bk h.br (Option.some.inj e)), h.mn.kept g (fun e => h.mn.ne_bk h.br (Option.some.inj e)), h.bm.far h.ne _, by rw [← bools_set]; exact h.br.set a _,
  h.b1.far (by simp; omega) _, h.b2.far (by simp; omega) _, h.below.setCell (by simp; omega) _, h.gm2, h.gr2, h.ne⟩
theorem NewAt.setM1 (h : NewAt w W io ro to_ xo ix rx tx xx bo bn gm gr lo ln ren m) (a : Nat) (t : Tr) (ha : a < m.length) :
 NewAt w (((W.setCell ⟨gm, a * 3, none⟩ (.int .i64 t.1)).setCell ⟨gm, a * 3 + 1, none⟩ (.int .i64 t.2.1)).setCell ⟨gm, a * 3 + 2, none⟩ (.int .i64 t.2.2)) io ro to_ xo ix rx tx xx bo bn gm gr lo ln ren (m.set a t) := by
 have h1 := h.gm2
 have k : ∀ (b n : Nat) (M : ByteArray → Option Nat), MapI W b n M → MapI (((W.setCell ⟨gm, a * 3, none⟩ (.int .i64 t.1)).setCell ⟨gm, a * 3 + 1, none⟩ (.int .i64 t.2.1)).setCell ⟨gm, a * 3 + 2, none⟩ (.int .i64 t.2.2)) b n M := fun b n M hM => by
  have hne : some b ≠ some gm := fun e => hM.ne_bk h.bm (Option.some.inj e)
  exact ((hM.kept (grown_setCell W gm _ _) hne).kept (grown_setCell _ gm _ _) hne).kept (grown_setCell _ gm _ _) hne
 refine ⟨k _ _ _ h.mo, k _ _ _ h.mn, ?_, ((h.br.far (Ne.symm h.ne) _).far (Ne.symm h.ne) _).far (Ne.symm h.ne) _, ((h.b1.far (by simp; omega) _).far (by simp; omega) _).far (by simp; omega) _, ((h.b2.far (by simp; omega) _).far (by simp; omega) _).far (by simp; omega) _,
  ((h.below.setCell (by simp; omega) _).setCell (by simp; omega) _).setCell (by simp; omega) _, h.gm2, h.gr2, h.ne⟩
 rw [tcells_set _ _ _ ha]
 exact ((h.bm.set _ _).set _ _).set _ _
end
theorem make_tos (n : Nat) (hn : n ≤ 1000000) (W : World) :
 (Instr.makeSlice 33 (.int .i64 (n : Int)) (.int .i64 (n : Int))).run Tryz.prog W = .ok (.slice (some ⟨W.heap.size, 0, none⟩) n n) (W.alloc (.cells (tcells (List.replicate n (0, 0, 0))).toArray 64)) := by
 obtain ⟨i, hi, hz0, hz1, hz2⟩ := info_parts info64
 have h := run_make (P := Tryz.prog) W 33 64 i (.agg #[.int .i64 0, .int .i64 0, .int .i64 0]) Tryz.underlying33 hi hz0 .i64 .i64 n n (by omega) (by omega) (by rw [hz2]; omega) (by omega)
 rw [hz1] at h
 simp only [Int.toNat_natCast] at h
 have e : madeCells (Value.agg #[.int .i64 0, .int .i64 0, .int .i64 0]).cells (n * 3) = (tcells (List.replicate n (0, 0, 0))).toArray := by
  have hc : (Value.agg #[.int .i64 0, .int .i64 0, .int .i64 0]).cells = #[.int .i64 0, .int .i64 0, .int .i64 0] := by rfl
  rw [hc]
  apply Array.ext
  ·simp [madeCells, tcells_length]
  ·intro j h1 h2
   have h2' : j < n * 3 := by simpa [tcells_length] using h2
   have hj : j / 3 < n := by omega
   have ht := tcells_at (List.replicate n ((0, 0, 0) : Tr)) (j / 3) (by simpa using hj)
   have hr : (List.replicate n ((0, 0, 0) : Tr))[j / 3]? = some (0, 0, 0) := by simp [hj]
   simp only [itemAt, numAt, denAt, hr, Option.getD_some] at ht
   have key : (tcells (List.replicate n ((0, 0, 0) : Tr)))[j]? = some (.int .i64 0) := by
    rcases (show j = j / 3 * 3 ∨ j = j / 3 * 3 + 1 ∨ j = j / 3 * 3 + 2 by omega) with e | e | e
    ·rw [e]; exact ht.1
    ·rw [e]; exact ht.2.1
    ·rw [e]; exact ht.2.2
   have key2 : (tcells (List.replicate n ((0, 0, 0) : Tr)))[j]'(by rw [tcells_length]; simpa using h2') = .int .i64 0 := by
    have := List.getElem?_eq_some_iff.1 key
    exact this.2
   have e2 : (tcells (List.replicate n ((0, 0, 0) : Tr))).toArray[j] = .int .i64 0 := by simpa using key2
   rw [e2]
   simp only [madeCells, Array.getElem_ofFn]
   rcases (show j % 3 = 0 ∨ j % 3 = 1 ∨ j % 3 = 2 by omega) with e | e | e <;> simp [e]
 rw [e] at h
 exact h
theorem info4 : (Tryz.prog.info? 4).map (fun i => (i.zero, i.size, i.bytes)) = some (some (.bool false), 1, 1) := by kernel_rfl
theorem make_bools (n : Nat) (hn : n ≤ 1000000) (W : World) :
 (Instr.makeSlice 93 (.int .i64 (n : Int)) (.int .i64 (n : Int))).run Tryz.prog W = .ok (.slice (some ⟨W.heap.size, 0, none⟩) n n) (W.alloc (.cells (bools (List.replicate n false)).toArray 4)) := by
 obtain ⟨i, hi, hz0, hz1, hz2⟩ := info_parts info4
 have h := run_make (P := Tryz.prog) W 93 4 i (.bool false) Tryz.underlying93 hi hz0 .i64 .i64 n n (by omega) (by omega) (by rw [hz2]; omega) (by omega)
 rw [hz1] at h
 simp only [Int.toNat_natCast, Nat.mul_one] at h
 have e : madeCells (Value.bool false).cells n = (bools (List.replicate n false)).toArray := by
  show madeCells #[.bool false] n = _
  rw [made_zero]
  simp [bools]
 rw [e] at h
 exact h
end
end Go.Proofs.YthjfdfdgbpbanaaGreatDoor
