/- catalog.Valid on a catalog of good items and nothing else; version.names. -/
import Derived.Test.YthjfdfdgbpbanaaGreatDoorA19
import Derived.Laws.EntriesVeiled
namespace Go.Proofs.YthjfdfdgbpbanaaGreatDoor
open Go.RowKit

abbrev catV (A : Option Addr) (n c : Nat) : Value := .agg #[.slice A n c, .slice none 0 0, .slice none 0 0, .slice none 0 0]
abbrev catO (A : Option Addr) (n c : Nat) : Obj := .cells #[.slice A n c, .slice none 0 0, .slice none 0 0, .slice none 0 0] 28
abbrev catL (A : Option Addr) (n c : Nat) : List Value := [.slice A n c, .slice none 0 0, .slice none 0 0, .slice none 0 0]

/-- Items that a valid catalog may have. -/
structure GoodIt (l : List It) : Prop where
  len : l.length ≤ 64
  fits : l.all itFitsB = true
  dist : distB l = true
  formed : l.all itFormedB = true
  range : l.all itRangeB = true
/-- A catalog of good items in memory. -/
structure CatV (w : World) (A : Option Addr) (n : Nat) (l : List It) : Prop where
  items : ItemsV w A n l
  good : GoodIt l
  tab : Tab w
theorem CatV.below {w w' : World} {A : Option Addr} {n : Nat} {l : List It} (h : CatV w A n l) (hb : Below w.heap.size w w') : CatV w' A n l := ⟨h.items.below hb, h.good, h.tab.below hb h.tab.1⟩
theorem CatV.n64 {w : World} {A : Option Addr} {n : Nat} {l : List It} (h : CatV w A n l) : n ≤ 64 := by have := h.items.len; have := h.good.len; omega

set_option maxRecDepth 100000 in
set_option maxHeartbeats 1000000 in
theorem limits_items {w : World} {A : Option Addr} {n : Nat} (c : Nat) {l : List It} (h : CatV w A n l) : Calls Tryz.prog 100 #[catV A n c] w fun e w' => e = .returned (.bool true) ∧ Below w.heap.size w w' := by
  have hb0 : Below w.heap.size w (w.alloc (catO A n c)) := (Below.refl _ _).alloc (Nat.le_refl _) _
  have hn := h.n64
  clear h
  have hd : decide (n ≤ 64) = true := by simpa using hn
  go_enter Tryz.func100, Tryz.ntmps100
  go_wp2_with fail
  refine (every_nil118 _ _).mono ?_
  rintro e w1 ⟨rfl, rfl⟩
  go_wp2_with fail
  refine (every_nil120 _ _).mono ?_
  rintro e w1 ⟨rfl, rfl⟩
  go_wp2_with fail
  refine (every_nil122 _ _).mono ?_
  rintro e w1 ⟨rfl, rfl⟩
  go_wp2
  go_ret
  exact ⟨rfl, hb0⟩


set_option maxRecDepth 100000 in
set_option maxHeartbeats 1000000 in
theorem fit_items {w : World} {A : Option Addr} {n : Nat} (c : Nat) {l : List It} (h : CatV w A n l) : Calls Tryz.prog 101 #[catV A n c] w fun e w' => e = .returned (.bool true) ∧ Below w.heap.size w w' := by
  have hb0 : Below w.heap.size w (w.alloc (catO A n c)) := (Below.refl _ _).alloc (Nat.le_refl _) _
  have K := every_it125 c itFitsB (h.items.below hb0) (fun t W ht hW => itfits_any t (h.items.name t ht) W ((h.tab.below hb0 h.tab.1).below hW (by have := h.tab.1; simp)))
  rw [h.good.fits] at K
  have HK := Lib.hid K
  clear K h
  go_enter Tryz.func101, Tryz.ntmps101
  go_wp2_with fail
  refine HK.out.mono ?_
  rintro e w1 ⟨rfl, hb1⟩
  have hbk := Bk.new w 28 (catL A n c)
  have hbk2 : Bk w1 w.heap.size 28 (catL A n c) := (hbk).below hb1 (by simp)
  have d1 : w1.cell? ⟨w.heap.size, 1, none⟩ = some (.slice none 0 0) := hbk2.cell 1
  have d2 : w1.cell? ⟨w.heap.size, 2, none⟩ = some (.slice none 0 0) := hbk2.cell 2
  have d3 : w1.cell? ⟨w.heap.size, 3, none⟩ = some (.slice none 0 0) := hbk2.cell 3
  have G1 : Below w.heap.size w w1 := hb0.trans (hb1.mono (by simp))
  clear hbk hbk2 hb1 HK hb0
  go_wp2_with fail
  refine (every_nil118 _ _).mono ?_
  rintro e w2 ⟨rfl, rfl⟩
  go_wp2_with fail
  refine (every_nil120 _ _).mono ?_
  rintro e w2 ⟨rfl, rfl⟩
  go_wp2_with fail
  refine (every_nil122 _ _).mono ?_
  rintro e w2 ⟨rfl, rfl⟩
  go_wp2
  go_ret
  exact ⟨rfl, G1⟩


set_option maxRecDepth 100000 in
set_option maxHeartbeats 1000000 in
theorem formed_items {w : World} {A : Option Addr} {n : Nat} (c : Nat) {l : List It} (h : CatV w A n l) : Calls Tryz.prog 103 #[catV A n c] w fun e w' => e = .returned (.bool true) ∧ Below w.heap.size w w' := by
  have hb0 : Below w.heap.size w ((w.alloc (catO A n c)).alloc (.cells #[.func (.func 138) #[] #[.pointer (some ⟨w.heap.size, 0, none⟩)]] 197)) := ((Below.refl _ _).alloc (Nat.le_refl _) _).alloc (by simp) _
  have K := every_it139 c itFormedB (h.items.below hb0) (fun t W _ _ => itformed_any t W)
  rw [h.good.formed] at K
  have HK := Lib.hid K
  clear K h
  go_enter Tryz.func103, Tryz.ntmps103
  go_wp2_with fail
  refine HK.out.mono ?_
  rintro e w1 ⟨rfl, hb1⟩
  have hbk := Bk.new w 28 (catL A n c)
  have hbk2 : Bk w1 w.heap.size 28 (catL A n c) := (hbk.alloc _).below hb1 (by simp; omega)
  have d1 : w1.cell? ⟨w.heap.size, 1, none⟩ = some (.slice none 0 0) := hbk2.cell 1
  have d2 : w1.cell? ⟨w.heap.size, 2, none⟩ = some (.slice none 0 0) := hbk2.cell 2
  have d3 : w1.cell? ⟨w.heap.size, 3, none⟩ = some (.slice none 0 0) := hbk2.cell 3
  have G1 : Below w.heap.size w w1 := hb0.trans (hb1.mono (by simp; omega))
  clear hbk hbk2 hb1 HK hb0
  go_wp2_with fail
  refine (every_nil118 _ _).mono ?_
  rintro e w2 ⟨rfl, rfl⟩
  go_wp2_with fail
  refine (every_nil120 _ _).mono ?_
  rintro e w2 ⟨rfl, rfl⟩
  go_wp2_with fail
  refine (every_nil122 _ _).mono ?_
  rintro e w2 ⟨rfl, rfl⟩
  go_wp2
  go_ret
  exact ⟨rfl, G1⟩


set_option maxRecDepth 100000 in
set_option maxHeartbeats 1000000 in
theorem range_items {w : World} {A : Option Addr} {n : Nat} (c : Nat) {l : List It} (h : CatV w A n l) : Calls Tryz.prog 104 #[catV A n c] w fun e w' => e = .returned (.bool true) ∧ Below w.heap.size w w' := by
  have hb0 : Below w.heap.size w ((w.alloc (catO A n c)).alloc (.cells #[.func (.func 147) #[] #[]] 197)) := ((Below.refl _ _).alloc (Nat.le_refl _) _).alloc (by simp) _
  have K := every_it150 c itRangeB (h.items.below hb0) (fun t W _ _ => itrange_any t W)
  rw [h.good.range] at K
  have HK := Lib.hid K
  clear K h
  go_enter Tryz.func104, Tryz.ntmps104
  go_wp2_with fail
  refine HK.out.mono ?_
  rintro e w1 ⟨rfl, hb1⟩
  have hbk := Bk.new w 28 (catL A n c)
  have hbk2 : Bk w1 w.heap.size 28 (catL A n c) := (hbk.alloc _).below hb1 (by simp; omega)
  have d1 : w1.cell? ⟨w.heap.size, 1, none⟩ = some (.slice none 0 0) := hbk2.cell 1
  have d2 : w1.cell? ⟨w.heap.size, 2, none⟩ = some (.slice none 0 0) := hbk2.cell 2
  have d3 : w1.cell? ⟨w.heap.size, 3, none⟩ = some (.slice none 0 0) := hbk2.cell 3
  have G1 : Below w.heap.size w w1 := hb0.trans (hb1.mono (by simp; omega))
  clear hbk hbk2 hb1 HK hb0
  go_wp2_with fail
  refine (every_nil118 _ _).mono ?_
  rintro e w2 ⟨rfl, rfl⟩
  go_wp2_with fail
  refine (every_nil120 _ _).mono ?_
  rintro e w2 ⟨rfl, rfl⟩
  go_wp2_with fail
  refine (every_nil122 _ _).mono ?_
  rintro e w2 ⟨rfl, rfl⟩
  go_wp2
  go_ret
  exact ⟨rfl, G1⟩


set_option maxRecDepth 100000 in
set_option maxHeartbeats 1000000 in
theorem names_items {w : World} {A : Option Addr} {n : Nat} (c : Nat) {l : List It} (h : CatV w A n l) : Calls Tryz.prog 102 #[catV A n c] w fun e w' => e = .returned (.bool true) ∧ Below w.heap.size w w' := by
  have hb0 : Below w.heap.size w (w.alloc (catO A n c)) := (Below.refl _ _).alloc (Nat.le_refl _) _
  have K := differ_items c (h.items.below hb0)
  rw [h.good.dist] at K
  have HK := Lib.hid K
  clear K h
  go_enter Tryz.func102, Tryz.ntmps102
  go_wp2_with fail
  refine HK.out.mono ?_
  rintro e w1 ⟨rfl, hb1⟩
  have k1 : Bk w1 w.heap.size 28 (catL A n c) := (Bk.new w 28 (catL A n c)).below hb1 (by simp)
  have G1 : Below w.heap.size w w1 := hb0.trans (hb1.mono (by simp))
  have d1 : w1.cell? ⟨w.heap.size, 1, none⟩ = some (.slice none 0 0) := k1.cell 1
  clear hb1 HK hb0
  go_wp2_with fail
  refine (differ_nil132 _ _).mono ?_
  rintro e w2 ⟨rfl, hb2⟩
  have k2 := k1.below hb2 k1.lt
  have G2 := G1.trans (hb2.mono G1.size)
  have d2 : w2.cell? ⟨w.heap.size, 2, none⟩ = some (.slice none 0 0) := k2.cell 2
  clear d1 k1 hb2 G1
  go_wp2_with fail
  refine (differ_nil134 _ _).mono ?_
  rintro e w3 ⟨rfl, hb3⟩
  have k3 := k2.below hb3 k2.lt
  have G3 := G2.trans (hb3.mono G2.size)
  have d3 : w3.cell? ⟨w.heap.size, 3, none⟩ = some (.slice none 0 0) := k3.cell 3
  clear d2 k2 hb3 G2
  go_wp2_with fail
  refine (differ_nil136 _ _).mono ?_
  rintro e w4 ⟨rfl, hb4⟩
  go_wp2
  go_ret
  exact ⟨rfl, G3.trans (hb4.mono G3.size)⟩

set_option maxRecDepth 100000 in
set_option maxHeartbeats 1000000 in
theorem valid_items {w : World} {A : Option Addr} {n : Nat} (c : Nat) {l : List It} (h : CatV w A n l) : Calls Tryz.prog 80 #[catV A n c] w fun e w' => e = .returned (.int .i64 0) ∧ Below w.heap.size w w' := by
  have hb0 : Below w.heap.size w (w.alloc (catO A n c)) := (Below.refl _ _).alloc (Nat.le_refl _) _
  have H := Lib.hid h
  clear h
  go_enter Tryz.func80, Tryz.ntmps80
  go_wp2_with fail
  refine (limits_items c (H.out.below hb0)).mono ?_
  rintro e w1 ⟨rfl, hb1⟩
  have k1 : Bk w1 w.heap.size 28 (catL A n c) := (Bk.new w 28 (catL A n c)).below hb1 (by simp)
  have G1 : Below w.heap.size w w1 := hb0.trans (hb1.mono (by simp))
  have s0 : w1.cell? ⟨w.heap.size, 0, none⟩ = some (.slice A n c) := k1.cell 0
  have s1 : w1.cell? ⟨w.heap.size, 1, none⟩ = some (.slice none 0 0) := k1.cell 1
  have s2 : w1.cell? ⟨w.heap.size, 2, none⟩ = some (.slice none 0 0) := k1.cell 2
  have s3 : w1.cell? ⟨w.heap.size, 3, none⟩ = some (.slice none 0 0) := k1.cell 3
  go_wp2_with fail
  refine (fit_items c (H.out.below G1)).mono ?_
  rintro e w2 ⟨rfl, hb2⟩
  have k2 := k1.below hb2 k1.lt
  have G2 := G1.trans (hb2.mono G1.size)
  clear s0 s1 s2 s3
  have s0 : w2.cell? ⟨w.heap.size, 0, none⟩ = some (.slice A n c) := k2.cell 0
  have s1 : w2.cell? ⟨w.heap.size, 1, none⟩ = some (.slice none 0 0) := k2.cell 1
  have s2 : w2.cell? ⟨w.heap.size, 2, none⟩ = some (.slice none 0 0) := k2.cell 2
  have s3 : w2.cell? ⟨w.heap.size, 3, none⟩ = some (.slice none 0 0) := k2.cell 3
  go_wp2_with fail
  refine (names_items c (H.out.below G2)).mono ?_
  rintro e w3 ⟨rfl, hb3⟩
  have k3 := k2.below hb3 k2.lt
  have G3 := G2.trans (hb3.mono G2.size)
  clear s0 s1 s2 s3
  have s0 : w3.cell? ⟨w.heap.size, 0, none⟩ = some (.slice A n c) := k3.cell 0
  have s1 : w3.cell? ⟨w.heap.size, 1, none⟩ = some (.slice none 0 0) := k3.cell 1
  have s2 : w3.cell? ⟨w.heap.size, 2, none⟩ = some (.slice none 0 0) := k3.cell 2
  have s3 : w3.cell? ⟨w.heap.size, 3, none⟩ = some (.slice none 0 0) := k3.cell 3
  go_wp2_with fail
  refine (formed_items c (H.out.below G3)).mono ?_
  rintro e w4 ⟨rfl, hb4⟩
  have k4 := k3.below hb4 k3.lt
  have G4 := G3.trans (hb4.mono G3.size)
  clear s0 s1 s2 s3
  have s0 : w4.cell? ⟨w.heap.size, 0, none⟩ = some (.slice A n c) := k4.cell 0
  have s1 : w4.cell? ⟨w.heap.size, 1, none⟩ = some (.slice none 0 0) := k4.cell 1
  have s2 : w4.cell? ⟨w.heap.size, 2, none⟩ = some (.slice none 0 0) := k4.cell 2
  have s3 : w4.cell? ⟨w.heap.size, 3, none⟩ = some (.slice none 0 0) := k4.cell 3
  go_wp2_with fail
  refine (range_items c (H.out.below G4)).mono ?_
  rintro e w5 ⟨rfl, hb5⟩
  have k5 := k4.below hb5 k4.lt
  have G5 := G4.trans (hb5.mono G4.size)
  clear s0 s1 s2 s3
  go_wp2
  go_ret
  exact ⟨rfl, G5⟩

set_option maxRecDepth 100000 in
set_option maxHeartbeats 1000000 in
theorem both_items {w : World} {A A' : Option Addr} {n n' : Nat} (c c' : Nat) {l l' : List It} (h : CatV w A n l) (h' : CatV w A' n' l') :
    Calls Tryz.prog 43 #[catV A n c, catV A' n' c'] w fun e w' => e = .returned (.int .i64 0) ∧ Below w.heap.size w w' := by
  have hb0 : Below w.heap.size w ((w.alloc (catO A n c)).alloc (catO A' n' c')) := ((Below.refl _ _).alloc (Nat.le_refl _) _).alloc (by simp) _
  have H := Lib.hid h
  have H' := Lib.hid h'
  clear h h'
  go_enter Tryz.func43, Tryz.ntmps43
  go_wp2_with fail
  refine (valid_items c (H.out.below hb0)).mono ?_
  rintro e w1 ⟨rfl, hb1⟩
  have kx := Bk.new (w.alloc (catO A n c)) 28 (catL A' n' c')
  rw [World.size_alloc] at kx
  have k1 : Bk w1 (w.heap.size + 1) 28 (catL A' n' c') := kx.below hb1 (by simp)
  have G1 : Below w.heap.size w w1 := hb0.trans (hb1.mono (by simp; omega))
  have s0 : w1.cell? ⟨w.heap.size + 1, 0, none⟩ = some (.slice A' n' c') := k1.cell 0
  have s1 : w1.cell? ⟨w.heap.size + 1, 1, none⟩ = some (.slice none 0 0) := k1.cell 1
  have s2 : w1.cell? ⟨w.heap.size + 1, 2, none⟩ = some (.slice none 0 0) := k1.cell 2
  have s3 : w1.cell? ⟨w.heap.size + 1, 3, none⟩ = some (.slice none 0 0) := k1.cell 3
  clear kx hb1 hb0
  go_wp2_with fail
  refine (valid_items c' (H'.out.below G1)).mono ?_
  rintro e w2 ⟨rfl, hb2⟩
  go_wp2
  go_ret
  exact ⟨rfl, G1.trans (hb2.mono G1.size)⟩

end Go.Proofs.YthjfdfdgbpbanaaGreatDoor
