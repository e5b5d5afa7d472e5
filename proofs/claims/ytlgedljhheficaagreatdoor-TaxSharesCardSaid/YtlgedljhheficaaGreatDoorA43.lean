/- The contract of the reference's Valid on a catalog that has one tax and nothing else. -/
import Derived.Test.YtlgedljhheficaaGreatDoorA14
import Derived.Test.YtlgedljhheficaaGreatDoorA40
import Derived.Test.YtlgedljhheficaaGreatDoorA41
import Derived.Test.YtlgedljhheficaaGreatDoorA42
namespace Go.Proofs.YtlgedljhheficaaGreatDoor
open Go.RowKit

theorem in_empty' (A : Option Addr) (c : Nat) (s : ByteArray) (w : World) : Calls Tryz.prog 61 #[.slice A 0 c, .string s] w fun e w' => e = .returned (.bool false) ∧ w' = w :=
  (in_empty A c s w).mono fun _ _ ⟨a, b⟩ => ⟨a, b.symm⟩

set_option maxRecDepth 100000 in
set_option maxHeartbeats 4000000 in
theorem rvalid_one {w : World} {g : Nat} {nm : ByteArray} {A : Option Addr} {n c : Nat} {brs : List (Int × Int)} (h : TaxAt w g nm A n c brs) (hnm : Nm nm) :
    Calls Tryz.prog 36 #[catV g] w fun e w' => e = .returned (.int .i64 (validE nm brs)) ∧ Below w.heap.size w w' := by
  have hb0 : Below w.heap.size w (w.alloc (catO g)) := (Below.refl _ _).alloc (Nat.le_refl _) _
  have Hv : Hid (validE nm brs = if decide (16 < (n : Int)) = true then 4 else if fitsB nm = false then 6 else if formedB brs = false then 1 else if rangeB brs brs.length = false then 5 else 0) := by
    show validE nm brs = _
    have hl := h.len
    have e : decide (brs.length ≤ 16) = !decide (16 < (n : Int)) := by
      by_cases hq : n ≤ 16
      · have a : brs.length ≤ 16 := by omega
        have b : ¬ 16 < (n : Int) := by omega
        simp [a, b]
      · have a : ¬ brs.length ≤ 16 := by omega
        have b : 16 < (n : Int) := by omega
        simp [a, b]
    unfold validE
    rw [e]
    cases decide (16 < (n : Int)) <;> rfl
  have hg := h.lt
  have H := Lib.hid (h.below hb0)
  have HB0 := Lib.hid hb0
  have HNm := Lib.hid hnm
  clear h hb0 hnm
  generalize validE nm brs = E at *
  go_enter Tryz.func36, Tryz.ntmps36
  go_wp2_with fail
  refine (names_list (nm := nm) H.out.lt H.out.c0).mono ?_
  rintro e w2 ⟨gl, h, cl, rfl, hgl, hh, d0, d1, d2, d3, hc1, dn, hb2⟩
  rw [World.size_alloc] at hb2
  have B2 := Lib.hid hb2
  have H2 := Lib.hid (H.out.below (by rw [World.size_alloc]; exact hb2))
  have HK2 : w2.heap[w.heap.size]? = some (catO g) := (hb2.block w.heap.size (by omega)).trans (heap_alloc_new w _)
  have HK := Lib.hid HK2
  have e0 : w2.cell? ⟨w.heap.size, 0, none⟩ = some (.slice none 0 0) := by simp [World.cell?, HK2]
  have e1 : w2.cell? ⟨w.heap.size, 1, none⟩ = some (.slice none 0 0) := by simp [World.cell?, HK2]
  have e2 : w2.cell? ⟨w.heap.size, 2, none⟩ = some (.slice none 0 0) := by simp [World.cell?, HK2]
  have e3 : w2.cell? ⟨w.heap.size, 3, none⟩ = some (.slice (some ⟨g, 0, none⟩) 1 1) := by simp [World.cell?, HK2]
  have hwl : w.heap.size < w2.heap.size := (Array.getElem?_eq_some_iff.1 HK2).1
  clear hb2 HK2 H
  go_wp2
  refine wp_loop_rounds 5 ?_
  rw [rounds_succ]
  go_wp2
  refine wp_loop_rounds 1 ?_
  rw [rounds_succ]
  go_wp2
  rw [rounds_succ]
  go_wp2
  refine wp_loop_rounds 1 ?_
  rw [rounds_succ]
  go_wp2
  rw [rounds_succ]
  go_wp2
  refine wp_loop_rounds 1 ?_
  rw [rounds_succ]
  go_wp2
  rw [rounds_succ]
  go_wp2
  refine wp_loop_rounds 2 ?_
  rw [rounds_succ]
  go_wp2_with fail
  refine (word_nm _ HNm.out).mono ?_
  rintro e w3 ⟨rfl, hb3⟩
  have B3 := Lib.hid (B2.out.trans (hb3.mono (by omega)))
  have H3 := Lib.hid (H2.out.below hb3)
  have e0' : w3.cell? ⟨w.heap.size, 0, none⟩ = some (.slice none 0 0) := (hb3.cell (p := ⟨w.heap.size, 0, none⟩) hwl).trans e0
  have e1' : w3.cell? ⟨w.heap.size, 1, none⟩ = some (.slice none 0 0) := (hb3.cell (p := ⟨w.heap.size, 1, none⟩) hwl).trans e1
  have e2' : w3.cell? ⟨w.heap.size, 2, none⟩ = some (.slice none 0 0) := (hb3.cell (p := ⟨w.heap.size, 2, none⟩) hwl).trans e2
  have e3' : w3.cell? ⟨w.heap.size, 3, none⟩ = some (.slice (some ⟨g, 0, none⟩) 1 1) := (hb3.cell (p := ⟨w.heap.size, 3, none⟩) hwl).trans e3
  have d3' : w3.cell? ⟨gl, 3, none⟩ = some (.slice (some ⟨h, 0, none⟩) 1 cl) := (hb3.cell (p := ⟨gl, 3, none⟩) hgl).trans d3
  have dn' : w3.cell? ⟨h, 0, none⟩ = some (.string nm) := (hb3.cell (p := ⟨h, 0, none⟩) hh).trans dn
  have hwl' : w.heap.size < w3.heap.size := Nat.lt_of_lt_of_le hwl hb3.size
  have hgl' : gl < w3.heap.size := Nat.lt_of_lt_of_le hgl hb3.size
  have hh' : h < w3.heap.size := Nat.lt_of_lt_of_le hh hb3.size
  have a0 := H3.out.c0
  have a1 := H3.out.c1
  have hg3 := H3.out.lt
  clear hb3 e0 e1 e2 e3 d0 d1 d2 d3 dn hwl hgl hh B2 H2 HK
  generalize hfb : fitsB nm = fb at *
  clear hfb
  go_wp2
  go_quiet ((go_at_call 61; exact Calls.quiet_of_same (in_empty' _ _ _ _)))
  go_wp2
  rw [rounds_succ]
  go_wp2
  rw [rounds_succ]
  go_wp2
  refine wp_loop_rounds 1 ?_
  rw [rounds_succ]
  go_wp2
  refine wp_loop_rounds 1 ?_
  rw [rounds_succ]
  go_wp2
  refine wp_loop_rounds 1 ?_
  rw [rounds_succ]
  go_wp2
  refine wp_loop_rounds 2 ?_
  rw [rounds_succ]
  go_wp2_with fail
  have hbd := fun nq : Nat => bel_drewN (Below.refl w3.heap.size w3) nq
  refine (tax_errors nm A n c brs _ (H3.out.below (hbd _)).row H3.out.len H3.out.small).mono ?_
  rintro e w4 ⟨rfl, hb4⟩
  have hb4 : Below w3.heap.size w3 w4 := ⟨hb4.os, hb4.tape, hb4.output, hb4.size, hb4.block⟩
  have B4 := Lib.hid (B3.out.trans (hb4.mono (by omega)))
  have x0 : w4.cell? ⟨w.heap.size, 0, none⟩ = some (.slice none 0 0) := (hb4.cell (p := ⟨w.heap.size, 0, none⟩) hwl').trans e0'
  have x1 : w4.cell? ⟨w.heap.size, 1, none⟩ = some (.slice none 0 0) := (hb4.cell (p := ⟨w.heap.size, 1, none⟩) hwl').trans e1'
  have x2 : w4.cell? ⟨w.heap.size, 2, none⟩ = some (.slice none 0 0) := (hb4.cell (p := ⟨w.heap.size, 2, none⟩) hwl').trans e2'
  have x3 : w4.cell? ⟨w.heap.size, 3, none⟩ = some (.slice (some ⟨g, 0, none⟩) 1 1) := (hb4.cell (p := ⟨w.heap.size, 3, none⟩) hwl').trans e3'
  have hx : w.heap.size < w4.heap.size := Nat.lt_of_lt_of_le hwl' hb4.size
  clear hb4 e0' e1' e2' e3' d3' dn' hwl' hgl' hh' a0 a1 hg3 hbd B3 H3
  generalize decide (16 < (n : Int)) = L at *
  generalize formedB brs = F at *
  generalize rangeB brs brs.length = R at *
  go_wp2
  rw [rounds_succ]
  go_wp2_with fail
  refine (lists_one g _).mono ?_
  rintro e w5 ⟨rfl, hb5⟩
  have B5 := Lib.hid (B4.out.trans (hb5.mono (by omega)))
  clear hb5 x0 x1 x2 x3 B4
  have G5 : Below w.heap.size w w5 := HB0.out.trans (B5.out.mono (by omega))
  have hx5 : w.heap.size ≤ w5.heap.size := G5.size
  have G7 : Below w.heap.size w ((w5.alloc (.cells #[.bool L, .bool !fb, .bool false, .bool !F, .bool !R] 4)).alloc (.cells #[.int .i64 4, .int .i64 6, .int .i64 8, .int .i64 1, .int .i64 5] 27)) := (G5.alloc hx5 _).alloc (by simp; omega) _
  have HG := Lib.hid G7
  clear G5 G7 B5 HB0
  go_wp2
  refine wp_loop_rounds 1 ?_
  rw [rounds_succ]
  go_wp2
  refine wp_loop_rounds 6 ?_
  rw [rounds_succ]
  cases L
  · go_wp2
    rw [rounds_succ]
    cases fb
    · go_wp2
      go_ret
      exact ⟨by rw [Hv.out]; rfl, HG.out⟩
    · go_wp2
      rw [rounds_succ]
      go_wp2
      rw [rounds_succ]
      cases F
      · go_wp2
        go_ret
        exact ⟨by rw [Hv.out]; rfl, HG.out⟩
      · go_wp2
        rw [rounds_succ]
        cases R
        · go_wp2
          go_ret
          exact ⟨by rw [Hv.out]; rfl, HG.out⟩
        · go_wp2
          rw [rounds_succ]
          go_wp2
          go_ret
          exact ⟨by rw [Hv.out]; rfl, HG.out⟩
  · go_wp2
    go_ret
    exact ⟨by rw [Hv.out]; rfl, HG.out⟩

set_option maxRecDepth 100000 in
set_option maxHeartbeats 1000000 in
theorem rvalid_tax {w : World} {nm : ByteArray} {A : Option Addr} {n : Nat} (c : Nat) {brs : List (Int × Int)} (h : TaxV w nm A n brs) (hnm : Nm nm) :
    Calls Tryz.prog 10 #[.agg #[.string nm, .slice A n c]] w fun e w' => e = .returned (.int .i64 (validE nm brs)) ∧ Below w.heap.size w w' := by
  have hb0 : Below w.heap.size w ((w.alloc (.cells #[.string nm, .slice A n c] 25)).alloc (.cells #[.string nm, .slice A n c] 25)) := ((Below.refl _ _).alloc (Nat.le_refl _) _).alloc (by simp) _
  have h1 := h.below hb0
  have hA : TaxAt ((w.alloc (.cells #[.string nm, .slice A n c] 25)).alloc (.cells #[.string nm, .slice A n c] 25)) (w.heap.size + 1) nm A n c brs :=
    ⟨by simp, by simp, by simp, h1.row, h1.len, h1.small, h1.name, h1.tab⟩
  have H := Lib.hid hA
  have HN := Lib.hid hnm
  clear h h1 hA hnm
  go_enter Tryz.func10, Tryz.ntmps10
  go_wp2_with fail
  refine (rvalid_one H.out HN.out).mono ?_
  rintro e w1 ⟨rfl, hb1⟩
  go_wp2
  go_ret
  exact ⟨rfl, hb0.trans (hb1.mono (by simp; omega))⟩

end Go.Proofs.YtlgedljhheficaaGreatDoor
