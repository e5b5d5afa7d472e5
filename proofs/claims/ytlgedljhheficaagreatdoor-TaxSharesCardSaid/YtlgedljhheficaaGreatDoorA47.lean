/- The walk of TaxDue. -/
import Derived.Test.YtlgedljhheficaaGreatDoorA28
import Derived.Test.YtlgedljhheficaaGreatDoorA38
import Derived.Test.YtlgedljhheficaaGreatDoorA46
import Derived.Deep.DeepCutAuto
import Derived.Deep.RegionHeld3
namespace Go.Proofs.YtlgedljhheficaaGreatDoor
open Go.RowKit

theorem NetR.unique {nm : ByteArray} {brs : List (Int × Int)} {net : Int} {r s : Int × Int} (h : NetR nm brs net r) (k : NetR nm brs net s) : r = s := by
  unfold NetR at h k
  by_cases hv : validE nm brs = 0
  · rw [if_pos hv] at h k
    by_cases hi : inB net = true
    · rw [if_pos hi] at h k
      have := NetIs.unique (good_of_valid hv) h.2 k.2
      obtain ⟨a, b⟩ := r
      obtain ⟨c, d⟩ := s
      simp only at h k this
      rw [this, h.1, k.1]
    · rw [if_neg hi] at h k
      rw [h, k]
  · rw [if_neg hv] at h k
    rw [h, k]

/-- The sums that TaxDue looks at. -/
def dueSums (brs : List (Int × Int)) (x y : Int) : List Int := [x, sumOf brs x, sumOf brs y, y]

set_option maxRecDepth 100000 in
set_option maxHeartbeats 2000000 in
theorem taxdue_any {w : World} {A0 : Option Addr} {n0 : Nat} (c0 : Nat) {zs : List Int} {A1 : Option Addr} {n1 : Nat} (c1 : Nat) {ms : List Int} (x y : Int) (h : IntsV w A0 n0 zs) (hm : IntsV w A1 n1 ms) (hs : n1 * 8 ≤ 140737488351232) (hT : Tab w)
    (x0 : -9223372036854775808 ≤ x) (x1 : x ≤ 9223372036854775807) (y0 : -9223372036854775808 ≤ y) (y1 : y ≤ 9223372036854775807) :
    Calls Tryz.prog 3 #[.slice A0 n0 c0, .slice A1 n1 c1, .int .i64 x, .int .i64 y] w fun e w' => e = .returned (.bool true) ∧ Below w.heap.size w w' := by
  have K := Lib.hid (taxbent_any c0 c1 h hm hs)
  have HT := Lib.hid hT
  clear h hm hT
  go_enter Tryz.func3, Tryz.ntmps3
  go_wp2_with fail
  (with_reducible refine K.out.mono ?_)
  rintro e w1 ⟨nm, A, n, c, brs, rfl, hnm, hrow, hn, h100, hB1⟩
  clear K
  have hb0 : Below w1.heap.size w1 (w1.alloc (.cells #[.string nm, .slice A n c] 25)) := (Below.refl _ _).alloc (Nat.le_refl _) _
  have L1 : TaxAt (w1.alloc (.cells #[.string nm, .slice A n c] 25)) w1.heap.size nm A n c brs :=
    ⟨by simp, by simp, by simp, (hrow.below hb0).more hb0.size, hn, by omega, hnm.plain, (HT.out.below hB1 HT.out.1).below hb0 (Nat.lt_of_lt_of_le HT.out.1 hB1.size)⟩
  have B2 : Below w.heap.size w (w1.alloc (.cells #[.string nm, .slice A n c] 25)) := hB1.alloc hB1.size _
  have HL := Lib.hid L1
  have HB := Lib.hid B2
  have HN := Lib.hid hnm
  clear hrow hb0 L1 B2 hnm HT hn hB1
  go_wp2_with fail
  generalize hW : w1.alloc (.cells #[.string nm, .slice A n c] 25) = W at HL HB ⊢
  generalize w1.heap.size = g at *
  clear hW w1
  have a0 := HL.out.c0
  have a1 := HL.out.c1
  have ag := HL.out.lt
  have K9 : Hid (∀ V : World, Below W.heap.size W V → Calls Tryz.prog 9 #[.agg #[.string nm, .slice A n c]] V fun e w' => e = .returned (.int .i64 (validE nm brs)) ∧ Below V.heap.size V w') := fun V hV => valid_tax c (HL.out.below hV).v
  have K10 : Hid (∀ V : World, Below W.heap.size W V → Calls Tryz.prog 10 #[.agg #[.string nm, .slice A n c]] V fun e w' => e = .returned (.int .i64 (validE nm brs)) ∧ Below V.heap.size V w') := fun V hV => rvalid_tax c (HL.out.below hV).v HN.out
  generalize validE nm brs = E at K9 K10
  go_cut [31] (fun b wx => b = .bool false ∧ Below W.heap.size W wx)
  case first =>
    go_region_with (first
      | (go_at_call 9; refine (K9.out _ ?_).mono ?_; (first | exact GA | exact (Below.refl _ _).drew); rintro e wA ⟨rfl, hbA⟩; (first | (have GB := GA.trans (hbA.mono GA.size)) | (have GA := (Below.refl W.heap.size W).drew.trans hbA; have cA0 := (hbA.cell (p := ⟨g, 0, none⟩) ag).trans a0; have cA1 := (hbA.cell (p := ⟨g, 1, none⟩) ag).trans a1)))
      | (go_at_call 10; refine (K10.out _ ?_).mono ?_; (first | exact GA | exact (Below.refl _ _).drew); rintro e wA ⟨rfl, hbA⟩; (first | (have GB := GA.trans (hbA.mono GA.size)) | (have GA := (Below.refl W.heap.size W).drew.trans hbA; have cA0 := (hbA.cell (p := ⟨g, 0, none⟩) ag).trans a0; have cA1 := (hbA.cell (p := ⟨g, 1, none⟩) ag).trans a1))))
    all_goals (try go_wp2_with fail)
    all_goals go_meet
    all_goals exact ⟨by simp, GB⟩
  case rest =>
    obtain ⟨rfl, hb⟩ := hcut
    clear K9 K10 a0 a1 ag
    have HL2 := Lib.hid (HL.out.below hb)
    have HB2 := Lib.hid (HB.out.trans (hb.mono HB.out.size))
    clear HL HB hb
    generalize wc = V at *
    clear W
    have a0 := HL2.out.c0
    have a1 := HL2.out.c1
    have ag := HL2.out.lt
    have K1 : Hid (∀ U : World, Below V.heap.size V U → Calls Tryz.prog 11 #[.agg #[.string nm, .slice A n c], .int .i64 x] U fun e w' => e = .returned (.int .i64 (sumOf brs x)) ∧ Below U.heap.size U w') := fun U hU => Sum_any c x (HL2.out.below hU).row (HL2.out.below hU).len x0 x1
    have K2 : Hid (∀ U : World, Below V.heap.size V U → Calls Tryz.prog 11 #[.agg #[.string nm, .slice A n c], .int .i64 y] U fun e w' => e = .returned (.int .i64 (sumOf brs y)) ∧ Below U.heap.size U w') := fun U hU => Sum_any c y (HL2.out.below hU).row (HL2.out.below hU).len y0 y1
    generalize sumOf brs x = sx at K1
    generalize sumOf brs y = sy at K2
    go_wp2_with fail
    go_cut [10] (fun b wx => ∃ gs, b = .slice (some ⟨gs, 0, none⟩) 4 4 ∧ Bk wx gs 3 [.int .i64 x, .int .i64 sx, .int .i64 sy, .int .i64 y] ∧ Below V.heap.size V wx)
    case first =>
      go_region_with (first
        | (go_at_call_of 11 (Value.int IntKind.i64 x); refine (K1.out _ ?_).mono ?_; (first | exact GA | exact (Below.refl _ _).drew); rintro e wA ⟨rfl, hbA⟩; (first | (have GB := GA.trans (hbA.mono GA.size)) | (have GA := (Below.refl V.heap.size V).drew.trans hbA; have cA0 := (hbA.cell (p := ⟨g, 0, none⟩) ag).trans a0; have cA1 := (hbA.cell (p := ⟨g, 1, none⟩) ag).trans a1)))
        | (go_at_call_of 11 (Value.int IntKind.i64 y); refine (K2.out _ ?_).mono ?_; (first | exact GA | exact (Below.refl _ _).drew); rintro e wA ⟨rfl, hbA⟩; (first | (have GB := GA.trans (hbA.mono GA.size)) | (have GA := (Below.refl V.heap.size V).drew.trans hbA; have cA0 := (hbA.cell (p := ⟨g, 0, none⟩) ag).trans a0; have cA1 := (hbA.cell (p := ⟨g, 1, none⟩) ag).trans a1))))
      all_goals (try go_wp2_with fail)
      all_goals go_meet
      all_goals exact ⟨_, rfl, Bk.new _ 3 _, GB.alloc GB.size _⟩
    case rest =>
      obtain ⟨gs, rfl, hk, hb⟩ := hcut
      clear K1 K2 a0 a1 ag
      have HL3 := Lib.hid (HL2.out.below hb)
      have HB3 := Lib.hid (HB2.out.trans (hb.mono HB2.out.size))
      clear HL2 HB2 hb
      generalize wc = W at *
      clear V
      have HK := Lib.hid hk
      clear hk
      have hgs := HK.out.lt
      go_wp2_with fail
      go_loopw [11] (fun i wr => ∃ j : Nat, j ≤ 4 ∧ i = .int .i64 j ∧ Below W.heap.size W wr) (fun i _ => 4 - (intOf i).toNat)
      case atStart => exact ⟨0, by omega, rfl, Below.refl _ _⟩
      case round =>
        obtain ⟨j, hj, rfl, hb⟩ := hrel
        have HL4 := Lib.hid (HL3.out.below hb)
        have HK4 := Lib.hid (HK.out.below hb hgs)
        have HB4 := Lib.hid (HB3.out.trans (hb.mono HB3.out.size))
        have HBr := Lib.hid hb
        clear hb
        by_cases hlt : j < 4
        · obtain ⟨r, hr, hr4⟩ : ∃ r : Nat, ((j : Int) + 1) % 4 = (r : Int) ∧ r < 4 := ⟨(j + 1) % 4, by omega, by omega⟩
          have hw1 : IntKind.i64.wrap ((j : Int) + 1) = (j : Int) + 1 := IntWalk.i64_in _ (by omega)
          have hr1 : ((j : Int) + 1).tmod 4 = (r : Int) := by rw [Int.tmod_eq_emod_of_nonneg (by omega)]; exact hr
          have hr2 : (r : Int) < 4 := by omega
          have hr3 : IntKind.i64.wrap (r : Int) = (r : Int) := IntWalk.i64_in _ (by omega)
          obtain ⟨u, hu⟩ : ∃ u : Int, ([.int .i64 x, .int .i64 sx, .int .i64 sy, .int .i64 y] : List Value)[j]? = some (.int .i64 u) := by
            rcases (show j = 0 ∨ j = 1 ∨ j = 2 ∨ j = 3 by omega) with rfl | rfl | rfl | rfl <;> exact ⟨_, rfl⟩
          obtain ⟨v, hv⟩ : ∃ v : Int, ([.int .i64 x, .int .i64 sx, .int .i64 sy, .int .i64 y] : List Value)[r]? = some (.int .i64 v) := by
            rcases (show r = 0 ∨ r = 1 ∨ r = 2 ∨ r = 3 by omega) with rfl | rfl | rfl | rfl <;> exact ⟨_, rfl⟩
          have cell : ∀ U : World, Below wr.heap.size wr U → (U.cell? ⟨g, 0, none⟩ = some (.string nm) ∧ U.cell? ⟨g, 1, none⟩ = some (.slice A n c) ∧ U.cell? ⟨gs, j, none⟩ = some (.int .i64 u) ∧ U.cell? ⟨gs, r, none⟩ = some (.int .i64 v)) := fun U hU =>
            ⟨(HL4.out.below hU).c0, (HL4.out.below hU).c1, ((HK4.out.below hU HK4.out.lt).cell j).trans hu, ((HK4.out.below hU HK4.out.lt).cell r).trans hv⟩
          have HC := Lib.hid cell
          clear hu hv cell
          have D1 : Hid (∀ U : World, Below wr.heap.size wr U → Calls Tryz.prog 12 #[.agg #[.string nm, .slice A n c], .int .i64 u] U fun e w' => e = .returned (.tuple #[.int .i64 (dueR nm brs u).1, .int .i64 (dueR nm brs u).2]) ∧ Below U.heap.size U w') := fun U hU => Due_any c u (HL4.out.below hU).v
          have D2 : Hid (∀ U : World, Below wr.heap.size wr U → Calls Tryz.prog 13 #[.agg #[.string nm, .slice A n c], .int .i64 u] U fun e w' => e = .returned (.tuple #[.int .i64 (dueR nm brs u).1, .int .i64 (dueR nm brs u).2]) ∧ Below U.heap.size U w') := fun U hU => rDue_any c u (HL4.out.below hU).v HN.out
          have M1 : Hid (∀ U : World, Below wr.heap.size wr U → Calls Tryz.prog 14 #[.agg #[.string nm, .slice A n c], .int .i64 u, .int .i64 v] U fun e w' => e = .returned (.tuple #[.int .i64 (moreR nm brs u v).1, .int .i64 (moreR nm brs u v).2]) ∧ Below U.heap.size U w') := fun U hU => More_any c u v (HL4.out.below hU).v
          have M2 : Hid (∀ U : World, Below wr.heap.size wr U → Calls Tryz.prog 15 #[.agg #[.string nm, .slice A n c], .int .i64 u, .int .i64 v] U fun e w' => e = .returned (.tuple #[.int .i64 (moreR nm brs u v).1, .int .i64 (moreR nm brs u v).2]) ∧ Below U.heap.size U w') := fun U hU => rMore_any c u v (HL4.out.below hU).v HN.out
          have N1 : Hid (∀ U : World, Below wr.heap.size wr U → Calls Tryz.prog 16 #[.agg #[.string nm, .slice A n c], .int .i64 u] U (NetPost U nm brs u)) := fun U hU => Net_any c u (HL4.out.below hU).v
          have N2 : Hid (∀ U : World, Below wr.heap.size wr U → Calls Tryz.prog 17 #[.agg #[.string nm, .slice A n c], .int .i64 u] U (NetPost U nm brs u)) := fun U hU => rNet_any c u (HL4.out.below hU).v HN.out
          generalize dueR nm brs u = P at D1 D2
          generalize moreR nm brs u v = Q at M1 M2
          have B0 : Below wr.heap.size wr wr := Below.refl _ _
          go_wp2_with fail
          go_region_held3 (fun U => U.cell? ⟨g, 0, none⟩ = some (.string nm) ∧ U.cell? ⟨g, 1, none⟩ = some (.slice A n c) ∧ U.cell? ⟨gs, j, none⟩ = some (.int .i64 u) ∧ U.cell? ⟨gs, r, none⟩ = some (.int .i64 v)) (first | exact HC.out _ B0.drew | exact HC.out _ B1) (first | (go_at_call 12; (with_reducible refine (D1.out _ B0.drew).mono ?_); rintro e wa ⟨rfl, hba⟩; have B1 := B0.drew.trans (hba.mono B0.size)))
          clear hba B0
          go_wp2_with fail
          go_region_held3 (fun U => U.cell? ⟨g, 0, none⟩ = some (.string nm) ∧ U.cell? ⟨g, 1, none⟩ = some (.slice A n c) ∧ U.cell? ⟨gs, j, none⟩ = some (.int .i64 u) ∧ U.cell? ⟨gs, r, none⟩ = some (.int .i64 v)) (first | exact HC.out _ B1.drew | exact HC.out _ B2) (first | (go_at_call 13; (with_reducible refine (D2.out _ B1.drew).mono ?_); rintro e wa ⟨rfl, hba⟩; have B2 := B1.drew.trans (hba.mono B1.size)))
          clear hba B1
          go_wp2_with fail
          go_region_held3 (fun U => U.cell? ⟨g, 0, none⟩ = some (.string nm) ∧ U.cell? ⟨g, 1, none⟩ = some (.slice A n c) ∧ U.cell? ⟨gs, j, none⟩ = some (.int .i64 u) ∧ U.cell? ⟨gs, r, none⟩ = some (.int .i64 v)) (first | exact HC.out _ B2.drew | exact HC.out _ B3) (first | (go_at_call 14; (with_reducible refine (M1.out _ B2.drew).mono ?_); rintro e wa ⟨rfl, hba⟩; have B3 := B2.drew.trans (hba.mono B2.size)))
          clear hba B2
          go_wp2_with fail
          go_region_held3 (fun U => U.cell? ⟨g, 0, none⟩ = some (.string nm) ∧ U.cell? ⟨g, 1, none⟩ = some (.slice A n c) ∧ U.cell? ⟨gs, j, none⟩ = some (.int .i64 u) ∧ U.cell? ⟨gs, r, none⟩ = some (.int .i64 v)) (first | exact HC.out _ B3.drew | exact HC.out _ B4) (first | (go_at_call 15; (with_reducible refine (M2.out _ B3.drew).mono ?_); rintro e wa ⟨rfl, hba⟩; have B4 := B3.drew.trans (hba.mono B3.size)))
          clear hba B3
          go_wp2_with fail
          go_region_held3 (fun U => U.cell? ⟨g, 0, none⟩ = some (.string nm) ∧ U.cell? ⟨g, 1, none⟩ = some (.slice A n c) ∧ U.cell? ⟨gs, j, none⟩ = some (.int .i64 u) ∧ U.cell? ⟨gs, r, none⟩ = some (.int .i64 v)) (first | exact HC.out _ B4.drew | exact HC.out _ B5) (first | (go_at_call 16; (with_reducible refine (N1.out _ B4.drew).mono ?_); rintro e wa ⟨r1, hr1, rfl, hba⟩; have B5 := B4.drew.trans (hba.mono B4.size)))
          clear hba B4
          go_wp2_with fail
          go_region_held3 (fun U => U.cell? ⟨g, 0, none⟩ = some (.string nm) ∧ U.cell? ⟨g, 1, none⟩ = some (.slice A n c) ∧ U.cell? ⟨gs, j, none⟩ = some (.int .i64 u) ∧ U.cell? ⟨gs, r, none⟩ = some (.int .i64 v)) (first | exact HC.out _ B5.drew | exact HC.out _ B6) (first | (go_at_call 17; (with_reducible refine (N2.out _ B5.drew).mono ?_); rintro e wa ⟨r2, hr2, rfl, hba⟩; have B6 := B5.drew.trans (hba.mono B5.size)))
          clear hba B5
          obtain rfl := hr1.unique hr2
          have HB7 := Lib.hid (HBr.out.trans (B6.mono HBr.out.size))
          clear hr1 hr2 B6
          have q1 : ∀ z : Int, (z != z) = false := fun z => by simp
          go_wp2
          go_roundw
          case rel => exact ⟨j + 1, by omega, by go_num, HB7.out⟩
          case measure => simp [intOf]; omega
        · have HB5 := HB4.out
          have hTt := HL4.out.tab
          go_wp2_with fail
          (with_reducible refine (lives_any _ hTt).mono ?_)
          rintro e w9 ⟨rfl, hb⟩
          have HB9 := HB5.trans (hb.mono HB5.size)
          go_wp2
          go_ret
          exact ⟨rfl, HB9⟩

end Go.Proofs.YtlgedljhheficaaGreatDoor
