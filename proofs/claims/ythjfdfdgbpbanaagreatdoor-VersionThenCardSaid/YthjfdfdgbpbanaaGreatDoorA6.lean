/- The contract of Tos: counterparts made from numbers. -/
import Derived.Test.YthjfdfdgbpbanaaGreatDoorA5
import Derived.Laws.OwnMore
namespace Go.Proofs.YthjfdfdgbpbanaaGreatDoor
open Go.RowKit

def someT (N : Nat) (zs : List Int) (i : Nat) : Bool := decide (0 < N) && decide (0 < pick zs (3 * (i : Int)) 4)
def tosAt (N : Nat) (zs : List Int) (i : Nat) : Tr :=
  if someT N zs i = true then (pick zs (3 * (i : Int) + 1) N, 1 + pick zs (3 * (i : Int) + 2) 5, 1 + pick zs (3 * (i : Int) + 2) 7) else (-1, 0, 0)
def tosL (N : Nat) (zs : List Int) (k : Nat) : List Tr := (List.range k).map (tosAt N zs)
theorem tosL_succ (N : Nat) (zs : List Int) (k : Nat) : tosL N zs (k + 1) = tosL N zs k ++ [tosAt N zs k] := by simp [tosL, List.range_succ]
@[simp] theorem tosL_length (N : Nat) (zs : List Int) (k : Nat) : (tosL N zs k).length = k := by simp [tosL]

def setItem (ts : List Tr) (k : Nat) (x : Int) : List Tr := ts.set k (x, numAt ts k, denAt ts k)
def setNum (ts : List Tr) (k : Nat) (x : Int) : List Tr := ts.set k (itemAt ts k, x, denAt ts k)
def setDen (ts : List Tr) (k : Nat) (x : Int) : List Tr := ts.set k (itemAt ts k, numAt ts k, x)
theorem tcells_set (ts : List Tr) (k : Nat) (t : Tr) (h : k < ts.length) : tcells (ts.set k t) = (((tcells ts).set (k * 3) (.int .i64 t.1)).set (k * 3 + 1) (.int .i64 t.2.1)).set (k * 3 + 2) (.int .i64 t.2.2) := by
  induction ts generalizing k with
  | nil => simp at h
  | cons a ts ih =>
    cases k with
    | zero => simp [tcells]
    | succ k =>
      have := ih k (by simpa using h)
      have e : (k + 1) * 3 = k * 3 + 1 + 1 + 1 := by omega
      rw [List.set_cons_succ, tcells_cons, this, tcells_cons, e]
      simp [List.set_cons_succ]
theorem set_same (l : List Value) (i : Nat) (x : Value) (h : l[i]? = some x) : l.set i x = l := by
  apply List.ext_getElem?
  intro j
  by_cases e : i = j
  · subst e
    rw [List.getElem?_set_self (List.getElem?_eq_some_iff.1 h).1, h]
  · rw [List.getElem?_set_ne e]
theorem tcells_setItem (ts : List Tr) (k : Nat) (x : Int) (h : k < ts.length) : tcells (setItem ts k x) = (tcells ts).set (k * 3) (.int .i64 x) := by
  obtain ⟨_, h2, h3⟩ := tcells_at ts k h
  rw [setItem, tcells_set _ _ _ h]
  rw [set_same _ (k * 3 + 1) _ (by rw [List.getElem?_set_ne (by omega)]; exact h2), set_same _ (k * 3 + 2) _ (by rw [List.getElem?_set_ne (by omega)]; exact h3)]
theorem tcells_setNum (ts : List Tr) (k : Nat) (x : Int) (h : k < ts.length) : tcells (setNum ts k x) = (tcells ts).set (k * 3 + 1) (.int .i64 x) := by
  obtain ⟨h1, _, h3⟩ := tcells_at ts k h
  rw [setNum, tcells_set _ _ _ h]
  rw [set_same _ (k * 3) _ h1, set_same _ (k * 3 + 2) _ (by rw [List.getElem?_set_ne (by omega)]; exact h3)]
theorem tcells_setDen (ts : List Tr) (k : Nat) (x : Int) (h : k < ts.length) : tcells (setDen ts k x) = (tcells ts).set (k * 3 + 2) (.int .i64 x) := by
  obtain ⟨h1, h2, _⟩ := tcells_at ts k h
  rw [setDen, tcells_set _ _ _ h]
  rw [set_same _ (k * 3) _ h1, set_same _ (k * 3 + 1) _ h2]

/-- One of the counterparts, spoilt. -/
def spoil (zs : List Int) (K : Nat) (ts : List Tr) : List Tr :=
  let k := (pick zs 0 K).toNat
  if pick zs 1 4 = 0 then setItem ts k (pick zs 2 70 - 3)
  else if pick zs 1 4 = 1 then setNum ts k (pick zs 2 1100000 - 1000)
  else if pick zs 1 4 = 2 then setDen ts k (pick zs 2 1100000 - 1000)
  else ts.set k (0, 1048576, 1048576 - pick zs 2 3)
def tosS (K N : Nat) (zs : List Int) (s : Bool) : List Tr := if s && decide (0 < K) then spoil zs K (tosL N zs K) else tosL N zs K
@[simp] theorem tosS_length (K N : Nat) (zs : List Int) (s : Bool) : (tosS K N zs s).length = K := by
  unfold tosS; split
  · unfold spoil setItem setNum setDen
    dsimp only
    repeat' split
    all_goals simp
  · simp

theorem own_lt {W : World} {B E n cap g : Nat} {xs : List Value} (h : W.ownsRow B E 3 (.slice (some ⟨g, 0, none⟩) n cap) n xs) : B ≤ g ∧ g < W.heap.size := h.lt g rfl

set_option maxRecDepth 100000 in
set_option maxHeartbeats 2000000 in
theorem Tos_any {w : World} {A : Option Addr} {n : Nat} (c K N : Nat) (s : Bool) {zs : List Int} (h : IntsV w A n zs) (hK : K ≤ 1000) (hN : N ≤ 1000) :
    Calls Tryz.prog 22 #[.int .i64 K, .int .i64 N, .slice A n c, .int .i64 0, .bool s] w (RowPost w 68 3 K (tcells (tosS K N zs s))) := by
  obtain ⟨i0, hi, hz0, hz1, hz2⟩ := info_parts info68
  have H := Lib.hid h
  clear h
  go_enter Tryz.func22, Tryz.ntmps22
  go_wp2_with fail
  go_loopw [11, 12] (fun v i wr => ∃ k : Nat, k ≤ K ∧ i = .int .i64 k ∧ wr.ownsRow w.heap.size 68 3 v k (tcells (tosL N zs k)) ∧ Below w.heap.size w wr) (fun _ i _ => K - (intOf i).toNat)
  case atStart => exact ⟨0, Nat.zero_le _, rfl, World.ownsRow_nil _ _ _ _, Below.refl _ _⟩
  case round =>
    obtain ⟨k, hk, rfl, hown, hb⟩ := hrel
    have HO := Lib.hid hown
    have hsz := hb.size
    clear hown
    by_cases hlt : k < K
    · have HS := Lib.hid (tosL_succ N zs k)
      have B0 : Below w.heap.size w (wr.alloc (.cells #[.int .i64 (-1), .int .i64 0, .int .i64 0] 68)) := hb.alloc hsz _
      have HP := Lib.hid ((H.out.below B0).pick c (3 * (k : Int)) 4 (by omega) (by omega) (by omega) (by omega))
      have HA : Hid (tosAt N zs k = if someT N zs k = true then (pick zs (3 * (k : Int) + 1) N, 1 + pick zs (3 * (k : Int) + 2) 5, 1 + pick zs (3 * (k : Int) + 2) 7) else (-1, 0, 0)) := rfl
      have HQ : Hid (someT N zs k = (decide (0 < N) && decide (0 < pick zs (3 * (k : Int)) 4))) := rfl
      by_cases hN0 : 0 < N
      · have hN1 : (0 : Int) < (N : Int) := by omega
        by_cases hp : 0 < pick zs (3 * (k : Int)) 4
        · have hs : someT N zs k = true := by rw [HQ.out]; simp [hN0, hp]
          rw [if_pos hs] at HA
          rw [HA.out] at HS
          have P1 := Lib.hid (fun W (hW : IntsV W A n zs) => hW.pick c (3 * (k : Int) + 1) N (by omega) (by omega) (by omega) (by omega))
          have P2 := Lib.hid (fun W (hW : IntsV W A n zs) => hW.pick c (3 * (k : Int) + 2) 5 (by omega) (by omega) (by omega) (by omega))
          have P3 := Lib.hid (fun W (hW : IntsV W A n zs) => hW.pick c (3 * (k : Int) + 2) 7 (by omega) (by omega) (by omega) (by omega))
          have l1 := pick_lo zs (3 * (k : Int) + 1) N (by omega)
          have g1 := pick_hi zs (3 * (k : Int) + 1) N (by omega)
          have l2 := pick_lo zs (3 * (k : Int) + 2) 5 (by omega)
          have g2 := pick_hi zs (3 * (k : Int) + 2) 5 (by omega)
          have l3 := pick_lo zs (3 * (k : Int) + 2) 7 (by omega)
          have g3 := pick_hi zs (3 * (k : Int) + 2) 7 (by omega)
          have HI := Lib.hid (H.out.below B0)
          clear hs HA HQ
          generalize pick zs (3 * (k : Int)) 4 = p at *
          generalize pick zs (3 * (k : Int) + 1) N = x at *
          generalize pick zs (3 * (k : Int) + 2) 5 = y at *
          generalize pick zs (3 * (k : Int) + 2) 7 = z at *
          go_wp2_with fail
          refine HP.out.mono ?_
          rintro e w' ⟨rfl, rfl⟩
          go_wp2_with fail
          refine (P1.out _ HI.out).mono ?_
          rintro e w' ⟨rfl, rfl⟩
          go_wp2_with fail
          refine (P2.out _ HI.out).mono ?_
          rintro e w' ⟨rfl, rfl⟩
          go_wp2_with fail
          refine (P3.out _ HI.out).mono ?_
          rintro e w' ⟨rfl, rfl⟩
          clear HP P1 P2 P3 HI B0
          go_wp2_with (at_builtin; refine wpList_append_own_at _ rfl _ _ 39 rfl w.heap.size 68 i0 (.agg #[.int .i64 0, .int .i64 0, .int .i64 0]) 3 24 Tryz.underlying39 hi hz0 hz1 hz2 rfl (by decide) _ k (tcells (tosL N zs k)) rfl ((HO.out.alloc _).alloc _) ⟨wr.heap.size + 1, 0, none⟩ 1 1 [.int .i64 x, .int .i64 (1 + y), .int .i64 (1 + z)] rfl rfl ?c1 (one3 _ _ _) (by unfold maxLen; omega) (by omega) (by simp; omega) ?_)
          case c1 =>
            have := new3 (wr.alloc (.cells #[.int .i64 x, .int .i64 (1 + y), .int .i64 (1 + z)] 68)) 68 (.int .i64 x) (.int .i64 (1 + y)) (.int .i64 (1 + z))
            rw [World.size_alloc] at this
            exact this
          intro v' w1 hown' hgrow _ _
          have hb1 : Below w.heap.size w w1 := ((hb.alloc hsz _).alloc (by simp; omega) _).grown hgrow (by simp; omega) (row_base HO.out)
          have HO1 := Lib.hid hown'
          clear hown' hgrow
          go_wp2
          go_roundw
          case rel => exact ⟨k + 1, by omega, by go_num, by rw [HS.out, tcells_snoc]; exact HO1.out, hb1⟩
          case measure => simp [intOf]; omega
        · have hs : ¬ someT N zs k = true := by rw [HQ.out]; simp [hp]
          rw [if_neg hs] at HA
          rw [HA.out] at HS
          have hp2 : ¬ (0 : Int) < pick zs (3 * (k : Int)) 4 := hp
          clear hs HA HQ hp
          generalize pick zs (3 * (k : Int)) 4 = p at *
          go_wp2_with fail
          refine HP.out.mono ?_
          rintro e w' ⟨rfl, rfl⟩
          clear HP
          go_wp2_with (at_builtin; refine wpList_append_own_at _ rfl _ _ 39 rfl w.heap.size 68 i0 (.agg #[.int .i64 0, .int .i64 0, .int .i64 0]) 3 24 Tryz.underlying39 hi hz0 hz1 hz2 rfl (by decide) _ k (tcells (tosL N zs k)) rfl ((HO.out.alloc _).alloc _) ⟨wr.heap.size + 1, 0, none⟩ 1 1 [.int .i64 (-1), .int .i64 0, .int .i64 0] rfl rfl ?c1b (one3 _ _ _) (by unfold maxLen; omega) (by omega) (by simp; omega) ?_)
          case c1b =>
            have := new3 (wr.alloc (.cells #[.int .i64 (-1), .int .i64 0, .int .i64 0] 68)) 68 (.int .i64 (-1)) (.int .i64 0) (.int .i64 0)
            rw [World.size_alloc] at this
            exact this
          intro v' w1 hown' hgrow _ _
          have hb1 : Below w.heap.size w w1 := ((hb.alloc hsz _).alloc (by simp; omega) _).grown hgrow (by simp; omega) (row_base HO.out)
          have HO1 := Lib.hid hown'
          clear hown' hgrow
          go_wp2
          go_roundw
          case rel => exact ⟨k + 1, by omega, by go_num, by rw [HS.out, tcells_snoc]; exact HO1.out, hb1⟩
          case measure => simp [intOf]; omega
      · have hN1 : ¬ (0 : Int) < (N : Int) := by omega
        have hs : ¬ someT N zs k = true := by rw [HQ.out]; simp [hN0]
        rw [if_neg hs] at HA
        rw [HA.out] at HS
        have hN3 : decide (0 < N) = false := by simpa using hN0
        have hN4 : decide ((0 : Int) < (N : Int)) = false := by simpa using hN1
        clear hs HA HQ HP
        go_wp2_with (at_builtin; refine wpList_append_own_at _ rfl _ _ 39 rfl w.heap.size 68 i0 (.agg #[.int .i64 0, .int .i64 0, .int .i64 0]) 3 24 Tryz.underlying39 hi hz0 hz1 hz2 rfl (by decide) _ k (tcells (tosL N zs k)) rfl ((HO.out.alloc _).alloc _) ⟨wr.heap.size + 1, 0, none⟩ 1 1 [.int .i64 (-1), .int .i64 0, .int .i64 0] rfl rfl ?c1d (one3 _ _ _) ?c3d ?c4d ?c5d ?_)
        case c3d => unfold maxLen; omega
        case c4d => omega
        case c5d => omega
        intro v' w1 hown' hgrow _ _
        have hb1 : Below w.heap.size w w1 := ((hb.alloc hsz _).alloc (by simp; omega) _).grown hgrow (by simp; omega) (row_base HO.out)
        have HO1 := Lib.hid hown'
        clear hown' hgrow
        go_wp2
        go_roundw
        case rel => exact ⟨k + 1, by omega, by go_num, by rw [HS.out, tcells_snoc]; exact HO1.out, hb1⟩
        case measure => simp [intOf]; omega
    · obtain rfl : k = K := by omega
      cases s
      · have HF : Hid (tosS k N zs false = tosL N zs k) := rfl
        go_wp2
        go_ret
        exact ⟨_, rfl, by rw [HF.out]; exact HO.out, hb⟩
      · by_cases hk0 : 0 < k
        · have HF : Hid (tosS k N zs true = spoil zs k (tosL N zs k)) := by show tosS k N zs true = _; simp [tosS, hk0]
          obtain ⟨g, cap, rfl⟩ : ∃ g cap, u11 = .slice (some ⟨g, 0, none⟩) k cap := by
            rcases HO.out.2 with ⟨_, h0⟩ | ⟨g, cap, cur, hv, _⟩
            · omega
            · exact ⟨g, cap, hv⟩
          have hkI : (0 : Int) < (k : Int) := by omega
          have P0 := Lib.hid ((H.out.below hb).pick c 0 k (by omega) (by omega) (by omega) (by omega))
          have P1 := Lib.hid ((H.out.below hb).pick c 1 4 (by omega) (by omega) (by omega) (by omega))
          have P2a := Lib.hid ((H.out.below hb).pick c 2 70 (by omega) (by omega) (by omega) (by omega))
          have P2b := Lib.hid ((H.out.below hb).pick c 2 1100000 (by omega) (by omega) (by omega) (by omega))
          have P2c := Lib.hid ((H.out.below hb).pick c 2 3 (by omega) (by omega) (by omega) (by omega))
          have a0 := pick_lo zs 0 k (by omega)
          have a1 := pick_hi zs 0 k (by omega)
          have b0 := pick_lo zs 2 70 (by omega)
          have b1 := pick_hi zs 2 70 (by omega)
          have c0 := pick_lo zs 2 1100000 (by omega)
          have c1 := pick_hi zs 2 1100000 (by omega)
          have d0 := pick_lo zs 2 3 (by omega)
          have d1 := pick_hi zs 2 3 (by omega)
          obtain ⟨j, hj⟩ := Int.eq_ofNat_of_zero_le a0
          have HSp : Hid (spoil zs k (tosL N zs k) = if pick zs 1 4 = 0 then setItem (tosL N zs k) j (pick zs 2 70 - 3) else if pick zs 1 4 = 1 then setNum (tosL N zs k) j (pick zs 2 1100000 - 1000)
              else if pick zs 1 4 = 2 then setDen (tosL N zs k) j (pick zs 2 1100000 - 1000) else (tosL N zs k).set j (0, 1048576, 1048576 - pick zs 2 3)) := by
            show spoil zs k (tosL N zs k) = _
            simp only [spoil, hj, Int.toNat_natCast]
          rw [hj] at P0 a0 a1
          have hjk : j < k := by omega
          obtain ⟨og, gl⟩ := own_lt HO.out
          have hO := HO.out
          have hl := hO.1
          have e0 : wr.cell? ⟨g, j * 3, none⟩ = some (.int .i64 (itemAt (tosL N zs k) j)) := (hO.cellAt _ (by omega)).trans (tcells_at _ j (by simpa using hjk)).1
          have e1 : wr.cell? ⟨g, j * 3 + 1, none⟩ = some (.int .i64 (numAt (tosL N zs k) j)) := (hO.cellAt _ (by omega)).trans (tcells_at _ j (by simpa using hjk)).2.1
          have e2 : wr.cell? ⟨g, j * 3 + 2, none⟩ = some (.int .i64 (denAt (tosL N zs k) j)) := (hO.cellAt _ (by omega)).trans (tcells_at _ j (by simpa using hjk)).2.2
          have f0 := hO.frozenAt (j * 3)
          have f1 := hO.frozenAt (j * 3 + 1)
          have f2 := hO.frozenAt (j * 3 + 2)
          have R1 := fun x => (hO.stored (j * 3) (.int .i64 x)).1
          have R2 := fun x => (hO.stored (j * 3 + 1) (.int .i64 x)).1
          have R3 := fun x => (hO.stored (j * 3 + 2) (.int .i64 x)).1
          have RR := fun x y z => ((((hO.stored (j * 3) (.int .i64 x)).1).stored (j * 3 + 1) (.int .i64 y)).1.stored (j * 3 + 2) (.int .i64 z)).1
          have HR1 := Lib.hid R1
          have HR2 := Lib.hid R2
          have HR3 := Lib.hid R3
          have HRR := Lib.hid RR
          clear hO hl R1 R2 R3 RR hj
          generalize pick zs 2 70 = q70 at *
          generalize pick zs 2 1100000 = q11 at *
          generalize pick zs 2 3 = q3 at *
          generalize pick zs 1 4 = q at *
          by_cases h0 : q = 0
          · have t0 : (q == 0) = true := by simpa using h0
            rw [if_pos h0] at HSp
            clear h0
            go_wp2_with fail
            refine P0.out.mono ?_
            rintro e w' ⟨rfl, rfl⟩
            go_wp2_with fail
            refine P1.out.mono ?_
            rintro e w' ⟨rfl, rfl⟩
            go_wp2_with fail
            refine P2a.out.mono ?_
            rintro e w' ⟨rfl, rfl⟩
            go_wp2
            go_ret
            refine ⟨_, rfl, ?_, hb.setCell og _⟩
            rw [HF.out, HSp.out, tcells_setItem _ _ _ (by simpa using hjk)]
            exact HR1.out _
          · have t0 : (q == 0) = false := by simpa using h0
            rw [if_neg h0] at HSp
            clear h0
            by_cases h0 : q = 1
            · have t1 : (q == 1) = true := by simpa using h0
              rw [if_pos h0] at HSp
              clear h0
              go_wp2_with fail
              refine P0.out.mono ?_
              rintro e w' ⟨rfl, rfl⟩
              go_wp2_with fail
              refine P1.out.mono ?_
              rintro e w' ⟨rfl, rfl⟩
              go_wp2_with fail
              refine P2b.out.mono ?_
              rintro e w' ⟨rfl, rfl⟩
              go_wp2
              go_ret
              refine ⟨_, rfl, ?_, hb.setCell og _⟩
              rw [HF.out, HSp.out, tcells_setNum _ _ _ (by simpa using hjk)]
              exact HR2.out _
            · have t1 : (q == 1) = false := by simpa using h0
              rw [if_neg h0] at HSp
              clear h0
              by_cases h0 : q = 2
              · have t2 : (q == 2) = true := by simpa using h0
                rw [if_pos h0] at HSp
                clear h0
                go_wp2_with fail
                refine P0.out.mono ?_
                rintro e w' ⟨rfl, rfl⟩
                go_wp2_with fail
                refine P1.out.mono ?_
                rintro e w' ⟨rfl, rfl⟩
                go_wp2_with fail
                refine P2b.out.mono ?_
                rintro e w' ⟨rfl, rfl⟩
                go_wp2
                go_ret
                refine ⟨_, rfl, ?_, hb.setCell og _⟩
                rw [HF.out, HSp.out, tcells_setDen _ _ _ (by simpa using hjk)]
                exact HR3.out _
              · have t2 : (q == 2) = false := by simpa using h0
                rw [if_neg h0] at HSp
                clear h0
                go_wp2_with fail
                refine P0.out.mono ?_
                rintro e w' ⟨rfl, rfl⟩
                go_wp2_with fail
                refine P1.out.mono ?_
                rintro e w' ⟨rfl, rfl⟩
                go_wp2_with fail
                refine P2c.out.mono ?_
                rintro e w' ⟨rfl, rfl⟩
                go_wp2
                go_ret
                refine ⟨_, rfl, ?_, ((hb.setCell og _).setCell og _).setCell og _⟩
                rw [HF.out, HSp.out, tcells_set _ _ _ (by simpa using hjk)]
                exact HRR.out _ _ _
        · obtain rfl : k = 0 := by omega
          have HF : Hid (tosS 0 N zs true = tosL N zs 0) := rfl
          go_wp2
          go_ret
          exact ⟨_, rfl, by rw [HF.out]; exact HO.out, hb⟩

end Go.Proofs.YthjfdfdgbpbanaaGreatDoor
