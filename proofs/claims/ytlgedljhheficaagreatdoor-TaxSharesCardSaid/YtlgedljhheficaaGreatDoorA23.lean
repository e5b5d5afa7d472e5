/- The contract of share.Split where the weights are good, for whatever the contracts of divide and of the sort are. -/
import Derived.Test.YtlgedljhheficaaGreatDoorA22
namespace Go.Proofs.YtlgedljhheficaaGreatDoor
open Go.RowKit

def idI (i : Nat) : Int := i
/-- divide on a total and each of the weights. -/
def DivOk (t S : Int) (ws : Nat → Int) (n : Nat) (q r : Nat → Int) : Prop :=
  ∀ i, i < n → ∀ W : World, Calls Tryz.prog 68 #[.int .i64 t, .int .i64 (ws i), .int .i64 S] W fun e w' => e = .returned (.tuple #[.int .u64 (q i), .int .u64 (r i), .int .i64 0]) ∧ ∃ m, w' = W.drewN m
/-- The sort of the indices by the remainders. -/
def SortOk (n : Nat) (r : Nat → Int) (os : Nat → Nat) : Prop :=
  ∀ (W : World) (bx gr gd : Nat), OrdAt W bx gr gd n ((List.range n).map r) → Bk W gd 3 (ints ((List.range n).map idI)) →
    Calls Tryz.prog 69 #[.slice (some ⟨gd, 0, none⟩) n n, .func (.func 70) #[] #[.pointer (some ⟨bx, 0, none⟩)]] W fun e w' => e = .returned (.tuple #[]) ∧ W.grownBy w' (some gd) ∧ Bk w' gd 3 (ints ((List.range n).map fun i => (os i : Int)))

/-- How often index i is among the first k of the order. -/
def bumped (q : Nat → Int) (os : Nat → Nat) (k i : Nat) : Int := q i + if ∃ j, j < k ∧ os j = i then 1 else 0

theorem fill_int {W : World} {g n k : Nat} {f : Nat → Int} (h : Bk W g 3 (ints (fill f n k))) : Bk (W.setCell ⟨g, k, none⟩ (.int .i64 (f k))) g 3 (ints (fill f n (k + 1))) := by
  have := h.set k (.int .i64 (f k))
  rwa [ints_set, fill_set] at this
theorem fill_u64 {W : World} {g n k : Nat} {f : Nat → Int} (h : Bk W g 120 (u64s (fill f n k))) : Bk (W.setCell ⟨g, k, none⟩ (.int .u64 (f k))) g 120 (u64s (fill f n (k + 1))) := by
  have := h.set k (.int .u64 (f k))
  rwa [u64s_set, fill_set] at this
theorem split_round {w W : World} {k j : Nat} {q r : Nat → Int} {x : Value} (hb : Below w.heap.size w W) (G0 : Bk W w.heap.size 3 (ints (fill q k j))) (G1 : Bk W (w.heap.size + 1) 120 (u64s (fill r k j)))
    (G2 : Bk W (w.heap.size + 1 + 1) 119 [x]) (G3 : Bk W (w.heap.size + 1 + 1 + 1) 3 (ints (fill idI k j))) :
    Bk (((W.setCell ⟨w.heap.size, j, none⟩ (.int .i64 (q j))).setCell ⟨w.heap.size + 1, j, none⟩ (.int .u64 (r j))).setCell ⟨w.heap.size + 1 + 1 + 1, j, none⟩ (.int .i64 j)).drew w.heap.size 3 (ints (fill q k (j + 1))) ∧
    Bk (((W.setCell ⟨w.heap.size, j, none⟩ (.int .i64 (q j))).setCell ⟨w.heap.size + 1, j, none⟩ (.int .u64 (r j))).setCell ⟨w.heap.size + 1 + 1 + 1, j, none⟩ (.int .i64 j)).drew (w.heap.size + 1) 120 (u64s (fill r k (j + 1))) ∧
    Bk (((W.setCell ⟨w.heap.size, j, none⟩ (.int .i64 (q j))).setCell ⟨w.heap.size + 1, j, none⟩ (.int .u64 (r j))).setCell ⟨w.heap.size + 1 + 1 + 1, j, none⟩ (.int .i64 j)).drew (w.heap.size + 1 + 1) 119 [x] ∧
    Bk (((W.setCell ⟨w.heap.size, j, none⟩ (.int .i64 (q j))).setCell ⟨w.heap.size + 1, j, none⟩ (.int .u64 (r j))).setCell ⟨w.heap.size + 1 + 1 + 1, j, none⟩ (.int .i64 j)).drew (w.heap.size + 1 + 1 + 1) 3 (ints (fill idI k (j + 1))) ∧
    Below w.heap.size w (((W.setCell ⟨w.heap.size, j, none⟩ (.int .i64 (q j))).setCell ⟨w.heap.size + 1, j, none⟩ (.int .u64 (r j))).setCell ⟨w.heap.size + 1 + 1 + 1, j, none⟩ (.int .i64 j)).drew := by
  refine ⟨?_, ?_, ?_, ?_, ?_⟩
  · exact ((fill_int G0).far (p := ⟨w.heap.size + 1, j, none⟩) (by simp) _).far (p := ⟨w.heap.size + 1 + 1 + 1, j, none⟩) (by simp; omega) _
  · exact (fill_u64 (G1.far (p := ⟨w.heap.size, j, none⟩) (by simp) _)).far (p := ⟨w.heap.size + 1 + 1 + 1, j, none⟩) (by show w.heap.size + 1 ≠ w.heap.size + 1 + 1 + 1; omega) _
  · exact ((G2.far (p := ⟨w.heap.size, j, none⟩) (by show w.heap.size + 1 + 1 ≠ w.heap.size; omega) _).far (p := ⟨w.heap.size + 1, j, none⟩) (by show w.heap.size + 1 + 1 ≠ w.heap.size + 1; omega) _).far (p := ⟨w.heap.size + 1 + 1 + 1, j, none⟩) (by simp) _
  · exact fill_int (f := idI) ((G3.far (p := ⟨w.heap.size, j, none⟩) (by simp; omega) _).far (p := ⟨w.heap.size + 1, j, none⟩) (by simp; omega) _)
  · exact (((hb.setCell (p := ⟨w.heap.size, j, none⟩) (Nat.le_refl _) _).setCell (p := ⟨w.heap.size + 1, j, none⟩) (by simp) _).setCell (p := ⟨w.heap.size + 1 + 1 + 1, j, none⟩) (by simp; omega) _).drew

theorem bumped_at {q : Nat → Int} {os : Nat → Nat} {n l : Nat} (hinj : ∀ i j, i < n → j < n → os i = os j → i = j) (hl : l < n) : bumped q os l (os l) = q (os l) := by
  unfold bumped
  rw [if_neg]
  · omega
  · rintro ⟨j, hj, he⟩
    have := hinj j l (by omega) hl he
    omega
theorem bumped_set {q : Nat → Int} {os : Nat → Nat} {n l : Nat} :
    ((List.range n).map (bumped q os l)).set (os l) (q (os l) + 1) = (List.range n).map (bumped q os (l + 1)) := by
  apply List.ext_getElem?
  intro i
  simp only [List.getElem?_set, List.length_map, List.length_range, List.getElem?_map]
  by_cases hi : i < n
  · by_cases hoi : os l = i
    · subst hoi
      simp only [hi, if_true, List.getElem?_range hi, Option.map_some, Option.some.injEq]
      unfold bumped
      rw [if_pos ⟨l, by omega, rfl⟩]
    · rw [if_neg hoi]
      simp only [List.getElem?_range hi, Option.map_some, Option.some.injEq]
      unfold bumped
      by_cases he : ∃ j, j < l ∧ os j = i
      · obtain ⟨j, hj, hji⟩ := he
        rw [if_pos ⟨j, hj, hji⟩, if_pos ⟨j, by omega, hji⟩]
      · rw [if_neg he, if_neg]
        rintro ⟨j, hj, hji⟩
        by_cases hjl : j = l
        · subst hjl; exact hoi hji
        · exact he ⟨j, by omega, hji⟩
  · simp [hi]
    omega

def SplitPost (w : World) (n : Nat) (f : Nat → Int) (e : Ending) (w' : World) : Prop :=
  ∃ g, e = .returned (.tuple #[.slice (some ⟨g, 0, none⟩) n n, .int .i64 0]) ∧ w.heap.size ≤ g ∧ Bk w' g 3 (ints ((List.range n).map f)) ∧ Below w.heap.size w w'

set_option maxRecDepth 100000 in
set_option maxHeartbeats 2000000 in
theorem split_any {w : World} {A : Option Addr} {n c : Nat} {ws : List Int} (t S : Int) (q r : Nat → Int) (os : Nat → Nat) (left : Nat)
    (hr : Row w w.heap.size A (ints ws)) (hn : n = ws.length) (h12 : n ≤ 12) (ht : inB t = true) (hw : ∀ i, i < n → inB (ws[i]?.getD 0) = true) (hS : sumTo (fun i => ws[i]?.getD 0) n = S) (hS0 : 1 ≤ S)
    (hdiv : DivOk t S (fun i => ws[i]?.getD 0) n q r) (hsort : SortOk n r os) (hq0 : ∀ i, i < n → 0 ≤ q i) (hq1 : ∀ i, i < n → q i ≤ 1099511627776) (hleft : t - sumTo q n = left) (hleftn : left ≤ n)
    (hos : ∀ i, i < n → os i < n) (hinj : ∀ i j, i < n → j < n → os i = os j → i = j) :
    Calls Tryz.prog 43 #[.int .i64 t, .slice A n c] w (SplitPost w n (bumped q os left)) := by
  have htb := inB_true ht
  have HT := Lib.hid ht
  have HW := Lib.hid hw
  have HS := Lib.hid hS
  have HD := Lib.hid hdiv
  have HSo := Lib.hid hsort
  have HQ0 := Lib.hid hq0
  have HQ1 := Lib.hid hq1
  have HL := Lib.hid hleft
  have HO := Lib.hid hos
  have HJ := Lib.hid hinj
  have Hr := Lib.hid hr
  have Hn := Lib.hid hn
  clear ht hw hS hdiv hsort hq0 hq1 hleft hos hinj hr hn
  go_enter Tryz.func43, Tryz.ntmps43
  go_wp2_with fail
  refine (isAmount_any _ _).mono ?_
  rintro e w' ⟨rfl, rfl⟩
  rw [HT.out]
  go_wp2_with fail
  go_loop [6, 23] (fun s i => ∃ k : Nat, k ≤ n ∧ i = .int .i64 k ∧ s = .int .i64 (sumTo (fun i => ws[i]?.getD 0) k) ∧ 0 ≤ sumTo (fun i => ws[i]?.getD 0) k ∧ sumTo (fun i => ws[i]?.getD 0) k ≤ (k : Int) * 1099511627776) (fun _ i => n - (intOf i).toNat)
  case atStart => exact ⟨0, Nat.zero_le _, rfl, rfl, by simp [sumTo], by simp [sumTo]⟩
  case round =>
    obtain ⟨k, hk, rfl, rfl, hs0, hs1⟩ := hrel
    by_cases hlt : k < n
    · obtain ⟨b, off, rfl, hbb, hc⟩ := Hr.out.at_ k (by rw [ints_length]; have := Hn.out; omega)
      have hcell := hc k _ (ints_at ws k (by have := Hn.out; omega))
      have hin := HW.out k hlt
      have hwb := inB_true hin
      have Hin := Lib.hid hin
      have Hsum : Hid (sumTo (fun i => ws[i]?.getD 0) (k + 1) = sumTo (fun i => ws[i]?.getD 0) k + ws[k]?.getD 0) := rfl
      clear hc hin
      generalize ws[k]?.getD 0 = z at *
      generalize sumTo (fun i => ws[i]?.getD 0) k = s at *
      go_wp2_with fail
      refine (isAmount_any _ _).mono ?_
      rintro e w' ⟨rfl, rfl⟩
      rw [Hin.out]
      go_wp2
      go_round
      case rel => exact ⟨k + 1, by omega, by go_num, by rw [Hsum.out], by rw [Hsum.out]; omega, by rw [Hsum.out]; omega⟩
      case measure => simp [intOf]; omega
    · obtain rfl : k = n := by omega
      clear hlt
      rw [HS.out] at hs0 hs1
      rw [HS.out]
      have hSz : (S == 0) = false := by simp; omega
      have m1 := fun W => make_ints q k (by omega) W
      have m2 := fun W => make_u64s r k (by omega) W
      go_wp2_with fail
      obtain ⟨W0, hW0⟩ : ∃ W0, (((w.alloc (.cells (ints (fill q k 0)).toArray 3)).alloc (.cells (u64s (fill r k 0)).toArray 120)).alloc (.cells #[.slice (some ⟨w.heap.size + 1, 0, none⟩) k k] 119)).alloc (.cells (ints (fill q k 0)).toArray 3) = W0 := ⟨_, rfl⟩
      have e0 : Bk W0 w.heap.size 3 (ints (fill q k 0)) := by rw [← hW0]; exact (((Bk.new w 3 _).alloc _).alloc _).alloc _
      have e1 : Bk W0 (w.heap.size + 1) 120 (u64s (fill r k 0)) := by
        rw [← hW0]
        have := Bk.new (w.alloc (.cells (ints (fill q k 0)).toArray 3)) 120 (u64s (fill r k 0))
        rw [World.size_alloc] at this
        exact (this.alloc _).alloc _
      have e2 : Bk W0 (w.heap.size + 1 + 1) 119 [.slice (some ⟨w.heap.size + 1, 0, none⟩) k k] := by
        rw [← hW0]
        have := Bk.new ((w.alloc (.cells (ints (fill q k 0)).toArray 3)).alloc (.cells (u64s (fill r k 0)).toArray 120)) 119 [.slice (some ⟨w.heap.size + 1, 0, none⟩) k k]
        rw [World.size_alloc, World.size_alloc] at this
        exact this.alloc _
      have e3 : Bk W0 (w.heap.size + 1 + 1 + 1) 3 (ints (fill idI k 0)) := by
        rw [← hW0, fill_zero idI, ← fill_zero q]
        have := Bk.new (((w.alloc (.cells (ints (fill q k 0)).toArray 3)).alloc (.cells (u64s (fill r k 0)).toArray 120)).alloc (.cells #[.slice (some ⟨w.heap.size + 1, 0, none⟩) k k] 119)) 3 (ints (fill q k 0))
        rw [World.size_alloc, World.size_alloc, World.size_alloc] at this
        exact this
      have hB0 : Below w.heap.size w W0 := by
        rw [← hW0]
        exact ((((Below.refl _ w).alloc (Nat.le_refl _) _).alloc (by simp) _).alloc (by simp; omega) _).alloc (by simp; omega) _
      rw [hW0]
      clear hW0 m1 m2
      go_loopw [12, 50] (fun l i wr => ∃ j : Nat, j ≤ k ∧ i = .int .i64 j ∧ l = .int .i64 (t - sumTo q j) ∧ 0 ≤ sumTo q j ∧ sumTo q j ≤ (j : Int) * 1099511627776 ∧ Bk wr w.heap.size 3 (ints (fill q k j)) ∧ Bk wr (w.heap.size + 1) 120 (u64s (fill r k j)) ∧
          Bk wr (w.heap.size + 1 + 1) 119 [.slice (some ⟨w.heap.size + 1, 0, none⟩) k k] ∧ Bk wr (w.heap.size + 1 + 1 + 1) 3 (ints (fill idI k j)) ∧ Below w.heap.size w wr) (fun _ i _ => k - (intOf i).toNat)
      case atStart => exact ⟨0, Nat.zero_le _, rfl, by simp [sumTo], by simp [sumTo], by simp [sumTo], e0, e1, e2, e3, hB0⟩
      case round =>
        obtain ⟨j, hj, rfl, rfl, hq0, hq1, f0, f1, f2, f3, hb⟩ := hrel
        clear e0 e1 e2 e3 hB0
        by_cases hlt : j < k
        · obtain ⟨b, off, rfl, hbb, hc⟩ := (Hr.out.below hb).at_ j (by rw [ints_length]; have := Hn.out; omega)
          have hcell := hc j _ (ints_at ws j (by have := Hn.out; omega))
          have hdv0 := HD.out j hlt wr
          dsimp only at hdv0
          have hdv := Lib.hid hdv0
          clear hdv0
          have hqj0 := HQ0.out j hlt
          have hqj1 := HQ1.out j hlt
          have Hs : Hid (sumTo q (j + 1) = sumTo q j + q j) := rfl
          clear hc
          generalize ws[j]?.getD 0 = z at *
          generalize sumTo q j = sq at *
          have F0 := Lib.hid f0
          have F1 := Lib.hid f1
          have F2 := Lib.hid f2
          have F3 := Lib.hid f3
          clear f0 f1 f2 f3
          go_wp2_with fail
          (with_reducible refine hdv.out.mono ?_)
          rintro e w' ⟨rfl, m, rfl⟩
          have hbm := bel_drewN hb m
          have G0 : Hid (Bk (wr.drewN m) w.heap.size 3 (ints (fill q k j))) := F0
          have G1 : Hid (Bk (wr.drewN m) (w.heap.size + 1) 120 (u64s (fill r k j))) := F1
          have G2 : Hid (Bk (wr.drewN m) (w.heap.size + 1 + 1) 119 [.slice (some ⟨w.heap.size + 1, 0, none⟩) k k]) := F2
          have G3 : Hid (Bk (wr.drewN m) (w.heap.size + 1 + 1 + 1) 3 (ints (fill idI k j))) := F3
          clear F0 F1 F2 F3 hdv hcell
          generalize wr.drewN m = Wq at *
          have a0 : Wq.cell? ⟨w.heap.size, j, none⟩ = some (.int .i64 0) := by rw [G0.out.cell]; simp [ints, fill_at _ _ _ _ hlt]
          have a1 : Wq.cell? ⟨w.heap.size + 1, j, none⟩ = some (.int .u64 0) := by rw [G1.out.cell]; simp [u64s, fill_at _ _ _ _ hlt]
          have a2 : Wq.cell? ⟨w.heap.size + 1 + 1, 0, none⟩ = some (.slice (some ⟨w.heap.size + 1, 0, none⟩) k k) := by rw [G2.out.cell]; rfl
          have a3 : Wq.cell? ⟨w.heap.size + 1 + 1 + 1, j, none⟩ = some (.int .i64 0) := by rw [G3.out.cell]; simp [ints, fill_at _ _ _ _ hlt]
          have z0 := G0.out.frozen j
          have z1 := G1.out.frozen j
          have z3 := G3.out.frozen j
          have hwq : IntKind.i64.wrap (q j) = q j := IntWalk.i64_in _ (by omega)
          have hjk : (j : Int) < (k : Int) := by omega
          have hj0 : (0 : Int) ≤ (j : Int) := by omega
          obtain ⟨qj, hqj⟩ : ∃ x, x = q j := ⟨_, rfl⟩
          obtain ⟨rj, hrj⟩ : ∃ x, x = r j := ⟨_, rfl⟩
          rw [← hqj, ← hrj]
          rw [← hqj] at hqj0 hqj1 hwq Hs
          have Hqj := Lib.hid hqj
          have Hrj := Lib.hid hrj
          clear hqj hrj
          go_wp2_with fail
          go_region
          obtain ⟨t0, t1, t2, t3, t4⟩ := split_round hbm G0.out G1.out G2.out G3.out
          rw [← Hqj.out, ← Hrj.out] at t0 t1 t2 t3 t4
          have T0 := Lib.hid t0
          have T1 := Lib.hid t1
          have T2 := Lib.hid t2
          have T3 := Lib.hid t3
          clear t0 t1 t2 t3 a0 a1 a2 a3 z0 z1 z3 hwq
          go_wp2
          go_roundw
          case rel => exact ⟨j + 1, by omega, by go_num, by rw [Hs.out]; go_num, by rw [Hs.out]; omega, by rw [Hs.out]; omega, T0.out, T1.out, T2.out, T3.out, t4⟩
          case measure => simp [intOf]; omega
        · obtain rfl : j = k := by omega
          rw [HL.out]
          clear hlt
          rw [fill_all] at f0 f1 f3
          have hord : OrdAt wr (w.heap.size + 1 + 1) (w.heap.size + 1) (w.heap.size + 1 + 1 + 1) j ((List.range j).map r) :=
            ⟨f2.lt, f1.lt, f3.lt, by simp, h12, by rw [f2.cell]; rfl, fun i u hu => by rw [f1.cell]; exact hu⟩
          have HSC := Lib.hid (HSo.out wr _ _ _ hord f3)
          have F0 := Lib.hid f0
          have F1 := Lib.hid f1
          clear f0 f1 f2 f3 hord
          go_wp2_with fail
          (with_reducible refine HSC.out.mono ?_)
          rintro e w1 ⟨rfl, hg1, hk3⟩
          have hk0 := F0.out.grown hg1 (by simp; omega)
          have hb1 := hb.grown hg1 hb.size (fun g e => by cases e; omega)
          have K0 := Lib.hid hk0
          have K3 := Lib.hid hk3
          clear hk0 hk3 hg1 HSC F0 F1
          go_wp2_with fail
          go_loopw [86] (fun i wr => ∃ l : Nat, l ≤ left ∧ i = .int .i64 l ∧ Bk wr w.heap.size 3 (ints ((List.range j).map (bumped q os l))) ∧ Bk wr (w.heap.size + 1 + 1 + 1) 3 (ints ((List.range j).map fun i => (os i : Int))) ∧ Below w.heap.size w wr) (fun i _ => left - (intOf i).toNat)
          case atStart => exact ⟨0, Nat.zero_le _, rfl, by rw [show bumped q os 0 = q from funext fun i => by simp [bumped]]; exact K0.out, K3.out, hb1⟩
          case round =>
            obtain ⟨l, hl, rfl, g0, g3, hbl⟩ := hrel
            clear K0 K3 hb1
            by_cases hll : l < left
            · have hol := HO.out l (by omega)
              have hq0' := HQ0.out _ hol
              have hq1' := HQ1.out _ hol
              have x3 : wr.cell? ⟨w.heap.size + 1 + 1 + 1, l, none⟩ = some (.int .i64 (os l)) := by rw [g3.cell]; simp [ints, show l < j by omega]
              have x0 : wr.cell? ⟨w.heap.size, os l, none⟩ = some (.int .i64 (q (os l))) := by
                rw [g0.cell]
                simp only [ints, List.getElem?_map, List.getElem?_range hol, Option.map_some]
                rw [bumped_at HJ.out (by omega)]
              have z0 := g0.frozen (os l)
              have hset := g0.set (os l) (.int .i64 (q (os l) + 1))
              rw [ints_set, bumped_set] at hset
              have hfar := g3.far (p := ⟨w.heap.size, os l, none⟩) (by show w.heap.size + 1 + 1 + 1 ≠ w.heap.size; omega) (.int .i64 (q (os l) + 1))
              have hbl2 := hbl.setCell (p := ⟨w.heap.size, os l, none⟩) (Nat.le_refl _) (.int .i64 (q (os l) + 1))
              have HS1 := Lib.hid hset
              have HS2 := Lib.hid hfar
              clear hset hfar g0 g3
              generalize q (os l) = qo at *
              generalize os l = o at *
              have hlj : l < j := by omega
              go_wp2
              go_roundw
              case rel => exact ⟨l + 1, by omega, by go_num, HS1.out, HS2.out, hbl2⟩
              case measure => simp [intOf]; omega
            · obtain rfl : l = left := by omega
              have G0 := Lib.hid g0
              clear g0 g3
              go_wp2
              go_ret2
              exact ⟨_, rfl, Nat.le_refl _, G0.out, hbl⟩

end Go.Proofs.YtlgedljhheficaaGreatDoor
