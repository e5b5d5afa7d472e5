/- Contracts of SameInts, and of tax.Shares where everything is good. -/
import Derived.Test.YtlgedljhheficaaGreatDoorA23
namespace Go.Proofs.YtlgedljhheficaaGreatDoor
open Go.RowKit

def sameB (xs ys : List Int) : Bool := decide (xs = ys)

theorem take_same {xs ys : List Int} {k : Nat} (hk : k < xs.length) (hl : xs.length = ys.length) (h : xs.take k = ys.take k) (he : xs[k]?.getD 0 = ys[k]?.getD 0) : xs.take (k + 1) = ys.take (k + 1) := by
  have hk2 : k < ys.length := by omega
  rw [List.take_succ_eq_append_getElem hk, List.take_succ_eq_append_getElem hk2, h]
  have : xs[k] = ys[k] := by simpa [hk, hk2] using he
  rw [this]

set_option maxRecDepth 100000 in
set_option maxHeartbeats 1000000 in
theorem same_any {w : World} {A A' : Option Addr} {n m c c' B B' : Nat} {xs ys : List Int} (hx : Row w B A (ints xs)) (hy : Row w B' A' (ints ys)) (hn : n = xs.length) (hm : m = ys.length) (hs : n ≤ 140737488351232) :
    Calls Tryz.prog 22 #[.slice A n c, .slice A' m c'] w fun e w' => e = .returned (.bool (sameB xs ys)) ∧ Below w.heap.size w w' := by
  have Hn := Lib.hid hn
  have Hm := Lib.hid hm
  by_cases hnm : n = m
  · have hl : xs.length = ys.length := by omega
    have Hl := Lib.hid hl
    have e1 : ((n : Int) != (m : Int)) = false := by simp; omega
    obtain rfl : m = n := hnm.symm
    clear hn hm hl
    go_enter Tryz.func22, Tryz.ntmps22
    go_wp2
    go_loopw [5] (fun i wr => ∃ k : Nat, k ≤ m ∧ i = .int .i64 k ∧ xs.take k = ys.take k ∧ Below w.heap.size w wr ∧ (∀ p, wr.cell? p = w.cell? p)) (fun i _ => m - (intOf i).toNat)
    case atStart => exact ⟨0, Nat.zero_le _, rfl, by simp, Below.refl _ _, fun _ => rfl⟩
    case round =>
      obtain ⟨k, hk, rfl, hT, hb, hc⟩ := hrel
      have HT := Lib.hid hT
      have Hc := Lib.hid hc
      clear hT hc
      by_cases hlt : k < m
      · obtain ⟨b, off, rfl, hbb, cx⟩ := hx.at_ k (by rw [ints_length]; have := Hn.out; omega)
        obtain ⟨b', off', rfl, hbb', cy⟩ := hy.at_ k (by rw [ints_length]; have := Hm.out; omega)
        have x1 := (Hc.out ⟨b, off + k, none⟩).trans (cx k _ (ints_at xs k (by have := Hn.out; omega)))
        have y1 := (Hc.out ⟨b', off' + k, none⟩).trans (cy k _ (ints_at ys k (by have := Hm.out; omega)))
        have Hs : Hid (xs[k]?.getD 0 = ys[k]?.getD 0 → xs.take (k + 1) = ys.take (k + 1)) := fun h => take_same (by have := Hn.out; omega) Hl.out HT.out h
        have Hno : Hid (xs[k]?.getD 0 ≠ ys[k]?.getD 0 → sameB xs ys = false) := fun h => by
          simp only [sameB, decide_eq_false_iff_not]
          intro he
          exact h (by rw [he])
        have hk0 : (0 : Int) ≤ (k : Int) := by omega
        have hkm : (k : Int) < (m : Int) := by omega
        clear cx cy
        generalize xs[k]?.getD 0 = x at *
        generalize ys[k]?.getD 0 = y at *
        by_cases hxy : x = y
        · subst hxy
          have e2 : (x != x) = false := by simp
          have HT1 := Lib.hid (Hs.out rfl)
          clear Hs Hno
          go_wp2
          go_quiet (fail)
          go_wp2
          go_roundw
          case rel => exact ⟨k + 1, by omega, by go_num, HT1.out, bel_drewN hb _, Hc.out⟩
          case measure => simp [intOf]; omega
        · have e2 : (x != y) = true := by simpa using hxy
          have HF := Lib.hid (Hno.out hxy)
          clear hxy
          go_wp2
          go_quiet (fail)
          go_wp2
          go_ret
          exact ⟨by rw [HF.out]; rfl, bel_drewN hb _⟩
      · obtain rfl : k = m := by omega
        have Ht : Hid (sameB xs ys = true) := by
          show sameB xs ys = true
          have h := HT.out
          rw [List.take_of_length_le (by have := Hn.out; omega), List.take_of_length_le (by have := Hm.out; omega)] at h
          simp [sameB, h]
        go_wp2
        go_ret
        exact ⟨by rw [Ht.out]; rfl, hb⟩
  · have e1 : ((n : Int) != (m : Int)) = true := by simp; omega
    have Hf : Hid (sameB xs ys = false) := by
      show sameB xs ys = false
      simp only [sameB, decide_eq_false_iff_not]
      intro he
      exact hnm (by rw [hn, hm, he])
    clear hn hm hnm
    go_enter Tryz.func22, Tryz.ntmps22
    go_wp2
    go_ret
    exact ⟨by rw [Hf.out]; rfl, Below.refl _ _⟩

set_option maxRecDepth 100000 in
set_option maxHeartbeats 1000000 in
theorem shares_good {w : World} {nm : ByteArray} {A : Option Addr} {n : Nat} (c : Nat) {brs : List (Int × Int)} {A' : Option Addr} {m : Nat} (c' : Nat) {ws : List Int} (S : Int) (q r : Nat → Int) (os : Nat → Nat) (left : Nat)
    (h : TaxV w nm A n brs) (hv : validE nm brs = 0) (hr : Row w w.heap.size A' (ints ws)) (hm : m = ws.length) (h12 : m ≤ 12) (hw : ∀ i, i < m → inB (ws[i]?.getD 0) = true) (hS : sumTo (fun i => ws[i]?.getD 0) m = S) (hS0 : 1 ≤ S) (hS1 : S ≤ 1099511627776)
    (hmono : ∀ i, i < m → 0 ≤ sumTo (fun i => ws[i]?.getD 0) i ∧ sumTo (fun i => ws[i]?.getD 0) i + ws[i]?.getD 0 ≤ S)
    (hdiv : DivOk (due brs S) S (fun i => ws[i]?.getD 0) m q r) (hsort : SortOk m r os) (hq0 : ∀ i, i < m → 0 ≤ q i) (hq1 : ∀ i, i < m → q i ≤ 1099511627776) (hleft : due brs S - sumTo q m = left) (hleftn : left ≤ m)
    (hos : ∀ i, i < m → os i < m) (hinj : ∀ i j, i < m → j < m → os i = os j → i = j) :
    Calls Tryz.prog 20 #[.agg #[.string nm, .slice A n c], .slice A' m c'] w (SplitPost w m (bumped q os left)) := by
  have hG := good_of_valid hv
  have hds := due_self hG (s := S) (by omega)
  have hdin : inB (due brs S) = true := by simp [inB]; omega
  have HSp := Lib.hid (fun (W : World) (hrW : Row W W.heap.size A' (ints ws)) => split_any (c := c') (due brs S) S q r os left hrW hm h12 hdin hw hS hS0 hdiv hsort hq0 hq1 hleft hleftn hos hinj)
  have HDu := Lib.hid (fun (W : World) (hrW : Row W W.heap.size A (bcells brs)) => due_any nm A n c brs S W hrW h.len hG.inr (by omega) hS1)
  generalize due brs S = d at *
  have HV := Lib.hid hv
  have HW := Lib.hid hw
  have HS := Lib.hid hS
  have HM := Lib.hid hmono
  have Hr := Lib.hid hr
  have Hm := Lib.hid hm
  have H := Lib.hid h
  clear hv hw hS hdiv hsort hq0 hq1 hleft hos hinj hr hm h hmono hdin hds
  have hb0 : Below w.heap.size w (w.alloc (.cells #[.string nm, .slice A n c] 25)) := (Below.refl _ _).alloc (Nat.le_refl _) _
  go_enter Tryz.func20, Tryz.ntmps20
  go_wp2_with fail
  (with_reducible refine (valid_tax c (H.out.below hb0)).mono ?_)
  rintro e w1 ⟨rfl, hb1⟩
  rw [HV.out]
  have G1 : Below w.heap.size w w1 := hb0.trans (hb1.mono (by simp))
  have c0 : w1.cell? ⟨w.heap.size, 0, none⟩ = some (.string nm) := (hb1.cell (p := ⟨w.heap.size, 0, none⟩) (by simp)).trans (by simp)
  have c1 : w1.cell? ⟨w.heap.size, 1, none⟩ = some (.slice A n c) := (hb1.cell (p := ⟨w.heap.size, 1, none⟩) (by simp)).trans (by simp)
  clear hb1
  go_wp2_with fail
  go_loop [7, 17] (fun s i => ∃ k : Nat, k ≤ m ∧ i = .int .i64 k ∧ s = .int .i64 (sumTo (fun i => ws[i]?.getD 0) k)) (fun _ i => m - (intOf i).toNat)
  case atStart => exact ⟨0, Nat.zero_le _, rfl, rfl⟩
  case round =>
    obtain ⟨k, hk, rfl, rfl⟩ := hrel
    by_cases hlt : k < m
    · obtain ⟨b, off, rfl, hbb, hc⟩ := (Hr.out.below G1).at_ k (by rw [ints_length]; have := Hm.out; omega)
      have hcell := hc k _ (ints_at ws k (by have := Hm.out; omega))
      have hin := HW.out k hlt
      have hwb := inB_true hin
      have Hin := Lib.hid hin
      have hmk := HM.out k hlt
      have Hsum : Hid (sumTo (fun i => ws[i]?.getD 0) (k + 1) = sumTo (fun i => ws[i]?.getD 0) k + ws[k]?.getD 0) := rfl
      clear hc hin
      generalize ws[k]?.getD 0 = z at *
      generalize sumTo (fun i => ws[i]?.getD 0) k = s at *
      go_wp2_with fail
      (with_reducible refine (inRange_any _ _).mono ?_)
      rintro e w' ⟨rfl, rfl⟩
      rw [Hin.out]
      go_wp2
      go_round
      case rel => exact ⟨k + 1, by omega, by go_num, by rw [Hsum.out]⟩
      case measure => simp [intOf]; omega
    · obtain rfl : k = m := by omega
      rw [HS.out]
      have hSz : (S == 0) = false := by simp; omega
      go_wp2_with fail
      (with_reducible refine (HDu.out _ (H.out.below G1).row).mono ?_)
      rintro e w2 ⟨rfl, hb2⟩
      have G2 := G1.trans (hb2.mono G1.size)
      go_wp2_with fail
      (with_reducible refine (HSp.out _ ((Hr.out.below G2).more G2.size)).mono ?_)
      rintro e w3 ⟨g, rfl, hg, hbk, hb3⟩
      have G3 := G2.trans (hb3.mono G2.size)
      have HB := Lib.hid hbk
      have hgw : w.heap.size ≤ g := Nat.le_trans G2.size hg
      clear hbk
      go_wp2
      go_ret2
      exact ⟨g, rfl, hgw, HB.out, G3⟩

end Go.Proofs.YtlgedljhheficaaGreatDoor
