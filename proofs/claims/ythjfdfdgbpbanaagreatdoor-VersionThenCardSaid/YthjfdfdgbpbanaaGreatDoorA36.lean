/- The contract of the reference's Convert on arguments that it takes. -/
import Derived.Test.YthjfdfdgbpbanaaGreatDoorA35
namespace Go.Proofs.YthjfdfdgbpbanaaGreatDoor
open Go.RowKit

theorem own_drewN {W : World} {B E s n : Nat} {v : Value} {xs : List Value} (h : W.ownsRow B E s v n xs) (q : Nat) : (W.drewN q).ownsRow B E s v n xs := h

set_option maxRecDepth 100000 in
set_option maxHeartbeats 2000000 in
theorem rconv_good {w : World} {A A' : Option Addr} {m m' : Nat} (c c' : Nat) {ts : List Tr} (n : Nat) {hs : List Int} (ht : TosV w A m ts) (hh : IntsV w A' m' hs) (hm : m ≤ 1000000) (hm' : m' ≤ 1000000)
    (hgood : argB ts n hs = true) :
    Calls Tryz.prog 28 #[.slice A m c, .int .i64 n, .slice A' m' c'] w (ConvPost w ts n hs) := by
  obtain ⟨i0, hi, hz0, hz1, hz2⟩ := info_parts info3
  have hg := hgood
  simp only [argB, Bool.and_eq_true, decide_eq_true_eq] at hg
  obtain ⟨⟨⟨⟨_, hn64⟩, hv⟩, hl⟩, hu⟩ := hg
  have hmm : m = m' := by rw [ht.len, hh.len]; exact hl
  have K1 := Lib.hid (rvalid_any c n ht hm)
  rw [hv] at K1
  have K2 := bag_any (c := c') hh.row hh.len (by omega)
  rw [hu] at K2
  have HK2 := Lib.hid K2
  have HU := Lib.hid hh
  have HT := Lib.hid ht
  have Hlt := Lib.hid ht.len
  have Hlh := Lib.hid hh.len
  have HG := Lib.hid hgood
  have HV := Lib.hid hv
  have HUn := Lib.hid hu
  have HL := Lib.hid hl
  have e1 : ((m : Int) != (m' : Int)) = false := by simp; omega
  have e64 : n ≤ 64 := by omega
  have Hmm := Lib.hid hmm
  clear hgood hv ht hh hu hl hmm K2
  go_enter Tryz.func28, Tryz.ntmps28
  go_wp2_with fail
  refine K1.out.mono ?_
  rintro e w1 ⟨rfl, rfl⟩
  go_wp2_with fail
  refine HK2.out.mono ?_
  rintro e w2 ⟨rfl, rfl⟩
  clear K1 HK2
  go_wp2_with fail
  go_loopw [9, 11] (fun v i wr => ∃ j : Nat, j ≤ n ∧ i = .int .i64 j ∧ wr.ownsRow w.heap.size 3 1 v j (ints (nowK ts hs j m)) ∧ Below w.heap.size w wr ∧ ∀ i : Nat, i < j → sumTo ts hs i m ≤ 1099511627776) (fun _ i _ => n - (intOf i).toNat)
  case atStart => exact ⟨0, Nat.zero_le _, rfl, World.ownsRow_nil _ _ _ _, Below.refl _ _, fun i hi => by omega⟩
  case round =>
    obtain ⟨j, hj, rfl, hown, hb, hS⟩ := hrel
    have HO := Lib.hid hown
    have HB := Lib.hid hb
    have HS := Lib.hid hS
    clear hown hS hb
    by_cases hlt : j < n
    · go_wp2_with fail
      generalize hv9 : u9 = v0 at *
      go_loopw [12, 13] (fun x i wx => ∃ k : Nat, k ≤ m ∧ i = .int .i64 k ∧ (∃ z, x = .int .i64 z ∧ Cap (sumTo ts hs j k) z) ∧ wx.ownsRow w.heap.size 3 1 v0 j (ints (nowK ts hs j m)) ∧ Below w.heap.size w wx) (fun _ i _ => m - (intOf i).toNat)
      case atStart => exact ⟨0, Nat.zero_le _, rfl, ⟨0, rfl, .inl ⟨by simp [sumTo], by simp [sumTo]⟩⟩, HO.out, HB.out⟩
      case round =>
        obtain ⟨k, hk, rfl, ⟨z, rfl, hcap⟩, hown, hb⟩ := hrel
        clear HO HB
        have HO := Lib.hid hown
        have HB := Lib.hid hb
        have HCp := Lib.hid hcap
        clear hown hb hcap
        by_cases hkm : k < m
        · have hkl : k < ts.length := by have := Hlt.out; omega
          have hkh : k < m' := by have := Hmm.out; omega
          obtain ⟨b, off, rfl, hbb, hc⟩ := (HT.out.below HB.out).row.at_ 0 (by rw [tcells_length]; omega)
          obtain ⟨b', off', rfl, hbb', hc'⟩ := (HU.out.below HB.out).row.at_ k (by rw [ints_length]; have := Hlh.out; omega)
          obtain ⟨t1, t2, t3⟩ := tcells_at ts k hkl
          have c1 := hc _ _ t1
          have c2 := hc _ _ t2
          have c3 := hc _ _ t3
          simp only [← Nat.add_assoc] at c2 c3
          have d1 : wr.cell? ⟨b', off' + k, none⟩ = some (.int .i64 (wAt hs k)) := hc' k _ (ints_at hs k (by have := Hlh.out; omega))
          have ho := okT_cases (validTo_at HV.out k hkl)
          have hun : 0 ≤ wAt hs k ∧ wAt hs k ≤ 1099511627776 := by
            have := HUn.out
            simp only [unitsB, decide_eq_true_eq] at this
            exact this k (by have := Hlh.out; omega)
          obtain ⟨u0, u1⟩ := hun
          clear hc hc' t1 t2 t3
          by_cases hit : itemAt ts k = j
          · rcases ho with ho | ⟨i0', i1', p0, p1, q0, q1⟩
            · omega
            have qj : (itemAt ts k == (j : Int)) = true := by simpa using hit
            have hs0 : 0 ≤ sumTo ts hs j k := sumTo_nonneg HV.out HUn.out HL.out.symm (by omega)
            have hsucc : Hid (sumTo ts hs j (k + 1) = sumTo ts hs j k + wAt hs k / denAt ts k * numAt ts k) := by show sumTo ts hs j (k + 1) = _; simp [sumTo, hit, term]
            have hK0 : 0 ≤ wAt hs k / denAt ts k := Int.ediv_nonneg u0 (by omega)
            have hK1 : wAt hs k / denAt ts k ≤ 1099511627776 := Int.le_trans (Int.ediv_le_self _ u0) u1
            have htd : (wAt hs k).tdiv (denAt ts k) = wAt hs k / denAt ts k := Int.tdiv_eq_ediv_of_nonneg u0
            have htd2 : (1099511627776 : Int).tdiv (numAt ts k) = 1099511627776 / numAt ts k := Int.tdiv_eq_ediv_of_nonneg (by omega)
            obtain ⟨z0, z1⟩ := HCp.out.bound hs0
            obtain ⟨l0, l1, m0, m1⟩ := cap_term hK0 p0 p1 rfl
            have HC2 := Lib.hid (HCp.out.step hs0 hK0 p0 rfl)
            clear hs0 HCp i0' i1' hit
            generalize wAt hs k / denAt ts k = K at *
            generalize 1099511627776 / numAt ts k = L at *
            generalize wAt hs k = h at *
            generalize numAt ts k = p at *
            generalize denAt ts k = q at *
            generalize itemAt ts k = it at *
            have g0 : (q == 0) = false := by simp; omega
            have g1 : ¬ q = 0 := by omega
            have g2 : (p == 0) = false := by simp; omega
            have g3 : ¬ p = 0 := by omega
            have g4 : IntKind.i64.wrap K = K := IntWalk.i64_in _ (by omega)
            have g5 : IntKind.i64.wrap L = L := IntWalk.i64_in _ (by omega)
            have g6 : IntKind.i64.wrap (L + 1) = L + 1 := IntWalk.i64_in _ (by omega)
            have k0 : (0 : Int) ≤ (k : Int) := by omega
            have k1 : (k : Int) < (m' : Int) := by omega
            have k2 : (k : Int) < (m : Int) := by omega
            obtain ⟨M, hM⟩ : ∃ M, M = min K (L + 1) := ⟨_, rfl⟩
            rw [← hM] at HC2 m0 m1
            have hM2 : (if L + 1 < K then L + 1 else K) = M := by rw [hM]; split <;> omega
            obtain ⟨T, hTe⟩ : ∃ T, T = M * p := ⟨_, rfl⟩
            rw [← hTe] at HC2 m0 m1
            have g7 : IntKind.i64.wrap (M * p) = T := by rw [hTe]; exact IntWalk.i64_in _ (by omega)
            have g8 : IntKind.i64.wrap (z + T) = z + T := IntWalk.i64_in _ (by omega)
            go_wp2_with fail
            obtain ⟨X, hX⟩ : ∃ X, X = min (z + T) 2199023255552 := ⟨_, rfl⟩
            rw [← hX] at HC2
            have hX2 : (if 2199023255552 < z + T then 2199023255552 else z + T) = X := by rw [hX]; split <;> omega
            clear hM hTe hX
            go_quiet (fail)
            have HO1 := Lib.hid (own_drewN HO.out nq)
            have HB1 := Lib.hid (bel_drewN HB.out nq)
            generalize wr.drewN nq = W at *
            clear c1 c2 c3 d1
            go_wp2_with fail
            go_roundw
            case rel => exact ⟨k + 1, by omega, by go_num, ⟨X, rfl, by rw [hsucc.out]; exact HC2.out⟩, HO1.out, HB1.out⟩
            case measure => simp [intOf]; omega
          · have qj : (itemAt ts k == (j : Int)) = false := by simpa using hit
            have hsucc : Hid (sumTo ts hs j (k + 1) = sumTo ts hs j k) := by show sumTo ts hs j (k + 1) = _; simp [sumTo, hit]
            clear ho hit
            generalize wAt hs k = h at *
            generalize numAt ts k = p at *
            generalize denAt ts k = q at *
            generalize itemAt ts k = it at *
            go_wp2_with fail
            go_roundw
            case rel => exact ⟨k + 1, by omega, by go_num, ⟨z, rfl, by rw [hsucc.out]; exact HCp.out⟩, HO.out, HB.out⟩
            case measure => simp [intOf]; omega
        · have hkm2 : k = m := by omega
          subst hkm2
          have hkl : k = ts.length := by have := Hlt.out; omega
          by_cases hbig : 1099511627776 < z
          · have HE : Hid (convE ts n hs = 4) := by
              refine convE_lim HG.out ?_
              simp only [limB, decide_eq_false_iff_not]
              intro hall
              have := hall j (by simpa using hlt)
              unfold mu at this
              rw [← hkl] at this
              rcases HCp.out with ⟨h1, h2⟩ | ⟨h1, _⟩ <;> omega
            clear hkl
            go_wp2_with fail
            go_ret3
            exact convPost_err HE.out (by omega) HB.out
          · have hz : z = sumTo ts hs j k ∧ sumTo ts hs j k ≤ 1099511627776 := by
              rcases HCp.out with ⟨h1, h2⟩ | ⟨h1, h2, _⟩
              · exact ⟨h2, h1⟩
              · omega
            have HZ := Lib.hid hz.1
            have HZ2 := Lib.hid hz.2
            have hsz := HB.out.size
            clear hkl hz
            go_wp2_with (at_builtin; refine wpList_append_own_at _ rfl _ _ 22 rfl w.heap.size 3 i0 (.int .i64 0) 1 8 Tryz.underlying22 hi hz0 hz1 hz2 rfl (by decide) _ j (ints (nowK ts hs j k)) rfl (HO.out.alloc _) ⟨wr.heap.size, 0, none⟩ 1 1 [.int .i64 z] rfl rfl (new1 _ _ _) (one1 _) (by unfold maxLen; omega) (by omega) (by simp; omega) ?_)
            intro v' w1 hown' hgrow _ _
            have HB1 := Lib.hid ((HB.out.alloc hsz _).grown hgrow (by simp; omega) (row_base HO.out))
            have HO1 := Lib.hid hown'
            clear hown' hgrow
            go_wp2_with fail
            go_roundw
            case rel => exact ⟨j + 1, by omega, by go_num, by rw [nowK_next, ints_snoc, ← HZ.out]; exact HO1.out, HB1.out, fun i hi => by
                by_cases e : i = j
                · rw [e]; exact HZ2.out
                · exact HS.out i (by omega)⟩
            case measure => simp [intOf]; omega
    · obtain rfl : n = j := by omega
      have hkl : m = ts.length := Hlt.out
      have hlim : limB ts n hs = true := by
        simp only [limB, decide_eq_true_eq]
        intro j hj
        rw [← hkl]
        exact HS.out j (by simpa using hj)
      have HE := Lib.hid (convE_ok HG.out hlim)
      obtain ⟨A9, c9, hv9, hr9⟩ := row_of_owns HO.out
      subst hv9
      have HR9 := Lib.hid hr9
      clear hkl hlim hr9
      go_wp2_with fail
      generalize hWW : wr = W0 at *
      go_loopw [10, 14] (fun v i wx => ∃ k : Nat, k ≤ m ∧ i = .int .i64 k ∧ wx.ownsRow W0.heap.size 3 1 v k (ints (leftN ts hs k)) ∧ Below W0.heap.size W0 wx) (fun _ i _ => m - (intOf i).toNat)
      case atStart => exact ⟨0, Nat.zero_le _, rfl, World.ownsRow_nil _ _ _ _, Below.refl _ _⟩
      case round =>
        obtain ⟨k, hk, rfl, hown, hb⟩ := hrel
        have HO2 := Lib.hid hown
        have HB2 := Lib.hid hb
        have hsz := hb.size
        clear hown hb
        have HBB := Lib.hid (HB.out.trans (HB2.out.mono HB.out.size))
        by_cases hkm : k < m
        · have hkl : k < ts.length := by have := Hlt.out; omega
          have hkh : k < m' := by have := Hmm.out; omega
          obtain ⟨b, off, rfl, hbb, hc⟩ := (HT.out.below HBB.out).row.at_ 0 (by rw [tcells_length]; omega)
          obtain ⟨b', off', rfl, hbb', hc'⟩ := (HU.out.below HBB.out).row.at_ k (by rw [ints_length]; have := Hlh.out; omega)
          obtain ⟨t1, t2, t3⟩ := tcells_at ts k hkl
          have c1 := hc _ _ t1
          have c2 := hc _ _ t2
          have c3 := hc _ _ t3
          simp only [← Nat.add_assoc] at c2 c3
          have d1 : wr.cell? ⟨b', off' + k, none⟩ = some (.int .i64 (wAt hs k)) := hc' k _ (ints_at hs k (by have := Hlh.out; omega))
          have ho := okT_cases (validTo_at HV.out k hkl)
          have hun : 0 ≤ wAt hs k ∧ wAt hs k ≤ 1099511627776 := by
            have := HUn.out
            simp only [unitsB, decide_eq_true_eq] at this
            exact this k (by have := Hlh.out; omega)
          obtain ⟨u0, u1⟩ := hun
          clear hc hc' t1 t2 t3
          have k0 : (0 : Int) ≤ (k : Int) := by omega
          have k1 : (k : Int) < (m' : Int) := by omega
          have k2 : (k : Int) < (m : Int) := by omega
          by_cases hneg : itemAt ts k < 0
          · have HLe : Hid (leftAt ts hs k = wAt hs k) := by show leftAt ts hs k = _; rw [leftAt, if_pos hneg]
            clear ho
            generalize wAt hs k = h at *
            generalize numAt ts k = p at *
            generalize denAt ts k = q at *
            generalize itemAt ts k = it at *
            go_wp2_with (at_builtin; refine wpList_append_own_at _ rfl _ _ 22 rfl W0.heap.size 3 i0 (.int .i64 0) 1 8 Tryz.underlying22 hi hz0 hz1 hz2 rfl (by decide) _ k (ints (leftN ts hs k)) rfl (HO2.out.alloc _) ⟨wr.heap.size, 0, none⟩ 1 1 [.int .i64 h] rfl rfl (new1 _ _ _) (one1 _) (by unfold maxLen; omega) (by omega) (by simp; omega) ?_)
            intro v' w1 hown' hgrow _ _
            have HB1 := Lib.hid ((HB2.out.alloc hsz _).grown hgrow (by simp; omega) (row_base HO2.out))
            have HO1 := Lib.hid hown'
            clear hown' hgrow
            go_wp2_with fail
            go_roundw
            case rel => exact ⟨k + 1, by omega, by go_num, by rw [leftN_next, ints_snoc, HLe.out]; exact HO1.out, HB1.out⟩
            case measure => simp [intOf]; omega
          · rcases ho with ho | ⟨i0', i1', p0, p1, q0, q1⟩
            · omega
            have HLe : Hid (leftAt ts hs k = wAt hs k % denAt ts k) := by show leftAt ts hs k = _; rw [leftAt, if_neg hneg]
            have htm : (wAt hs k).tmod (denAt ts k) = wAt hs k % denAt ts k := Int.tmod_eq_emod_of_nonneg u0
            have hD0 := Int.emod_nonneg (wAt hs k) (show denAt ts k ≠ 0 by omega)
            have hD1 := Int.emod_lt_of_pos (wAt hs k) (show 0 < denAt ts k by omega)
            generalize wAt hs k % denAt ts k = D at *
            generalize wAt hs k = h at *
            generalize numAt ts k = p at *
            generalize denAt ts k = q at *
            generalize itemAt ts k = it at *
            have g0 : (q == 0) = false := by simp; omega
            have g1 : ¬ q = 0 := by omega
            have g4 : IntKind.i64.wrap D = D := IntWalk.i64_in _ (by omega)
            go_wp2_with fail
            go_quiet (fail)
            have HO3 := Lib.hid (own_drewN HO2.out nq)
            have HB3 := Lib.hid (bel_drewN HB2.out nq)
            have hsz3 : W0.heap.size ≤ (wr.drewN nq).heap.size := hsz
            clear c1 c2 c3 d1 HO2 HB2 hsz
            generalize wr.drewN nq = W at *
            go_wp2_with (at_builtin; refine wpList_append_own_at _ rfl _ _ 22 rfl W0.heap.size 3 i0 (.int .i64 0) 1 8 Tryz.underlying22 hi hz0 hz1 hz2 rfl (by decide) _ k (ints (leftN ts hs k)) rfl (HO3.out.alloc _) ⟨W.heap.size, 0, none⟩ 1 1 [.int .i64 D] rfl rfl (new1 _ _ _) (one1 _) (by unfold maxLen; omega) (by omega) (by simp; omega) ?_)
            intro v' w1 hown' hgrow _ _
            have HB1 := Lib.hid ((HB3.out.alloc hsz3 _).grown hgrow (by simp; omega) (row_base HO3.out))
            have HO1 := Lib.hid hown'
            clear hown' hgrow
            go_wp2_with fail
            go_roundw
            case rel => exact ⟨k + 1, by omega, by go_num, by rw [leftN_next, ints_snoc, HLe.out]; exact HO1.out, HB1.out⟩
            case measure => simp [intOf]; omega
        · have hkm2 : k = m := by omega
          have hkl : k = ts.length := by have := Hlt.out; omega
          obtain ⟨A10, c10, hv10, hr10⟩ := row_of_owns HO2.out
          subst hv10
          have HF : Hid (ConvPost w ts n hs (.returned (.tuple #[.slice A9 n c9, .slice A10 k c10, .int .i64 0])) wr) := by
            have e1 : nowL ts n hs = nowK ts hs n m := by unfold nowL; rw [if_pos HE.out, ← Hlt.out]; rfl
            have e2 : leftL ts n hs = leftN ts hs k := by unfold leftL; rw [if_pos HE.out, ← hkl]; rfl
            refine ⟨A9, c9, A10, c10, ?_, ?_, ?_, HBB.out⟩
            · rw [e1, e2, HE.out]; simp [leftN]
            · rw [e1]; exact (HR9.out.below HB2.out).more HB2.out.size
            · rw [e2]; exact hr10
          clear hkl hkm2 hr10
          go_wp2_with fail
          go_ret3
          exact HF.out

end Go.Proofs.YthjfdfdgbpbanaaGreatDoor
