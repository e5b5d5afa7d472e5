/- The contract of the reference's Then. -/
import Derived.Test.YthjfdfdgbpbanaaGreatDoorA41
import Derived.Test.YthjfdfdgbpbanaaGreatDoorA36
namespace Go.Proofs.YthjfdfdgbpbanaaGreatDoor
open Go.RowKit

set_option maxRecDepth 100000 in
set_option maxHeartbeats 1000000 in
theorem rthen_bad {w : World} {A A' : Option Addr} {m m' : Nat} (c c' : Nat) {ts us : List Tr} (ht : TosV w A m ts) (hu : TosV w A' m' us) (hm : m ≤ 1000000) (hm' : m' ≤ 1000000) (hbad : thenArg ts us = false) :
    Calls Tryz.prog 31 #[.slice A m c, .slice A' m' c'] w (ThenPost w ts us) := by
  have HE := Lib.hid (thenE_bad hbad)
  have K1 := rvalid_any c m' ht hm
  rw [hu.len] at K1
  have K2 := rvalid_any c' 64 hu hm'
  cases hv : validB ts (us.length : Int)
  · rw [hv, ← hu.len] at K1
    have HK1 := Lib.hid K1
    clear hbad hv ht hu K1 K2
    go_enter Tryz.func31, Tryz.ntmps31
    go_wp2_with fail
    refine HK1.out.mono ?_
    rintro e w1 ⟨rfl, rfl⟩
    go_wp2
    go_ret2
    exact thenPost_err HE.out (by omega) (Below.refl _ _)
  · have hv2 : validB us 64 = false := by
      cases h2 : validB us 64
      · rfl
      · simp [thenArg, hv, h2] at hbad
    rw [hv, ← hu.len] at K1
    rw [hv2] at K2
    have HK1 := Lib.hid K1
    have HK2 := Lib.hid K2
    clear hbad hv hv2 ht hu K1 K2
    go_enter Tryz.func31, Tryz.ntmps31
    go_wp2_with fail
    refine HK1.out.mono ?_
    rintro e w1 ⟨rfl, rfl⟩
    go_wp2_with fail
    refine HK2.out.mono ?_
    rintro e w2 ⟨rfl, rfl⟩
    go_wp2
    go_ret2
    exact thenPost_err HE.out (by omega) (Below.refl _ _)

set_option maxRecDepth 100000 in
set_option maxHeartbeats 2000000 in
theorem rthen_good {w : World} {A A' : Option Addr} {m m' : Nat} (c c' : Nat) {ts us : List Tr} (ht : TosV w A m ts) (hu : TosV w A' m' us) (hm : m ≤ 1000000) (hm' : m' ≤ 1000000) (hgood : thenArg ts us = true) :
    Calls Tryz.prog 31 #[.slice A m c, .slice A' m' c'] w (ThenPost w ts us) := by
  obtain ⟨i0, hi, hz0, hz1, hz2⟩ := info_parts info68
  have hg := hgood
  simp only [thenArg, Bool.and_eq_true] at hg
  have K1 := rvalid_any c m' ht hm
  rw [hu.len, hg.1, ← hu.len] at K1
  have K2 := rvalid_any c' 64 hu hm'
  rw [hg.2] at K2
  have HK1 := Lib.hid K1
  have HK2 := Lib.hid K2
  have HT := Lib.hid ht
  have HU := Lib.hid hu
  have Hlt := Lib.hid ht.len
  have Hlu := Lib.hid hu.len
  have HG := Lib.hid hgood
  clear hgood hg ht hu K1 K2
  go_enter Tryz.func31, Tryz.ntmps31
  go_wp2_with fail
  refine HK1.out.mono ?_
  rintro e w1 ⟨rfl, rfl⟩
  go_wp2_with fail
  refine HK2.out.mono ?_
  rintro e w2 ⟨rfl, rfl⟩
  clear HK1 HK2
  go_wp2_with fail
  go_loopw [6, 7] (fun v i wr => ∃ k : Nat, k ≤ m ∧ i = .int .i64 k ∧ wr.ownsRow w.heap.size 68 3 v k (tcells (thenN ts us k)) ∧ Below w.heap.size w wr ∧ fatTo ts us k = false) (fun _ i _ => m - (intOf i).toNat)
  case atStart => exact ⟨0, Nat.zero_le _, rfl, World.ownsRow_nil _ _ _ _, Below.refl _ _, rfl⟩
  case round =>
    obtain ⟨k, hk, rfl, hown, hb, hF⟩ := hrel
    have HO := Lib.hid hown
    have HB := Lib.hid hb
    have HF := Lib.hid hF
    have hsz := hb.size
    clear hown hb hF
    by_cases hlt : k < m
    · have hkl : k < ts.length := by have := Hlt.out; omega
      obtain ⟨b, off, rfl, hbb, hc⟩ := (HT.out.below HB.out).row.at_ 0 (by rw [tcells_length]; omega)
      obtain ⟨t1, t2, t3⟩ := tcells_at ts k hkl
      have c1 := hc _ _ t1
      have c2 := hc _ _ t2
      have c3 := hc _ _ t3
      simp only [← Nat.add_assoc] at c2 c3
      have HS := Lib.hid (thenN_next ts us k)
      clear hc t1 t2 t3
      by_cases hneg : itemAt ts k < 0
      · have hl : liveB ts us k = false := by simp [liveB]; omega
        have ha : thenAt ts us k = (-1, 0, 0) := by simp [thenAt, hl]
        have HF2 : Hid (fatTo ts us (k + 1) = false) := by show fatTo ts us (k + 1) = false; simp [fatTo, HF.out, fatB, hl]
        rw [ha] at HS
        have e0 : decide (0 ≤ itemAt ts k) = false := decide_eq_false (by omega)
        clear hl ha hkl HF
        generalize itemAt ts k = i at *
        generalize numAt ts k = p at *
        generalize denAt ts k = q at *
        go_wp2_with (at_builtin; refine wpList_append_own_at _ rfl _ _ 39 rfl w.heap.size 68 i0 (.agg #[.int .i64 0, .int .i64 0, .int .i64 0]) 3 24 Tryz.underlying39 hi hz0 hz1 hz2 rfl (by decide) _ k (tcells (thenN ts us k)) rfl ((HO.out.alloc _).alloc _) ⟨wr.heap.size + 1, 0, none⟩ 1 1 [.int .i64 (-1), .int .i64 0, .int .i64 0] rfl rfl ?c1 (one3 _ _ _) ?c3 ?c4 ?c5 ?_)
        case c1 => simpa using new3 (wr.alloc (.cells #[.int .i64 (-1), .int .i64 0, .int .i64 0] 68)) 68 (.int .i64 (-1)) (.int .i64 0) (.int .i64 0)
        case c3 => unfold maxLen; omega
        case c4 => omega
        case c5 => simp; omega
        intro v' w1 hown' hgrow _ _
        have hb1 : Below w.heap.size w w1 := ((HB.out.alloc hsz _).alloc (by simp; omega) _).grown hgrow (by simp; omega) (row_base HO.out)
        have HO1 := Lib.hid hown'
        clear hown' hgrow
        go_wp2_with fail
        go_roundw
        case rel => exact ⟨k + 1, by omega, by go_num, by rw [HS.out, tcells_snoc]; exact HO1.out, hb1, HF2.out⟩
        case measure => simp [intOf]; omega
      · obtain ⟨hmid, hit, hlive⟩ := live_facts HG.out hkl (show 0 ≤ itemAt ts k by omega)
        obtain ⟨b', off', rfl, hbb', hc'⟩ := (HU.out.below HB.out).row.at_ 0 (by rw [tcells_length]; omega)
        obtain ⟨t1, t2, t3⟩ := tcells_at us (midAt ts k) hmid
        have d1 := hc' _ _ t1
        have d2 := hc' _ _ t2
        have d3 := hc' _ _ t3
        simp only [← Nat.add_assoc] at d2 d3
        have hmm : midAt ts k < m' := by have := Hlu.out; omega
        rw [hit] at c1
        clear hc' t1 t2 t3
        have k0 : (0 : Int) ≤ (k : Int) := by omega
        have k1 : (k : Int) < (m : Int) := by omega
        by_cases hneg2 : itemAt us (midAt ts k) < 0
        · have hl : liveB ts us k = false := by simp [liveB]; omega
          have ha : thenAt ts us k = (-1, 0, 0) := by simp [thenAt, hl]
          have HF2 : Hid (fatTo ts us (k + 1) = false) := by show fatTo ts us (k + 1) = false; simp [fatTo, HF.out, fatB, hl]
          rw [ha] at HS
          have e0 : decide (0 ≤ itemAt us (midAt ts k)) = false := decide_eq_false (by omega)
          clear hl ha hkl HF hneg hit hlive hmid
          generalize midAt ts k = j at *
          generalize numAt ts k = p at *
          generalize denAt ts k = q at *
          generalize itemAt us j = i' at *
          generalize numAt us j = p' at *
          generalize denAt us j = q' at *
          have j0 : (0 : Int) ≤ (j : Int) := by omega
          have j1 : (j : Int) < (m' : Int) := by omega
          go_wp2_with (at_builtin; refine wpList_append_own_at _ rfl _ _ 39 rfl w.heap.size 68 i0 (.agg #[.int .i64 0, .int .i64 0, .int .i64 0]) 3 24 Tryz.underlying39 hi hz0 hz1 hz2 rfl (by decide) _ k (tcells (thenN ts us k)) rfl ((HO.out.alloc _).alloc _) ⟨wr.heap.size + 1, 0, none⟩ 1 1 [.int .i64 (-1), .int .i64 0, .int .i64 0] rfl rfl ?d1 (one3 _ _ _) ?d3 ?d4 ?d5 ?_)
          case d1 => simpa using new3 (wr.alloc (.cells #[.int .i64 (-1), .int .i64 0, .int .i64 0] 68)) 68 (.int .i64 (-1)) (.int .i64 0) (.int .i64 0)
          case d3 => unfold maxLen; omega
          case d4 => omega
          case d5 => simp; omega
          intro v' w1 hown' hgrow _ _
          have hb1 : Below w.heap.size w w1 := ((HB.out.alloc hsz _).alloc (by simp; omega) _).grown hgrow (by simp; omega) (row_base HO.out)
          have HO1 := Lib.hid hown'
          clear hown' hgrow
          go_wp2_with fail
          go_roundw
          case rel => exact ⟨k + 1, by omega, by go_num, by rw [HS.out, tcells_snoc]; exact HO1.out, hb1, HF2.out⟩
          case measure => simp [intOf]; omega
        · rcases hlive with hl | ⟨i0', i1', p0, p1, q0, q1, r0, r1, s0, s1⟩
          · omega
          have hl : liveB ts us k = true := by simp [liveB]; omega
          have hP := prod_bd2 p0 p1 r0 r1
          have hQ := prod_bd2 q0 q1 s0 s1
          have hgd := gcd_bd (q := denAt ts k * denAt us (midAt ts k)) hP.1
          have hq1 := quo_bd hP.1 hgd.1 (Int.gcd_dvd_left ..)
          have hq2 := quo_bd hQ.1 hgd.1 (Int.gcd_dvd_right ..)
          have ha : thenAt ts us k = (itemAt us (midAt ts k), pAt ts us k / gAt ts us k, qAt ts us k / gAt ts us k) := by simp [thenAt, hl]
          have hf : fatTo ts us (k + 1) = (decide (1048576 < pAt ts us k / gAt ts us k) || decide (1048576 < qAt ts us k / gAt ts us k)) := by simp [fatTo, HF.out, fatB, hl]
          have hE5 : fatTo ts us (k + 1) = true → thenE ts us = 5 := fun h => thenE_fat HG.out (fatTo_stays h _ (by omega))
          have ep : pAt ts us k = numAt ts k * numAt us (midAt ts k) := rfl
          have eq : qAt ts us k = denAt ts k * denAt us (midAt ts k) := rfl
          have eg : gAt ts us k = (Int.gcd (numAt ts k * numAt us (midAt ts k)) (denAt ts k * denAt us (midAt ts k)) : Int) := rfl
          rw [ep, eq, eg] at ha hf
          rw [ha] at HS
          have HFt := Lib.hid hf
          have HE5 := Lib.hid hE5
          have K63 := Lib.hid (fun W => rdivisor_any (numAt ts k * numAt us (midAt ts k)) (denAt ts k * denAt us (midAt ts k)) W hP.1 hQ.1 (by omega) (by omega))
          clear hl ha hf hE5 ep eq eg HF hkl hneg hit hmid
          generalize midAt ts k = j at *
          generalize numAt ts k = p at *
          generalize denAt ts k = q at *
          generalize itemAt us j = i' at *
          generalize numAt us j = p' at *
          generalize denAt us j = q' at *
          have htd1 : (p * p').tdiv (Int.gcd (p * p') (q * q') : Int) = p * p' / (Int.gcd (p * p') (q * q') : Int) := Int.tdiv_eq_ediv_of_nonneg (by omega)
          have htd2 : (q * q').tdiv (Int.gcd (p * p') (q * q') : Int) = q * q' / (Int.gcd (p * p') (q * q') : Int) := Int.tdiv_eq_ediv_of_nonneg (by omega)
          have g4 : IntKind.i64.wrap (p * p') = p * p' := IntWalk.i64_in _ (by omega)
          have g5 : IntKind.i64.wrap (q * q') = q * q' := IntWalk.i64_in _ (by omega)
          generalize (Int.gcd (p * p') (q * q') : Int) = G at *
          generalize hP1 : p * p' = P at *
          generalize hQ1 : q * q' = Q at *
          generalize P / G = z1 at *
          generalize Q / G = z2 at *
          have g0 : (G == 0) = false := by simp; omega
          have g1 : ¬ G = 0 := by omega
          have g6 : IntKind.i64.wrap z1 = z1 := IntWalk.i64_in _ (by omega)
          have g7 : IntKind.i64.wrap z2 = z2 := IntWalk.i64_in _ (by omega)
          have j0 : (0 : Int) ≤ (j : Int) := by omega
          have j1 : (j : Int) < (m' : Int) := by omega
          have HO2 := Lib.hid ((HO.out.alloc (.cells #[.int .i64 (-1), .int .i64 0, .int .i64 0] 68)).alloc (.cells #[.int .i64 i', .int .i64 p', .int .i64 q'] 68))
          have HB2 : Hid (Below w.heap.size w ((wr.alloc (.cells #[.int .i64 (-1), .int .i64 0, .int .i64 0] 68)).alloc (.cells #[.int .i64 i', .int .i64 p', .int .i64 q'] 68))) := (HB.out.alloc hsz _).alloc (by simp; omega) _
          have HX := Lib.hid ((Bk.new wr 68 [.int .i64 (-1), .int .i64 0, .int .i64 0]).alloc (.cells #[.int .i64 i', .int .i64 p', .int .i64 q'] 68))
          have HY := Lib.hid (Bk.new (wr.alloc (.cells #[.int .i64 (-1), .int .i64 0, .int .i64 0] 68)) 68 [.int .i64 i', .int .i64 p', .int .i64 q'])
          rw [World.size_alloc] at HY
          have c2' : ((wr.alloc (.cells #[.int .i64 (-1), .int .i64 0, .int .i64 0] 68)).alloc (.cells #[.int .i64 i', .int .i64 p', .int .i64 q'] 68)).cell? ⟨b, off + k * 3 + 1, none⟩ = some (.int .i64 p) := by
            rw [World.cell?_alloc_past _ _ _ (by simp; omega), World.cell?_alloc_past _ _ _ hbb]; exact c2
          have c3' : ((wr.alloc (.cells #[.int .i64 (-1), .int .i64 0, .int .i64 0] 68)).alloc (.cells #[.int .i64 i', .int .i64 p', .int .i64 q'] 68)).cell? ⟨b, off + k * 3 + 2, none⟩ = some (.int .i64 q) := by
            rw [World.cell?_alloc_past _ _ _ (by simp; omega), World.cell?_alloc_past _ _ _ hbb]; exact c3
          have hne : ∀ v, v = u6 → v.ownBlock ≠ some wr.heap.size := fun v e h => by
            subst e
            have := (HO.out.lt _ h).2
            omega
          have Hne := Lib.hid (hne _ rfl)
          clear HB HO hne
          go_wp2_with fail
          clear c1 c2 c3 d1 d2 d3
          generalize ((wr.alloc (.cells #[.int .i64 (-1), .int .i64 0, .int .i64 0] 68)).alloc (.cells #[.int .i64 i', .int .i64 p', .int .i64 q'] 68)) = V at *
          generalize wr.heap.size = gx at *
          have e1 : V.cell? ⟨gx + 1, 1, none⟩ = some (.int .i64 p') := HY.out.cell 1
          go_quiet (fail)
          have HO3 := Lib.hid (own_drewN HO2.out nq)
          have HB3 := Lib.hid (bel_drewN HB2.out nq)
          have HX3 := Lib.hid (HX.out.drewN nq)
          have HY3 := Lib.hid (HY.out.drewN nq)
          have c3'' : (V.drewN nq).cell? ⟨b, off + k * 3 + 2, none⟩ = some (.int .i64 q) := c3'
          clear e1 c2' c3' HX HY HO2 HB2 hP1 g4
          generalize V.drewN nq = V2 at *
          have e2 : V2.cell? ⟨gx + 1, 2, none⟩ = some (.int .i64 q') := HY3.out.cell 2
          go_wp2_with fail
          go_quiet (fail)
          have HO4 := Lib.hid (own_drewN HO3.out nq)
          have HB4 := Lib.hid (bel_drewN HB3.out nq)
          have HX4 := Lib.hid (HX3.out.drewN nq)
          have HY4 := Lib.hid (HY3.out.drewN nq)
          clear e2 c3'' HX3 HY3 HO3 HB3 hQ1 g5
          generalize V2.drewN nq = V3 at *
          go_wp2_with fail
          refine (K63.out _).mono ?_
          rintro e V4 ⟨rfl, hb3⟩
          have HO5 := Lib.hid (HO4.out.kept (grown_of_below hb3 (some gx)) (.inr Hne.out))
          have HX5 := Lib.hid (HX4.out.below hb3 HX4.out.lt)
          have HY5 := Lib.hid (HY4.out.below hb3 HY4.out.lt)
          have HB5 := Lib.hid (HB4.out.trans (hb3.mono HB4.out.size))
          clear HO4 HX4 HY4 HB4 hb3 K63
          have y0 : V4.cell? ⟨gx + 1, 0, none⟩ = some (.int .i64 i') := HY5.out.cell 0
          have n1 : V4.cell? ⟨gx, 0, none⟩ = some (.int .i64 (-1)) := HX5.out.cell 0
          have n2 : V4.cell? ⟨gx, 1, none⟩ = some (.int .i64 0) := HX5.out.cell 1
          have n3 : V4.cell? ⟨gx, 2, none⟩ = some (.int .i64 0) := HX5.out.cell 2
          go_wp2_with fail
          go_still_tail 9, (by kernel_rfl)
          change wpList _ _ _ _ _ V4.drew
          have HX6 := Lib.hid HX5.out.drew
          have HY6 := Lib.hid HY5.out.drew
          have HO6 := Lib.hid HO5.out.drew
          have HB6 := Lib.hid HB5.out.drew
          clear y0 n1 n2 n3 HX5 HY5 HO5 HB5
          generalize V4.drew = V5 at *
          have y0 : V5.cell? ⟨gx + 1, 0, none⟩ = some (.int .i64 i') := HY6.out.cell 0
          have n1 : V5.cell? ⟨gx, 0, none⟩ = some (.int .i64 (-1)) := HX6.out.cell 0
          have n2 : V5.cell? ⟨gx, 1, none⟩ = some (.int .i64 0) := HX6.out.cell 1
          have n3 : V5.cell? ⟨gx, 2, none⟩ = some (.int .i64 0) := HX6.out.cell 2
          have f1 : V5.frozen? ⟨gx, 0, none⟩ = false := HX6.out.frozen 0
          have f2 : V5.frozen? ⟨gx, 1, none⟩ = false := HX6.out.frozen 1
          have f3 : V5.frozen? ⟨gx, 2, none⟩ = false := HX6.out.frozen 2
          have lx : gx < V5.heap.size := HX6.out.lt
          go_wp2_with fail
          have HX7 := Lib.hid (((HX6.out.set 0 (.int .i64 i')).set 1 (.int .i64 z1)).set 2 (.int .i64 z2))
          have HO7 := Lib.hid (((HO6.out.kept (grown_setCell V5 gx 0 (.int .i64 i')) (.inr Hne.out)).kept (grown_setCell _ gx 1 (.int .i64 z1)) (.inr Hne.out)).kept (grown_setCell _ gx 2 (.int .i64 z2)) (.inr Hne.out))
          have HB7 : Hid (Below w.heap.size w (((V5.setCell ⟨gx, 0, none⟩ (.int .i64 i')).setCell ⟨gx, 1, none⟩ (.int .i64 z1)).setCell ⟨gx, 2, none⟩ (.int .i64 z2))) := ((HB6.out.setCell (by simp; omega) _).setCell (by simp; omega) _).setCell (by simp; omega) _
          clear y0 n1 n2 n3 f1 f2 f3 lx HX6 HY6 HO6 HB6 htd1 htd2 g0 g1 g6 g7
          generalize (((V5.setCell ⟨gx, 0, none⟩ (.int .i64 i')).setCell ⟨gx, 1, none⟩ (.int .i64 z1)).setCell ⟨gx, 2, none⟩ (.int .i64 z2)) = V6 at *
          have n1 : V6.cell? ⟨gx, 0, none⟩ = some (.int .i64 i') := HX7.out.cell 0
          have n2 : V6.cell? ⟨gx, 1, none⟩ = some (.int .i64 z1) := HX7.out.cell 1
          have n3 : V6.cell? ⟨gx, 2, none⟩ = some (.int .i64 z2) := HX7.out.cell 2
          have lx : gx < V6.heap.size := HX7.out.lt
          have K1 := factor_any V6 z1
          have K2 := factor_any V6 z2
          by_cases hb1 : 1048576 < z1
          · have HE := Lib.hid (HE5.out (by rw [HFt.out]; simp [hb1]))
            rw [decide_eq_false (show ¬ (1 ≤ z1 ∧ z1 ≤ 1048576) by omega)] at K1
            have HK1 := Lib.hid K1
            clear K1 K2
            go_wp2_with (go_at_call 48; refine HK1.out.mono ?_; rintro e w' ⟨rfl, rfl⟩)
            go_ret2
            exact thenPost_err HE.out (by omega) HB7.out
          rw [decide_eq_true (show (1 ≤ z1 ∧ z1 ≤ 1048576) by omega)] at K1
          have HK1 := Lib.hid K1
          by_cases hb2 : 1048576 < z2
          · have HE := Lib.hid (HE5.out (by rw [HFt.out]; simp [hb2]))
            rw [decide_eq_false (show ¬ (1 ≤ z2 ∧ z2 ≤ 1048576) by omega)] at K2
            have HK2 := Lib.hid K2
            clear K1 K2
            go_wp2_with fail
            refine HK1.out.mono ?_
            rintro e w' ⟨rfl, rfl⟩
            go_wp2_with fail
            refine HK2.out.mono ?_
            rintro e w' ⟨rfl, rfl⟩
            go_wp2_with fail
            go_ret2
            exact thenPost_err HE.out (by omega) HB7.out
          rw [decide_eq_true (show (1 ≤ z2 ∧ z2 ≤ 1048576) by omega)] at K2
          have HK2 := Lib.hid K2
          have HF2 : Hid (fatTo ts us (k + 1) = false) := by show fatTo ts us (k + 1) = false; rw [HFt.out]; simp; omega
          clear K1 K2
          go_wp2_with fail
          refine HK1.out.mono ?_
          rintro e w' ⟨rfl, rfl⟩
          go_wp2_with fail
          refine HK2.out.mono ?_
          rintro e w' ⟨rfl, rfl⟩
          have hsz6 := HB7.out.size
          go_wp2_with (at_builtin; refine wpList_append_own_at _ rfl _ _ 39 rfl w.heap.size 68 i0 (.agg #[.int .i64 0, .int .i64 0, .int .i64 0]) 3 24 Tryz.underlying39 hi hz0 hz1 hz2 rfl (by decide) _ k (tcells (thenN ts us k)) rfl (HO7.out.alloc _) ⟨V6.heap.size, 0, none⟩ 1 1 [.int .i64 i', .int .i64 z1, .int .i64 z2] rfl rfl (new3 _ _ _ _ _) (one3 _ _ _) ?f3 ?f4 ?f5 ?_)
          case f3 => unfold maxLen; omega
          case f4 => omega
          case f5 => simp; omega
          intro v' w1 hown' hgrow _ _
          have hb1 : Below w.heap.size w w1 := (HB7.out.alloc hsz6 _).grown hgrow (by simp; omega) (row_base HO7.out)
          have HO1 := Lib.hid hown'
          clear hown' hgrow
          go_wp2_with fail
          go_roundw
          case rel => exact ⟨k + 1, by omega, by go_num, by rw [HS.out, tcells_snoc]; exact HO1.out, hb1, HF2.out⟩
          case measure => simp [intOf]; omega
    · have hkm : k = m := by omega
      have hkl : k = ts.length := by have := Hlt.out; omega
      subst hkm
      obtain ⟨A9, c9, hv9, hr9⟩ := row_of_owns HO.out
      subst hv9
      have HP := Lib.hid (thenPost_ok (c := c9) HG.out (by rw [← hkl]; exact HF.out) hkl hr9 HB.out)
      clear hkl hr9
      go_wp2_with fail
      go_ret2
      exact HP.out

end Go.Proofs.YthjfdfdgbpbanaaGreatDoor
