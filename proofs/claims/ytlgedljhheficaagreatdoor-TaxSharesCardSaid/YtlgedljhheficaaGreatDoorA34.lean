/- The walk of TaxPeriods. -/
import Derived.Test.YtlgedljhheficaaGreatDoorA33
namespace Go.Proofs.YtlgedljhheficaaGreatDoor
open Go.RowKit

theorem row_of_owns1 {w' : World} {base n : Nat} {e : TypeId} {v : Value} {xs : List Value} (h : w'.ownsRow base e 1 v n xs) : ∃ A c, v = .slice A n c ∧ Row w' w'.heap.size A xs := by
  rcases h.2 with ⟨rfl, h0⟩ | ⟨g, cap, cur, hv, _, hg, _⟩
  · refine ⟨none, 0, by rw [h0], .inl ?_⟩
    have := h.1
    rw [h0] at this
    exact List.length_eq_zero_iff.1 (by simpa using this)
  · refine ⟨some ⟨g, 0, none⟩, cap, hv, .inr ⟨g, 0, rfl, (Array.getElem?_eq_some_iff.1 hg).1, fun j u hu => ?_⟩⟩
    subst hv
    rw [Nat.zero_add, h.cellAt j (by have := (List.getElem?_eq_some_iff.1 hu).1; have := h.1; omega)]
    exact hu

set_option maxRecDepth 100000 in
set_option maxHeartbeats 2000000 in
theorem periods_any {w : World} {A0 : Option Addr} {n0 : Nat} (c0 : Nat) {zs : List Int} (x : Int) {Ap : Option Addr} {np : Nat} (cp : Nat) {zp : List Int} {Ao : Option Addr} {no : Nat} (co : Nat) {zo : List Int}
    (h : IntsV w A0 n0 zs) (hp : IntsV w Ap np zp) (ho : IntsV w Ao no zo) (hT : Tab w) (x0 : -9223372036854775808 ≤ x) (x1 : x ≤ 9223372036854775807) :
    Calls Tryz.prog 6 #[.slice A0 n0 c0, .int .i64 x, .slice Ap np cp, .slice Ao no co] w fun e w' => e = .returned (.bool true) ∧ Below w.heap.size w w' := by
  have H := Lib.hid h
  have HP := Lib.hid hp
  have HO := Lib.hid ho
  have HT := Lib.hid hT
  clear h hp ho hT
  go_enter Tryz.func6, Tryz.ntmps6
  go_wp2_with fail
  (with_reducible refine (Tax_any c0 H.out).mono ?_)
  rintro e w1 ⟨v, rfl, hown, B1⟩
  obtain ⟨A, c, rfl, hrow⟩ := row_of_owns hown
  have hlen := taxOf_len zs
  have hv := taxOf_valid zs
  have hb0 : Below w1.heap.size w1 (w1.alloc (.cells #[.string sale, .slice A (taxOf zs).length c] 25)) := (Below.refl _ _).alloc (Nat.le_refl _) _
  have L1 : TaxAt (w1.alloc (.cells #[.string sale, .slice A (taxOf zs).length c] 25)) w1.heap.size sale A (taxOf zs).length c (taxOf zs) :=
    ⟨by simp, by simp, by simp, (hrow.below hb0).more hb0.size, rfl, by omega, plain_sale, (HT.out.below B1 HT.out.1).below hb0 (Nat.lt_of_lt_of_le HT.out.1 B1.size)⟩
  have B2 : Below w.heap.size w (w1.alloc (.cells #[.string sale, .slice A (taxOf zs).length c] 25)) := B1.alloc B1.size _
  have HL1 := Lib.hid L1
  have HB1 := Lib.hid B2
  have Hv := Lib.hid hv
  have hg0 : w.heap.size ≤ w1.heap.size := B1.size
  clear hown hrow hb0 L1 B2 hv H HT B1
  generalize taxOf zs = brs at *
  obtain ⟨n, hnb⟩ : ∃ n, brs.length = n := ⟨_, rfl⟩
  rw [hnb] at HL1 HB1 hlen ⊢
  clear hnb
  go_wp2_with fail
  (with_reducible refine (around_any x 50 _ x0 x1 (by omega) (by omega)).mono ?_)
  rintro e w' ⟨rfl, rfl⟩
  have p0 := around_lo x 50 (by omega)
  have p1 := around_hi x 50 (by omega)
  generalize around x 50 = q at *
  go_wp2_with fail
  obtain ⟨p, hp⟩ : ∃ p, 1 + q = p := ⟨_, rfl⟩
  rw [hp]
  have hp0 : 1 ≤ p := by omega
  have hp1 : p ≤ 50 := by omega
  clear hp p0 p1 x0 x1
  obtain ⟨W1, hW1⟩ : ∃ W1, w1.alloc (.cells #[.string sale, .slice A n c] 25) = W1 := ⟨_, rfl⟩
  rw [hW1] at HL1 HB1 ⊢
  clear hW1
  generalize w1.heap.size = g0 at *
  clear w1
  (with_reducible refine (New_good c p HL1.out.v Hv.out hp0 (by omega)).mono ?_)
  rintro e w2 ⟨ga, ba, Aa, ca, rfl, hma, hga, hba, hb⟩
  have HL2 := Lib.hid (HL1.out.below hb)
  have HB2 := Lib.hid (HB1.out.trans (hb.mono HB1.out.size))
  have HMA := Lib.hid hma
  have s1 : w.heap.size ≤ ba := Nat.le_trans HB1.out.size hba
  clear hb hma HL1 HB1 hba hga
  have a0 := HL2.out.c0
  have a1 := HL2.out.c1
  go_wp2_with fail
  (with_reducible refine (New_good c p HL2.out.v Hv.out hp0 (by omega)).mono ?_)
  rintro e w3 ⟨gb, bb, Ab, cb, rfl, hmb, hgb, hbb, hb⟩
  have HL3 := Lib.hid (HL2.out.below hb)
  have HB3 := Lib.hid (HB2.out.trans (hb.mono HB2.out.size))
  have HMB := Lib.hid hmb
  have HMA3 := Lib.hid (HMA.out.below hb)
  have hne : ba ≠ bb := by have := HMA.out.map.lt; omega
  have s2 : w.heap.size ≤ bb := by have := HB2.out.size; omega
  clear hb hmb HL2 HB2 HMA hbb hgb a0 a1
  obtain ⟨i0, hi, hz0, hz1, hz2⟩ := info_parts info3
  have HP3 := Lib.hid (HP.out.below HB3.out)
  have HO3 := Lib.hid (HO.out.below HB3.out)
  clear HP HO
  have hnp := HP3.out.len
  have hl8 := listOf_len zp
  have hle : (listOf zp).length = 8 ∨ (listOf zp).length = np := by rw [hnp]; simp [listOf]; omega
  rw [← hnp] at hl8
  have HNP := Lib.hid hnp
  clear hnp
  obtain ⟨m, hm⟩ : ∃ m, (listOf zp).length = m := ⟨_, rfl⟩
  rw [hm] at hl8 hle
  have Hm := Lib.hid hm
  clear hm
  go_wp2_with fail
  go_loopw [18, 19] (fun v i wr => ∃ (k : Nat), i = .int .i64 k ∧ k ≤ m ∧ wr.ownsRow w3.heap.size 3 1 v k (ints ((listOf zp).take k)) ∧ Below w3.heap.size w3 wr) (fun _ i _ => 9 - (intOf i).toNat)
  case atStart => exact ⟨0, rfl, Nat.zero_le _, World.ownsRow_nil _ _ _ _, Below.refl _ _⟩
  case round =>
    obtain ⟨k, rfl, hk, hown, hb⟩ := hrel
    by_cases hlt : k < m
    · obtain ⟨b, off, rfl, hbb, hcells⟩ := (HP3.out.below hb).row.at_ k (by rw [ints_length, ← HNP.out]; omega)
      have hcell := hcells k _ (ints_at zp k (by rw [← HNP.out]; omega))
      have hz := HP3.out.wf.at_ k
      have hval : Hid ((listOf zp)[k]?.getD 0 = around (zp[k]?.getD 0) 3000) := listOf_at zp k (by rw [Hm.out]; exact hlt)
      generalize zp[k]?.getD 0 = z at *
      obtain ⟨A', c', rfl, _⟩ := row_of_owns1 hown
      have HOw := Lib.hid hown
      have HBw := Lib.hid hb
      have hsz := hb.size
      clear hown hb hcells
      have hk1 : k < np := by omega
      have hk2 : k < 8 := by omega
      go_wp2_with fail
      (with_reducible refine (around_any z 3000 _ hz.1 hz.2 (by omega) (by omega)).mono ?_)
      rintro e w' ⟨rfl, rfl⟩
      generalize around z 3000 = y at *
      go_wp2_with (at_builtin; refine wpList_append_own_at _ rfl _ _ 22 rfl w3.heap.size 3 i0 (.int .i64 0) 1 8 Tryz.underlying22 hi hz0 hz1 hz2 rfl (by decide) _ k (ints ((listOf zp).take k)) rfl (HOw.out.alloc _) ⟨wr.heap.size, 0, none⟩ 1 1 [.int .i64 y] rfl rfl (cell_one_new _ _ _) ?c2a ?c3a ?c4a ?c5a ?_)
      case c2a =>
        intro u hu
        simp only [List.mem_cons, List.not_mem_nil, or_false] at hu
        subst hu; rfl
      case c3a => unfold maxLen; omega
      case c4a => omega
      case c5a => simp; omega
      intro v' w1 hown' hgrow _ _
      have hB1 : Below w3.heap.size w3 w1 := (HBw.out.alloc hsz _).grown hgrow (by simp; omega) (fun j e => row_base HOw.out j e)
      have hown2 : w1.ownsRow w3.heap.size 3 1 v' (k + 1) (ints ((listOf zp).take (k + 1))) := by
        have e1 : ints ((listOf zp).take (k + 1)) = ints ((listOf zp).take k) ++ [.int .i64 y] := by
          have hkm : k < (listOf zp).length := by rw [Hm.out]; exact hlt
          rw [List.take_add_one]
          have := hval.out
          simp [hkm] at this
          simp [ints, hkm, this]
        rw [e1]
        exact hown'
      have HO2 := Lib.hid hown2
      have HB2 := Lib.hid hB1
      clear hown' hgrow hown2 hB1
      obtain ⟨u', hu⟩ : ∃ u', v' = u' := ⟨_, rfl⟩
      rw [hu] at HO2 ⊢
      go_wp2
      go_roundw
      case rel => exact ⟨k + 1, by go_num, by omega, HO2.out, HB2.out⟩
      case measure => simp [intOf]; omega
    · have hkm : k = m := by omega
      subst hkm
      by_cases hkn : k < np
      · have hk8' : ¬ k < 8 := by omega
        have hk88 : k ≤ 8 := by omega
        clear hlt
        obtain ⟨A', c', rfl, hrowL⟩ := row_of_owns1 hown
        have htk : (listOf zp).take k = listOf zp := List.take_of_length_le (by rw [Hm.out]; omega)
        have hlist : IntsV wr A' k (listOf zp) := ⟨by rw [htk] at hrowL; exact hrowL, Hm.out.symm, fun z hz => by have := listOf_bd zp z hz; omega⟩
        have hPS : PS wr g0 A n c brs p ga ba Aa ca 0 (fun _ => none) gb bb Ab cb 0 (fun _ => none) A' k (listOf zp) Ao no zo := ⟨HL3.out.below (hb.mono (Nat.le_refl _)), HMA3.out.below hb, HMB.out.below hb, hlist, HO3.out.below hb, hne⟩
        have hB0 : Below w.heap.size w wr := HB3.out.trans (hb.mono HB3.out.size)
        have hLb := listOf_bd zp
        have HLb := Lib.hid hLb
        have HPS := Lib.hid hPS
        have HB0 := Lib.hid hB0
        have hLl := Hm.out
        generalize listOf zp = L at *
        have HLl := Lib.hid hLl
        clear hown hrowL htk hlist hPS hb hB0 hLb Hm hLl HL3 HMA3 HMB HP3 HO3 HB3 HNP
        go_wp2_with fail
        go_loopw [15, 16, 17, 20] (fun one two sum i w2 => ∃ (j : Nat) (Ma Mb : Int → Option (Int × Int)), i = .int .i64 j ∧ j ≤ k ∧ one = .int .i64 (due brs (psumTo L j)) ∧ two = .int .i64 (due brs (psumTo L.reverse j)) ∧ sum = .int .i64 (psumTo L j) ∧
            PS w2 g0 A n c brs p ga ba Aa ca (2 * j) Ma gb bb Ab cb j Mb A' k L Ao no zo ∧ Acc1 Ma j (psumTo L j) ∧ Acc2 p Ma j ∧ Acc1 Mb j (psumTo L.reverse j) ∧ Below w.heap.size w w2) (fun _ _ _ i _ => 9 - (intOf i).toNat)
        case atStart =>
          have hz := due_zero (good_of_valid Hv.out)
          exact ⟨0, _, _, rfl, Nat.zero_le _, by rw [show psumTo L 0 = 0 from rfl, hz], by rw [show psumTo L.reverse 0 = 0 from by simp [psumTo, psum], hz], rfl, HPS.out, .inl ⟨rfl, rfl, rfl⟩, ⟨by simp, by simp, by simp⟩, .inl ⟨rfl, rfl, by simp [psumTo, psum]⟩, HB0.out⟩
        case round =>
          obtain ⟨j, Ma, Mb, rfl, hj, rfl, rfl, rfl, hps, hA1, hA2, hB1, hbw⟩ := hrel
          have HG := Lib.hid (good_of_valid Hv.out)
          have sb := psumTo_bd L HLb.out j (by rw [HLl.out]; exact hj)
          have rb := psumTo_bd L.reverse (fun x hx => HLb.out x (List.mem_reverse.1 hx)) j (by rw [List.length_reverse, HLl.out]; exact hj)
          have db := due_self HG.out sb.1
          have eb := due_self HG.out rb.1
          by_cases hlt2 : j < k
          · have hjL : j < L.length := by rw [HLl.out]; exact hlt2
            have HS1 := Lib.hid (psumTo_succ L j hjL)
            have HR1 := Lib.hid (psumTo_succ L.reverse j (by rw [List.length_reverse]; exact hjL))
            have hy1 := HLb.out (L[j]'hjL) (List.getElem_mem _)
            have hrL : L.length - 1 - j < L.length := by omega
            have hy2 := HLb.out (L[L.length - 1 - j]'hrL) (List.getElem_mem _)
            have ey1 : L[j]?.getD 0 = L[j]'hjL := by simp [hjL]
            have ey2 : L.reverse[j]?.getD 0 = L[L.length - 1 - j]'hrL := by rw [rev_at L j hjL]; simp [hrL]
            obtain ⟨bL, oL, rfl, _, hcL⟩ := hps.list.row.at_ j (by rw [ints_length]; exact hjL)
            have cell1 := hcL j _ (ints_at L j hjL)
            have cell2 := hcL (L.length - 1 - j) _ (ints_at L (L.length - 1 - j) hrL)
            rw [← rev_at L j hjL] at cell2
            rw [← ey1] at hy1
            rw [← ey2] at hy2
            clear ey1 ey2 hcL
            rw [HLl.out] at cell2
            obtain ⟨r, hr⟩ : ∃ r : Nat, k - 1 - j = r := ⟨_, rfl⟩
            rw [hr] at cell2
            have hr1 : (k : Int) - 1 - (j : Int) = (r : Int) := by omega
            have hr2 : r < k := by omega
            clear hr hrL hjL
            generalize L[j]?.getD 0 = y1 at *
            generalize L.reverse[j]?.getD 0 = y2 at *
            generalize hS : psumTo L j = S at *
            generalize hR : psumTo L.reverse j = R at *
            clear hS hR
            have db' := due_self HG.out (show 0 ≤ S + y1 by omega)
            have eb' := due_self HG.out (show 0 ≤ R + y2 by omega)
            have HQ1 := Lib.hid (fun W (hW : IntsV W Ao no zo) => hW.pick co (j : Int) p (by omega) (by omega) (by omega) (by omega))
            have HQ2 := Lib.hid (fun W (hW : IntsV W Ao no zo) => hW.pick co ((j : Int) + 1) p (by omega) (by omega) (by omega) (by omega))
            have HQ3 := Lib.hid (fun W (hW : IntsV W Ao no zo) => hW.pick co (j : Int) 1000 (by omega) (by omega) (by omega) (by omega))
            have q10 := pick_lo zo (j : Int) p (by omega)
            have q11 := pick_hi zo (j : Int) p (by omega)
            have q20 := pick_lo zo ((j : Int) + 1) p (by omega)
            have q21 := pick_hi zo ((j : Int) + 1) p (by omega)
            have q30 := pick_lo zo (j : Int) 1000 (by omega)
            have q31 := pick_hi zo (j : Int) 1000 (by omega)
            generalize pick zo (j : Int) p = q1 at *
            generalize pick zo ((j : Int) + 1) p = q2 at *
            generalize pick zo (j : Int) 1000 = q3 at *
            have f1 := per_one hp0 q10 q11
            have f2 := per_one hp0 q20 q21
            have ch1 := charge_ok Hv.out (M := Ma) (p := p) (a := 1) (s := y1) (t := p + q1) (S := S) (argsB_of (by omega) (by omega) (by omega) (by omega)) (by rw [f1]; exact hA1.first) (hA1.sum (by omega) f1) sb.1 hy1.1 (by omega)
            have ch2 := charge_ok Hv.out (M := Mb) (p := p) (a := 1) (s := y2) (t := p + q2) (S := R) (argsB_of (by omega) (by omega) (by omega) (by omega)) (by rw [f2]; exact hB1.first) (hB1.sum (by omega) f2) rb.1 hy2.1 (by omega)
            rw [f1] at ch1
            rw [f2] at ch2
            have hA2' := hA2.other (1, S + y1)
            have sm3 := hA2'.sum (p := p) (3 * (j : Int))
            have ch3 := charge_ok Hv.out (M := upd Ma 1 (1, S + y1)) (p := p) (a := 2) (s := q3) (t := 3 * (j : Int)) (S := sumM p (upd Ma 1 (1, S + y1)) 2 (3 * (j : Int))) (argsB_of (by omega) (by omega) (by omega) (by omega)) (hA2'.late hp0) rfl sm3.1 q30 (by omega)
            have hacc1 := (Acc1.charged (M := Ma) (k := j) (S := S) y1).other (3 * (j : Int) / p, sumM p (upd Ma 1 (1, S + y1)) 2 (3 * (j : Int)) + q3)
            have hacc2 := Acc2.charged (M := upd Ma 1 (1, S + y1)) (k := j) hp0 (s := sumM p (upd Ma 1 (1, S + y1)) 2 (3 * (j : Int)) + q3) (by omega) (by omega)
            have hacc3 := Acc1.charged (M := Mb) (k := j) (S := R) y2
            generalize sumM p (upd Ma 1 (1, S + y1)) 2 (3 * (j : Int)) = s3 at *
            have CH1 := Lib.hid ch1
            have CH2 := Lib.hid ch2
            have CH3 := Lib.hid ch3
            have HA1 := Lib.hid hacc1
            have HA2 := Lib.hid hacc2
            have HA3 := Lib.hid hacc3
            have HPS2 := Lib.hid hps
            have HBW := Lib.hid hbw
            clear ch1 ch2 ch3 hacc1 hacc2 hacc3 hps hbw hA1 hA2 hB1 hA2' f1 f2 sm3
            have hdr : PS wr.drew g0 A n c brs p ga ba Aa ca (2 * j) Ma gb bb Ab cb j Mb (some ⟨bL, oL, none⟩) k L Ao no zo := HPS2.out.below (Below.refl _ _).drew
            have hK1 := (charge_any 1 y1 (p + q1) hdr.a ⟨by omega, by omega⟩ ⟨by omega, by omega⟩ (by omega))
            unfold ChargePost at hK1
            rw [CH1.out.1, CH1.out.2] at hK1
            dsimp only at hK1
            have K1 := Lib.hid hK1
            have HD1 := Lib.hid hdr
            have cd : wr.drew.cell? ⟨bL, oL + j, none⟩ = some (.int .i64 y1) := cell1
            have CD1 := Lib.hid cd
            have CD2 := Lib.hid (show wr.drew.cell? ⟨bL, oL + r, none⟩ = some (.int .i64 y2) from cell2)
            clear hK1 hdr cd CH1
            generalize due brs S = dS at *
            generalize hdS1 : due brs (S + y1) = dS1 at *
            generalize due brs R = dR at *
            generalize hdR1 : due brs (R + y2) = dR1 at *
            have HdS := Lib.hid hdS1
            have HdR := Lib.hid hdR1
            clear hdS1 hdR1
            have aw1 : IntKind.i64.wrap (p + q1) = p + q1 := IntWalk.i64_in _ (by omega)
            have aw2 : IntKind.i64.wrap (p + q2) = p + q2 := IntWalk.i64_in _ (by omega)
            have aw3 : IntKind.i64.wrap ((k : Int) - 1) = (k : Int) - 1 := IntWalk.i64_in _ (by omega)
            have aw4 : IntKind.i64.wrap ((k : Int) - 1 - (j : Int)) = (r : Int) := (IntWalk.i64_in _ (by omega)).trans hr1
            have aw5 : IntKind.i64.wrap ((j : Int) + 1) = (j : Int) + 1 := IntWalk.i64_in _ (by omega)
            have aw6 : IntKind.i64.wrap (r : Int) = (r : Int) := IntWalk.i64_in _ (by omega)
            clear cell2
            go_wp2_with fail
            go_region_held3 (fun w' => w'.cell? ⟨bL, oL + j, none⟩ = some (.int .i64 y1)) (first | exact CD1.out | exact cell_grown HD1.out.a.map hg1 CD1.out) (first | (go_at_call 27; (with_reducible refine (HQ1.out _ HD1.out.oth).mono ?_); rintro e w' ⟨rfl, rfl⟩) | (go_at_call 26; (with_reducible refine K1.out.mono ?_); rintro e wa ⟨rfl, hm1, hg1⟩))
            have hda := HD1.out.chargeA hm1 hg1
            have hBa : Below w.heap.size w wa := (HBW.out.drew).grown hg1 (HBW.out.size) (fun k e => by cases e; exact s1)
            have cda : wa.drew.cell? ⟨bL, oL + r, none⟩ = some (.int .i64 y2) := cell_grown HD1.out.a.map hg1 CD2.out
            have hdb : PS wa.drew g0 A n c brs p ga ba Aa ca (2 * j + 1) (upd Ma 1 (1, S + y1)) gb bb Ab cb j Mb (some ⟨bL, oL, none⟩) k L Ao no zo := hda.below (Below.refl _ _).drew
            have hK2 := (charge_any 1 y2 (p + q2) hdb.b ⟨by omega, by omega⟩ ⟨by omega, by omega⟩ (by omega))
            unfold ChargePost at hK2
            rw [CH2.out.1, CH2.out.2] at hK2
            dsimp only at hK2
            have K2 := Lib.hid hK2
            have HD2 := Lib.hid hdb
            have HBA := Lib.hid hBa
            have CDA := Lib.hid cda
            clear hda hBa cda hdb hK2 hm1 hg1 HD1 K1 CD1 CD2 HPS2 HBW cell1 CH2
            go_wp2_with fail
            go_region_held3 (fun w' => w'.cell? ⟨bL, oL + r, none⟩ = some (.int .i64 y2)) (first | exact CDA.out | exact cell_grown HD2.out.b.map hg2 CDA.out) (first | (go_at_call 27; (with_reducible refine (HQ2.out _ HD2.out.oth).mono ?_); rintro e w' ⟨rfl, rfl⟩) | (go_at_call 26; (with_reducible refine K2.out.mono ?_); rintro e wb ⟨rfl, hm2, hg2⟩))
            have hdb := HD2.out.chargeB hm2 hg2
            have hBb : Below w.heap.size w wb := (HBA.out.drew).grown hg2 (HBA.out.size) (fun k e => by cases e; exact s2)
            have hK3 := (charge_any 2 q3 (3 * (j : Int)) hdb.a ⟨by omega, by omega⟩ ⟨by omega, by omega⟩ (by omega))
            unfold ChargePost at hK3
            rw [CH3.out.1, CH3.out.2] at hK3
            dsimp only at hK3
            have K3 := Lib.hid hK3
            have HD3 := Lib.hid hdb
            have HBB := Lib.hid hBb
            clear hdb hBb hK3 hm2 hg2 HD2 K2 CDA HBA CH3 aw1 aw2 aw3 aw4 aw5 aw6
            go_wp2_with fail
            (with_reducible refine (HQ3.out _ HD3.out.oth).mono ?_)
            rintro e w' ⟨rfl, rfl⟩
            go_wp2_with fail
            (with_reducible refine K3.out.mono ?_)
            rintro e wc ⟨rfl, hm3, hg3⟩
            have hdc := HD3.out.chargeA hm3 hg3
            have hBc : Below w.heap.size w wc := HBB.out.grown hg3 HBB.out.size (fun k e => by cases e; exact s1)
            have HDC := Lib.hid hdc
            have HBC := Lib.hid hBc
            clear hdc hBc hm3 hg3 HD3 HBB K3 HQ1 HQ2 HQ3
            go_wp2
            go_roundw
            case rel => exact ⟨j + 1, _, _, by go_num, by omega, by rw [HS1.out, HdS.out]; go_num, by rw [HR1.out, HdR.out]; go_num, by rw [HS1.out], HDC.out, by rw [HS1.out]; exact HA1.out, HA2.out, by rw [HR1.out]; exact HA3.out, HBC.out⟩
            case measure => simp [intOf]; omega
          · have hjk : j = k := by omega
            subst hjk
            have hrev : psumTo L.reverse j = psumTo L j := by
              have e1 := psumTo_all L
              have e2 := psumTo_all L.reverse
              rw [List.length_reverse, psum_reverse] at e2
              rw [HLl.out] at e1 e2
              rw [e1, e2]
            rw [hrev]
            rw [hrev] at hB1 rb eb
            have HDU := Lib.hid (dueR_in Hv.out sb.1 (by omega))
            have pp : p / p = 1 := Int.ediv_self (by omega)
            have p2 : 2 * p / p = 2 := Int.mul_ediv_cancel _ (by omega)
            have z0 : (0 : Int) / p = 0 := Int.zero_ediv p
            have HS1 := Lib.hid (hA1.sum (p := p) (t := p) (by omega) pp)
            have HS2 := Lib.hid (hA1.away (p := p) (t := 0) (by omega))
            have HS3 := Lib.hid (hA1.away (p := p) (t := 2 * p) (by omega))
            have HPS2 := Lib.hid hps
            have HBW := Lib.hid hbw
            have a0 := hps.box.c0
            have a1 := hps.box.c1
            clear hps hbw hA1 hA2 hB1 pp p2 z0 hrev rb eb
            generalize psumTo L j = S at *
            generalize due brs S = dS at *
            go_wp2_with fail
            (with_reducible refine (Due_any c S HPS2.out.box.v).mono ?_)
            rintro e v1 ⟨rfl, hb⟩
            rw [HDU.out]
            have P1 := Lib.hid (HPS2.out.below hb)
            have G1 := Lib.hid (HBW.out.trans (hb.mono HBW.out.size))
            clear hb HDU a0 a1 HPS2 HBW
            go_wp2_with fail
            (with_reducible refine (sumM_any 1 p P1.out.a (in64 (by omega) (by omega)) (in64 (by omega) (by omega))).mono ?_)
            rintro e v2 ⟨rfl, hb⟩
            rw [HS1.out]
            have P2 := Lib.hid (P1.out.below hb)
            have G2 := Lib.hid (G1.out.trans (hb.mono G1.out.size))
            clear hb P1 G1
            go_wp2_with fail
            (with_reducible refine (sumM_any 1 0 P2.out.a (in64 (by omega) (by omega)) (in64 (by omega) (by omega))).mono ?_)
            rintro e v3 ⟨rfl, hb⟩
            rw [HS2.out]
            have P3 := Lib.hid (P2.out.below hb)
            have G3 := Lib.hid (G2.out.trans (hb.mono G2.out.size))
            clear hb P2 G2
            go_wp2_with fail
            (with_reducible refine (sumM_any 1 (2 * p) P3.out.a (in64 (by omega) (by omega)) (in64 (by omega) (by omega))).mono ?_)
            rintro e v4 ⟨rfl, hb⟩
            rw [HS3.out]
            have P4 := Lib.hid (P3.out.below hb)
            have G4 := Lib.hid (G3.out.trans (hb.mono G3.out.size))
            clear hb P3 G3
            go_wp2_with fail
            (with_reducible refine (lives_any v4 P4.out.box.tab).mono ?_)
            rintro e v5 ⟨rfl, hb⟩
            have G5 := G4.out.trans (hb.mono G4.out.size)
            go_wp2
            go_ret
            exact ⟨rfl, G5⟩
      · have hk88 : k ≤ 8 := by omega
        clear hlt
        obtain ⟨A', c', rfl, hrowL⟩ := row_of_owns1 hown
        have htk : (listOf zp).take k = listOf zp := List.take_of_length_le (by rw [Hm.out]; omega)
        have hlist : IntsV wr A' k (listOf zp) := ⟨by rw [htk] at hrowL; exact hrowL, Hm.out.symm, fun z hz => by have := listOf_bd zp z hz; omega⟩
        have hPS : PS wr g0 A n c brs p ga ba Aa ca 0 (fun _ => none) gb bb Ab cb 0 (fun _ => none) A' k (listOf zp) Ao no zo := ⟨HL3.out.below (hb.mono (Nat.le_refl _)), HMA3.out.below hb, HMB.out.below hb, hlist, HO3.out.below hb, hne⟩
        have hB0 : Below w.heap.size w wr := HB3.out.trans (hb.mono HB3.out.size)
        have hLb := listOf_bd zp
        have HLb := Lib.hid hLb
        have HPS := Lib.hid hPS
        have HB0 := Lib.hid hB0
        have hLl := Hm.out
        generalize listOf zp = L at *
        have HLl := Lib.hid hLl
        clear hown hrowL htk hlist hPS hb hB0 hLb Hm hLl HL3 HMA3 HMB HP3 HO3 HB3 HNP
        go_wp2_with fail
        go_loopw [15, 16, 17, 20] (fun one two sum i w2 => ∃ (j : Nat) (Ma Mb : Int → Option (Int × Int)), i = .int .i64 j ∧ j ≤ k ∧ one = .int .i64 (due brs (psumTo L j)) ∧ two = .int .i64 (due brs (psumTo L.reverse j)) ∧ sum = .int .i64 (psumTo L j) ∧
            PS w2 g0 A n c brs p ga ba Aa ca (2 * j) Ma gb bb Ab cb j Mb A' k L Ao no zo ∧ Acc1 Ma j (psumTo L j) ∧ Acc2 p Ma j ∧ Acc1 Mb j (psumTo L.reverse j) ∧ Below w.heap.size w w2) (fun _ _ _ i _ => 9 - (intOf i).toNat)
        case atStart =>
          have hz := due_zero (good_of_valid Hv.out)
          exact ⟨0, _, _, rfl, Nat.zero_le _, by rw [show psumTo L 0 = 0 from rfl, hz], by rw [show psumTo L.reverse 0 = 0 from by simp [psumTo, psum], hz], rfl, HPS.out, .inl ⟨rfl, rfl, rfl⟩, ⟨by simp, by simp, by simp⟩, .inl ⟨rfl, rfl, by simp [psumTo, psum]⟩, HB0.out⟩
        case round =>
          obtain ⟨j, Ma, Mb, rfl, hj, rfl, rfl, rfl, hps, hA1, hA2, hB1, hbw⟩ := hrel
          have HG := Lib.hid (good_of_valid Hv.out)
          have sb := psumTo_bd L HLb.out j (by rw [HLl.out]; exact hj)
          have rb := psumTo_bd L.reverse (fun x hx => HLb.out x (List.mem_reverse.1 hx)) j (by rw [List.length_reverse, HLl.out]; exact hj)
          have db := due_self HG.out sb.1
          have eb := due_self HG.out rb.1
          by_cases hlt2 : j < k
          · have hjL : j < L.length := by rw [HLl.out]; exact hlt2
            have HS1 := Lib.hid (psumTo_succ L j hjL)
            have HR1 := Lib.hid (psumTo_succ L.reverse j (by rw [List.length_reverse]; exact hjL))
            have hy1 := HLb.out (L[j]'hjL) (List.getElem_mem _)
            have hrL : L.length - 1 - j < L.length := by omega
            have hy2 := HLb.out (L[L.length - 1 - j]'hrL) (List.getElem_mem _)
            have ey1 : L[j]?.getD 0 = L[j]'hjL := by simp [hjL]
            have ey2 : L.reverse[j]?.getD 0 = L[L.length - 1 - j]'hrL := by rw [rev_at L j hjL]; simp [hrL]
            obtain ⟨bL, oL, rfl, _, hcL⟩ := hps.list.row.at_ j (by rw [ints_length]; exact hjL)
            have cell1 := hcL j _ (ints_at L j hjL)
            have cell2 := hcL (L.length - 1 - j) _ (ints_at L (L.length - 1 - j) hrL)
            rw [← rev_at L j hjL] at cell2
            rw [← ey1] at hy1
            rw [← ey2] at hy2
            clear ey1 ey2 hcL
            rw [HLl.out] at cell2
            obtain ⟨r, hr⟩ : ∃ r : Nat, k - 1 - j = r := ⟨_, rfl⟩
            rw [hr] at cell2
            have hr1 : (k : Int) - 1 - (j : Int) = (r : Int) := by omega
            have hr2 : r < k := by omega
            clear hr hrL hjL
            generalize L[j]?.getD 0 = y1 at *
            generalize L.reverse[j]?.getD 0 = y2 at *
            generalize hS : psumTo L j = S at *
            generalize hR : psumTo L.reverse j = R at *
            clear hS hR
            have db' := due_self HG.out (show 0 ≤ S + y1 by omega)
            have eb' := due_self HG.out (show 0 ≤ R + y2 by omega)
            have HQ1 := Lib.hid (fun W (hW : IntsV W Ao no zo) => hW.pick co (j : Int) p (by omega) (by omega) (by omega) (by omega))
            have HQ2 := Lib.hid (fun W (hW : IntsV W Ao no zo) => hW.pick co ((j : Int) + 1) p (by omega) (by omega) (by omega) (by omega))
            have HQ3 := Lib.hid (fun W (hW : IntsV W Ao no zo) => hW.pick co (j : Int) 1000 (by omega) (by omega) (by omega) (by omega))
            have q10 := pick_lo zo (j : Int) p (by omega)
            have q11 := pick_hi zo (j : Int) p (by omega)
            have q20 := pick_lo zo ((j : Int) + 1) p (by omega)
            have q21 := pick_hi zo ((j : Int) + 1) p (by omega)
            have q30 := pick_lo zo (j : Int) 1000 (by omega)
            have q31 := pick_hi zo (j : Int) 1000 (by omega)
            generalize pick zo (j : Int) p = q1 at *
            generalize pick zo ((j : Int) + 1) p = q2 at *
            generalize pick zo (j : Int) 1000 = q3 at *
            have f1 := per_one hp0 q10 q11
            have f2 := per_one hp0 q20 q21
            have ch1 := charge_ok Hv.out (M := Ma) (p := p) (a := 1) (s := y1) (t := p + q1) (S := S) (argsB_of (by omega) (by omega) (by omega) (by omega)) (by rw [f1]; exact hA1.first) (hA1.sum (by omega) f1) sb.1 hy1.1 (by omega)
            have ch2 := charge_ok Hv.out (M := Mb) (p := p) (a := 1) (s := y2) (t := p + q2) (S := R) (argsB_of (by omega) (by omega) (by omega) (by omega)) (by rw [f2]; exact hB1.first) (hB1.sum (by omega) f2) rb.1 hy2.1 (by omega)
            rw [f1] at ch1
            rw [f2] at ch2
            have hA2' := hA2.other (1, S + y1)
            have sm3 := hA2'.sum (p := p) (3 * (j : Int))
            have ch3 := charge_ok Hv.out (M := upd Ma 1 (1, S + y1)) (p := p) (a := 2) (s := q3) (t := 3 * (j : Int)) (S := sumM p (upd Ma 1 (1, S + y1)) 2 (3 * (j : Int))) (argsB_of (by omega) (by omega) (by omega) (by omega)) (hA2'.late hp0) rfl sm3.1 q30 (by omega)
            have hacc1 := (Acc1.charged (M := Ma) (k := j) (S := S) y1).other (3 * (j : Int) / p, sumM p (upd Ma 1 (1, S + y1)) 2 (3 * (j : Int)) + q3)
            have hacc2 := Acc2.charged (M := upd Ma 1 (1, S + y1)) (k := j) hp0 (s := sumM p (upd Ma 1 (1, S + y1)) 2 (3 * (j : Int)) + q3) (by omega) (by omega)
            have hacc3 := Acc1.charged (M := Mb) (k := j) (S := R) y2
            generalize sumM p (upd Ma 1 (1, S + y1)) 2 (3 * (j : Int)) = s3 at *
            have CH1 := Lib.hid ch1
            have CH2 := Lib.hid ch2
            have CH3 := Lib.hid ch3
            have HA1 := Lib.hid hacc1
            have HA2 := Lib.hid hacc2
            have HA3 := Lib.hid hacc3
            have HPS2 := Lib.hid hps
            have HBW := Lib.hid hbw
            clear ch1 ch2 ch3 hacc1 hacc2 hacc3 hps hbw hA1 hA2 hB1 hA2' f1 f2 sm3
            have hdr : PS wr.drew g0 A n c brs p ga ba Aa ca (2 * j) Ma gb bb Ab cb j Mb (some ⟨bL, oL, none⟩) k L Ao no zo := HPS2.out.below (Below.refl _ _).drew
            have hK1 := (charge_any 1 y1 (p + q1) hdr.a ⟨by omega, by omega⟩ ⟨by omega, by omega⟩ (by omega))
            unfold ChargePost at hK1
            rw [CH1.out.1, CH1.out.2] at hK1
            dsimp only at hK1
            have K1 := Lib.hid hK1
            have HD1 := Lib.hid hdr
            have cd : wr.drew.cell? ⟨bL, oL + j, none⟩ = some (.int .i64 y1) := cell1
            have CD1 := Lib.hid cd
            have CD2 := Lib.hid (show wr.drew.cell? ⟨bL, oL + r, none⟩ = some (.int .i64 y2) from cell2)
            clear hK1 hdr cd CH1
            generalize due brs S = dS at *
            generalize hdS1 : due brs (S + y1) = dS1 at *
            generalize due brs R = dR at *
            generalize hdR1 : due brs (R + y2) = dR1 at *
            have HdS := Lib.hid hdS1
            have HdR := Lib.hid hdR1
            clear hdS1 hdR1
            have aw1 : IntKind.i64.wrap (p + q1) = p + q1 := IntWalk.i64_in _ (by omega)
            have aw2 : IntKind.i64.wrap (p + q2) = p + q2 := IntWalk.i64_in _ (by omega)
            have aw3 : IntKind.i64.wrap ((k : Int) - 1) = (k : Int) - 1 := IntWalk.i64_in _ (by omega)
            have aw4 : IntKind.i64.wrap ((k : Int) - 1 - (j : Int)) = (r : Int) := (IntWalk.i64_in _ (by omega)).trans hr1
            have aw5 : IntKind.i64.wrap ((j : Int) + 1) = (j : Int) + 1 := IntWalk.i64_in _ (by omega)
            have aw6 : IntKind.i64.wrap (r : Int) = (r : Int) := IntWalk.i64_in _ (by omega)
            clear cell2
            go_wp2_with fail
            go_region_held3 (fun w' => w'.cell? ⟨bL, oL + j, none⟩ = some (.int .i64 y1)) (first | exact CD1.out | exact cell_grown HD1.out.a.map hg1 CD1.out) (first | (go_at_call 27; (with_reducible refine (HQ1.out _ HD1.out.oth).mono ?_); rintro e w' ⟨rfl, rfl⟩) | (go_at_call 26; (with_reducible refine K1.out.mono ?_); rintro e wa ⟨rfl, hm1, hg1⟩))
            have hda := HD1.out.chargeA hm1 hg1
            have hBa : Below w.heap.size w wa := (HBW.out.drew).grown hg1 (HBW.out.size) (fun k e => by cases e; exact s1)
            have cda : wa.drew.cell? ⟨bL, oL + r, none⟩ = some (.int .i64 y2) := cell_grown HD1.out.a.map hg1 CD2.out
            have hdb : PS wa.drew g0 A n c brs p ga ba Aa ca (2 * j + 1) (upd Ma 1 (1, S + y1)) gb bb Ab cb j Mb (some ⟨bL, oL, none⟩) k L Ao no zo := hda.below (Below.refl _ _).drew
            have hK2 := (charge_any 1 y2 (p + q2) hdb.b ⟨by omega, by omega⟩ ⟨by omega, by omega⟩ (by omega))
            unfold ChargePost at hK2
            rw [CH2.out.1, CH2.out.2] at hK2
            dsimp only at hK2
            have K2 := Lib.hid hK2
            have HD2 := Lib.hid hdb
            have HBA := Lib.hid hBa
            have CDA := Lib.hid cda
            clear hda hBa cda hdb hK2 hm1 hg1 HD1 K1 CD1 CD2 HPS2 HBW cell1 CH2
            go_wp2_with fail
            go_region_held3 (fun w' => w'.cell? ⟨bL, oL + r, none⟩ = some (.int .i64 y2)) (first | exact CDA.out | exact cell_grown HD2.out.b.map hg2 CDA.out) (first | (go_at_call 27; (with_reducible refine (HQ2.out _ HD2.out.oth).mono ?_); rintro e w' ⟨rfl, rfl⟩) | (go_at_call 26; (with_reducible refine K2.out.mono ?_); rintro e wb ⟨rfl, hm2, hg2⟩))
            have hdb := HD2.out.chargeB hm2 hg2
            have hBb : Below w.heap.size w wb := (HBA.out.drew).grown hg2 (HBA.out.size) (fun k e => by cases e; exact s2)
            have hK3 := (charge_any 2 q3 (3 * (j : Int)) hdb.a ⟨by omega, by omega⟩ ⟨by omega, by omega⟩ (by omega))
            unfold ChargePost at hK3
            rw [CH3.out.1, CH3.out.2] at hK3
            dsimp only at hK3
            have K3 := Lib.hid hK3
            have HD3 := Lib.hid hdb
            have HBB := Lib.hid hBb
            clear hdb hBb hK3 hm2 hg2 HD2 K2 CDA HBA CH3 aw1 aw2 aw3 aw4 aw5 aw6
            go_wp2_with fail
            (with_reducible refine (HQ3.out _ HD3.out.oth).mono ?_)
            rintro e w' ⟨rfl, rfl⟩
            go_wp2_with fail
            (with_reducible refine K3.out.mono ?_)
            rintro e wc ⟨rfl, hm3, hg3⟩
            have hdc := HD3.out.chargeA hm3 hg3
            have hBc : Below w.heap.size w wc := HBB.out.grown hg3 HBB.out.size (fun k e => by cases e; exact s1)
            have HDC := Lib.hid hdc
            have HBC := Lib.hid hBc
            clear hdc hBc hm3 hg3 HD3 HBB K3 HQ1 HQ2 HQ3
            go_wp2
            go_roundw
            case rel => exact ⟨j + 1, _, _, by go_num, by omega, by rw [HS1.out, HdS.out]; go_num, by rw [HR1.out, HdR.out]; go_num, by rw [HS1.out], HDC.out, by rw [HS1.out]; exact HA1.out, HA2.out, by rw [HR1.out]; exact HA3.out, HBC.out⟩
            case measure => simp [intOf]; omega
          · have hjk : j = k := by omega
            subst hjk
            have hrev : psumTo L.reverse j = psumTo L j := by
              have e1 := psumTo_all L
              have e2 := psumTo_all L.reverse
              rw [List.length_reverse, psum_reverse] at e2
              rw [HLl.out] at e1 e2
              rw [e1, e2]
            rw [hrev]
            rw [hrev] at hB1 rb eb
            have HDU := Lib.hid (dueR_in Hv.out sb.1 (by omega))
            have pp : p / p = 1 := Int.ediv_self (by omega)
            have p2 : 2 * p / p = 2 := Int.mul_ediv_cancel _ (by omega)
            have z0 : (0 : Int) / p = 0 := Int.zero_ediv p
            have HS1 := Lib.hid (hA1.sum (p := p) (t := p) (by omega) pp)
            have HS2 := Lib.hid (hA1.away (p := p) (t := 0) (by omega))
            have HS3 := Lib.hid (hA1.away (p := p) (t := 2 * p) (by omega))
            have HPS2 := Lib.hid hps
            have HBW := Lib.hid hbw
            have a0 := hps.box.c0
            have a1 := hps.box.c1
            clear hps hbw hA1 hA2 hB1 pp p2 z0 hrev rb eb
            generalize psumTo L j = S at *
            generalize due brs S = dS at *
            go_wp2_with fail
            (with_reducible refine (Due_any c S HPS2.out.box.v).mono ?_)
            rintro e v1 ⟨rfl, hb⟩
            rw [HDU.out]
            have P1 := Lib.hid (HPS2.out.below hb)
            have G1 := Lib.hid (HBW.out.trans (hb.mono HBW.out.size))
            clear hb HDU a0 a1 HPS2 HBW
            go_wp2_with fail
            (with_reducible refine (sumM_any 1 p P1.out.a (in64 (by omega) (by omega)) (in64 (by omega) (by omega))).mono ?_)
            rintro e v2 ⟨rfl, hb⟩
            rw [HS1.out]
            have P2 := Lib.hid (P1.out.below hb)
            have G2 := Lib.hid (G1.out.trans (hb.mono G1.out.size))
            clear hb P1 G1
            go_wp2_with fail
            (with_reducible refine (sumM_any 1 0 P2.out.a (in64 (by omega) (by omega)) (in64 (by omega) (by omega))).mono ?_)
            rintro e v3 ⟨rfl, hb⟩
            rw [HS2.out]
            have P3 := Lib.hid (P2.out.below hb)
            have G3 := Lib.hid (G2.out.trans (hb.mono G2.out.size))
            clear hb P2 G2
            go_wp2_with fail
            (with_reducible refine (sumM_any 1 (2 * p) P3.out.a (in64 (by omega) (by omega)) (in64 (by omega) (by omega))).mono ?_)
            rintro e v4 ⟨rfl, hb⟩
            rw [HS3.out]
            have P4 := Lib.hid (P3.out.below hb)
            have G4 := Lib.hid (G3.out.trans (hb.mono G3.out.size))
            clear hb P3 G3
            go_wp2_with fail
            (with_reducible refine (lives_any v4 P4.out.box.tab).mono ?_)
            rintro e v5 ⟨rfl, hb⟩
            have G5 := G4.out.trans (hb.mono G4.out.size)
            go_wp2
            go_ret
            exact ⟨rfl, G5⟩

end Go.Proofs.YtlgedljhheficaaGreatDoor
