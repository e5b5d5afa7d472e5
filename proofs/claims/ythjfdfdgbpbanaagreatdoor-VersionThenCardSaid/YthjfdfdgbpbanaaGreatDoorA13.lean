/- The walk of VersionConserves, for whatever shows that lives returns true. -/
import Derived.Test.YthjfdfdgbpbanaaGreatDoorA12
namespace Go.Proofs.YthjfdfdgbpbanaaGreatDoor
open Go.RowKit

def LivesOk : Prop := ∀ W : World, Tab W → Calls Tryz.prog 17 #[] W fun e w' => e = .returned (.bool true) ∧ Below W.heap.size W w'

def capAt (zs : List Int) (i : Nat) : Int := if 1000 < heldAt zs 0 i then 1000 else heldAt zs 0 i
def partAt (zs : List Int) (cut : Int) (i : Nat) : Int := around (cut.tdiv ((i : Int) + 1)) (capAt zs i + 1)
def restAt (zs : List Int) (cut : Int) (i : Nat) : Int := capAt zs i - partAt zs cut i
theorem capAt_bd (zs : List Int) (i : Nat) : 0 ≤ capAt zs i ∧ capAt zs i ≤ 1000 := by
  have := heldOf_bd (pick zs ((0 : Nat) + (i : Int)) 1048576)
  unfold capAt
  have h : heldAt zs 0 i = heldOf (pick zs ((0 : Nat) + (i : Int)) 1048576) := rfl
  split <;> omega
theorem partAt_bd (zs : List Int) (cut : Int) (i : Nat) : 0 ≤ partAt zs cut i ∧ partAt zs cut i ≤ capAt zs i := by
  have h := capAt_bd zs i
  have a := around_lo (cut.tdiv ((i : Int) + 1)) (capAt zs i + 1) (by omega)
  have b := around_hi (cut.tdiv ((i : Int) + 1)) (capAt zs i + 1) (by omega)
  unfold partAt
  omega
/-- What is held after k rounds of the first loop. -/
def allK (zs : List Int) (K k : Nat) : List Int := ftab K fun i => if i < k then capAt zs i else heldAt zs 0 i
theorem allK_zero (zs : List Int) (K : Nat) : allK zs K 0 = heldL zs 0 K := by
  unfold allK heldL ftab
  exact List.map_congr_left fun i _ => by simp
theorem allK_same (zs : List Int) (K k : Nat) (h : ¬ 1000 < heldAt zs 0 k) : allK zs K k = allK zs K (k + 1) := by
  refine ftab_congr _ _ _ fun i _ => ?_
  by_cases e : i = k
  · subst e; rw [if_neg (by omega), if_pos (by omega), capAt, if_neg h]
  · by_cases h2 : i < k
    · rw [if_pos h2, if_pos (by omega)]
    · rw [if_neg h2, if_neg (by omega)]
theorem allK_set (zs : List Int) (K k : Nat) (hk : k < K) (h : 1000 < heldAt zs 0 k) : (allK zs K k).set k 1000 = allK zs K (k + 1) := by
  unfold allK
  rw [ftab_set _ _ _ _ hk]
  refine ftab_congr _ _ _ fun i _ => ?_
  by_cases e : i = k
  · subst e; rw [if_pos rfl, if_pos (by omega), capAt, if_pos h]
  · rw [if_neg e]
    by_cases h2 : i < k
    · rw [if_pos h2, if_pos (by omega)]
    · rw [if_neg h2, if_neg (by omega)]
theorem allK_all (zs : List Int) (K : Nat) : allK zs K K = ftab K (capAt zs) := ftab_congr _ _ _ fun i hi => by rw [if_pos hi]
theorem tdiv_bd (n d : Int) (h0 : -9223372036854775808 ≤ n) (h1 : n ≤ 9223372036854775807) (hd : 1 ≤ d) : -9223372036854775808 ≤ n.tdiv d ∧ n.tdiv d ≤ 9223372036854775807 := by
  rcases Int.le_total 0 n with h | h
  · rw [Int.tdiv_eq_ediv_of_nonneg h]
    have := Int.ediv_le_self d h
    have := Int.ediv_nonneg h (show 0 ≤ d by omega)
    omega
  · obtain ⟨m, rfl⟩ : ∃ m, n = -m := ⟨-n, by omega⟩
    rw [Int.neg_tdiv, Int.tdiv_eq_ediv_of_nonneg (by omega)]
    have := Int.ediv_le_self d (show 0 ≤ m by omega)
    have := Int.ediv_nonneg (show 0 ≤ m by omega) (show 0 ≤ d by omega)
    omega

theorem ftab_wf (K : Nat) (f : Nat → Int) (h : ∀ i, i < K → 0 ≤ f i ∧ f i ≤ 1000) : Wf (ftab K f) := by
  intro z hz
  simp only [ftab, List.mem_map, List.mem_range] at hz
  obtain ⟨i, hi, rfl⟩ := hz
  have := h i hi
  omega
theorem small_units {K : Nat} {hs : List Int} (hl : hs.length = K) (h : ∀ i, i < K → 0 ≤ wAt hs i ∧ wAt hs i ≤ 1000) : unitsB hs = true := by
  simp only [unitsB, decide_eq_true_eq]
  intro i hi
  have := h i (by omega)
  omega
theorem ftab_small (K : Nat) (f : Nat → Int) (h : ∀ i, i < K → 0 ≤ f i ∧ f i ≤ 1000) : ∀ i, i < K → 0 ≤ wAt (ftab K f) i ∧ wAt (ftab K f) i ≤ 1000 := fun i hi => by rw [ftab_at _ _ _ hi]; exact h i hi
theorem owns_ints {W : World} {base K : Nat} {v : Value} (f : Nat → Int) (h : W.ownsRow base 3 1 v K (ints (ftab K f))) (hf : ∀ i, i < K → 0 ≤ f i ∧ f i ≤ 1000) :
    ∃ A c, v = .slice A K c ∧ IntsV W A K (ftab K f) ∧ (A = none → K = 0 ∧ c = 0) := by
  obtain ⟨A, c, hv, hr, hn, _⟩ := row_form h
  exact ⟨A, c, hv, ⟨hr, by simp, ftab_wf K f hf⟩, hn⟩

set_option maxRecDepth 100000 in
set_option maxHeartbeats 4000000 in
theorem conserves_any (HLv : LivesOk) {w : World} {A A' : Option Addr} {n n' : Nat} (c c' : Nat) (many cut : Int) {zs zs' : List Int} (h : IntsV w A n zs) (h' : IntsV w A' n' zs') (hT : Tab w)
    (m0 : -9223372036854775808 ≤ many) (m1 : many ≤ 9223372036854775807) (q0 : -9223372036854775808 ≤ cut) (q1 : cut ≤ 9223372036854775807) :
    Calls Tryz.prog 6 #[.slice A n c, .slice A' n' c', .int .i64 many, .int .i64 cut] w fun e w' => e = .returned (.bool true) ∧ Below w.heap.size w w' := by
  obtain ⟨i0, hi, hz0, hz1, hz2⟩ := info_parts info3
  have H := Lib.hid h
  have H' := Lib.hid h'
  have HT := Lib.hid hT
  have HL := Lib.hid HLv
  clear h h' hT HLv
  have a0 := around_lo many 7 (by omega)
  have a1 := around_hi many 7 (by omega)
  go_enter Tryz.func6, Tryz.ntmps6
  go_wp2_with fail
  refine (around_any _ _ _ m0 m1 (by omega) (by omega)).mono ?_
  rintro e w' ⟨rfl, rfl⟩
  obtain ⟨K, hK⟩ := Int.eq_ofNat_of_zero_le a0
  rw [hK] at a1 ⊢
  have hK6 : K ≤ 6 := by omega
  clear a0 a1 hK m0 m1
  go_wp2_with fail
  refine (Tos_any c K K false H.out (by omega) (by omega)).mono ?_
  rintro e w1 ⟨vt, rfl, ht, hb1⟩
  obtain ⟨At, ct, rfl, hrt, _, _⟩ := row_form ht
  have HTt : Hid (TosV w1 At K (tosS K K zs false)) := ⟨hrt, by simp⟩
  clear ht hrt
  go_wp2_with fail
  refine (tos_any ct HTt.out (by omega)).mono ?_
  rintro e w2 ⟨vx, rfl, hx, hb2⟩
  obtain ⟨Ax, cx, rfl, hrx, _, _⟩ := row_form hx
  have HX : Hid (TosV w2 Ax K (tosL K zs K)) := ⟨hrx, by simp⟩
  have B2 : Below w.heap.size w w2 := hb1.trans (hb2.mono hb1.size)
  clear hx hrx HTt hb1 hb2
  go_wp2_with fail
  refine (held_any c' K 0 (H'.out.below B2) (by omega) (by omega)).mono ?_
  rintro e w3 ⟨va, rfl, ha, hb3⟩
  have hL0 : L1 w2 w3 w3 va (.slice none 0 0) (.slice none 0 0) K 0 (allK zs' K 0) (ftab 0 (partAt zs' cut)) (ftab 0 (restAt zs' cut)) :=
    ⟨by rw [allK_zero]; exact ha, fun g e => (ha.lt g e).2, World.ownsRow_nil _ _ _ _, World.ownsRow_nil _ _ _ _, (fun g e => by simp [Value.ownBlock] at e), hb3, hb3.size, Nat.le_refl _⟩
  have HL0 := Lib.hid hL0
  clear hL0 ha hb3
  go_wp2_with fail
  go_loopw [12, 13, 14] (fun vp vr i wr => ∃ k : Nat, k ≤ K ∧ i = .int .i64 k ∧ L1 w2 w3 wr va vp vr K k (allK zs' K k) (ftab k (partAt zs' cut)) (ftab k (restAt zs' cut))) (fun _ _ i _ => K - (intOf i).toNat)
  case atStart => exact ⟨0, Nat.zero_le _, rfl, HL0.out⟩
  case round =>
    obtain ⟨k, hk, rfl, hL⟩ := hrel
    clear HL0
    have HL1 := Lib.hid hL
    clear hL
    by_cases hlt : k < K
    · obtain ⟨ga, ca, rfl⟩ := row_some HL1.out.all (by omega)
      have hh0 : wr.cell? ⟨ga, k, none⟩ = some (.int .i64 (heldAt zs' 0 k)) := (HL1.out.all.cellAt k (by omega)).trans (by simp [ints, allK, ftab, hlt])
      have hfz : wr.frozen? ⟨ga, k, none⟩ = false := HL1.out.all.frozenAt k
      have hgl : ga < wr.heap.size := (HL1.out.all.lt ga rfl).2
      have k0 : (0 : Int) ≤ (k : Int) := by omega
      have k1 : (k : Int) < (K : Int) := by omega
      have key : Hid (∀ (V : World) (up ur : Value), L1 w2 w3 V (.slice (some ⟨ga, 0, none⟩) K ca) up ur K k (allK zs' K (k + 1)) (ftab k (partAt zs' cut)) (ftab k (restAt zs' cut)) →
          V.cell? ⟨ga, k, none⟩ = some (.int .i64 (capAt zs' k)) ∧ w.heap.size ≤ V.heap.size) := fun V up ur hV => by
        refine ⟨(hV.all.cellAt k (by omega)).trans (by simp [ints, allK, ftab, hlt]), ?_⟩
        have := hV.le3; have := hV.le; have := B2.size; omega
      have hcap := capAt_bd zs' k
      have hpb := partAt_bd zs' cut k
      have hpe : partAt zs' cut k = around (cut.tdiv ((k : Int) + 1)) (capAt zs' k + 1) := rfl
      have hre : restAt zs' cut k = capAt zs' k - partAt zs' cut k := rfl
      have HP := Lib.hid (ftab_succ k (partAt zs' cut))
      have HR := Lib.hid (ftab_succ k (restAt zs' cut))
      rw [hre] at HR
      have htd := tdiv_bd cut ((k : Int) + 1) q0 q1 (by omega)
      have KA : Hid (∀ (V : World) (q : Nat), Calls Tryz.prog 21 #[.int .i64 (cut.tdiv ((k : Int) + 1)), .int .i64 (capAt zs' k + 1)] (V.drewN q) fun e w' => e = .returned (.int .i64 (partAt zs' cut k)) ∧ w' = V.drewN q) := fun V q => by
        rw [hpe]
        exact (around_any _ _ (V.drewN q) htd.1 htd.2 (by omega) (by omega)).mono fun _ _ ⟨a, b⟩ => ⟨a, b.symm⟩
      have Hbig := Lib.hid (allK_set zs' K k hlt)
      have Hsml := Lib.hid (allK_same zs' K k)
      have e1 : IntKind.i64.wrap ((k : Int) + 1) = (k : Int) + 1 := IntWalk.i64_in _ (by omega)
      have e2 : ((k : Int) + 1 == 0) = false := by simp; omega
      have e3 : ¬ (k : Int) + 1 = 0 := by omega
      have e4 : IntKind.i64.wrap (cut.tdiv ((k : Int) + 1)) = cut.tdiv ((k : Int) + 1) := IntWalk.i64_in _ htd
      have e5 : IntKind.i64.wrap (capAt zs' k + 1) = capAt zs' k + 1 := IntWalk.i64_in _ (by omega)
      clear hpe hre htd
      generalize heldAt zs' 0 k = hv at *
      generalize capAt zs' k = x at *
      generalize partAt zs' cut k = p at *
      by_cases hbig : 1000 < hv
      · have hV := HL1.out.store k 1000
        rw [Hbig.out hbig] at hV
        have HV := Lib.hid hV
        clear hV HL1 Hbig Hsml
        go_wp2_with fail
        clear hh0 hfz
        generalize wr.setCell ⟨ga, k, none⟩ (.int .i64 1000) = V at *
        obtain ⟨v1, v2⟩ := key.out _ _ _ HV.out
        clear hgl
        go_quiet ((go_at_call 21; exact Calls.quiet_of_same (KA.out V _)))
        clear e1 e2 e3 e4 e5 v1
        have HV2 := Lib.hid (HV.out.drewN nq)
        clear HV
        generalize V.drewN nq = U at *
        obtain ⟨v1, v3⟩ := key.out _ _ _ HV2.out
        have vs := HV2.out.le3
        go_wp2_with (at_builtin; refine wpList_append_own_at _ rfl (.tmp 61) (.tmp 63) 22 rfl w3.heap.size 3 i0 (.int .i64 0) 1 8 Tryz.underlying22 hi hz0 hz1 hz2 rfl (by decide) _ k (ints (ftab k (partAt zs' cut))) rfl (HV2.out.op.alloc _) ⟨U.heap.size, 0, none⟩ 1 1 [.int .i64 p] rfl rfl (new1 _ _ _) (one1 _) ?c3a ?c4a ?c5a ?_)
        case c3a => unfold maxLen; omega
        case c4a => omega
        case c5a => simp; omega
        intro vp' w4 hown4 hgrow4 _ hat4
        obtain ⟨a1, a2, a3, a4, a5⟩ := HV2.out.appP hown4 hgrow4 (by simpa using hat4)
        have v4 : w4.cell? ⟨ga, k, none⟩ = some (.int .i64 x) := (a2.cellAt k (by omega)).trans (((HV2.out.all.cellAt k (by omega)).symm).trans v1)
        have G1 := Lib.hid a1
        have G4 := Lib.hid hown4
        have G5 := Lib.hid hgrow4
        have G6 := Lib.hid hat4
        clear a1 a2 a3 a4 hown4 hgrow4 hat4
        go_wp2_with (at_builtin; refine wpList_append_own_at _ rfl (.tmp 65) (.tmp 72) 22 rfl w3.heap.size 3 i0 (.int .i64 0) 1 8 Tryz.underlying22 hi hz0 hz1 hz2 rfl (by decide) _ k (ints (ftab k (restAt zs' cut))) rfl (G1.out.alloc _) ⟨w4.heap.size, 0, none⟩ 1 1 [.int .i64 (x - p)] rfl rfl (new1 _ _ _) (one1 _) ?d3a ?d4a ?d5a ?_)
        case d3a => unfold maxLen; omega
        case d4a => omega
        case d5a => simp; omega
        intro vr' w5 hown5 hgrow5 _ hat5
        have hF := HV2.out.appBoth G4.out G5.out (by simpa using G6.out) hown5 hgrow5 (by simpa using hat5)
        rw [← HP.out, ← HR.out] at hF
        have HF := Lib.hid hF
        clear hF hown5 hgrow5 hat5
        go_wp2
        go_roundw
        case rel => exact ⟨k + 1, by omega, by go_num, HF.out⟩
        case measure => simp [intOf]; omega
      · have hV := HL1.out
        rw [Hsml.out hbig] at hV
        have HV := Lib.hid hV
        clear hV HL1 Hbig Hsml
        go_wp2_with fail
        clear hh0 hfz hgl
        obtain ⟨v1, v2⟩ := key.out _ _ _ HV.out
        go_quiet ((go_at_call 21; exact Calls.quiet_of_same (KA.out wr _)))
        clear e1 e2 e3 e4 e5 v1
        have HV2 := Lib.hid (HV.out.drewN nq)
        clear HV
        generalize wr.drewN nq = U at *
        obtain ⟨v1, v3⟩ := key.out _ _ _ HV2.out
        have vs := HV2.out.le3
        go_wp2_with (at_builtin; refine wpList_append_own_at _ rfl (.tmp 61) (.tmp 63) 22 rfl w3.heap.size 3 i0 (.int .i64 0) 1 8 Tryz.underlying22 hi hz0 hz1 hz2 rfl (by decide) _ k (ints (ftab k (partAt zs' cut))) rfl (HV2.out.op.alloc _) ⟨U.heap.size, 0, none⟩ 1 1 [.int .i64 p] rfl rfl (new1 _ _ _) (one1 _) ?c3b ?c4b ?c5b ?_)
        case c3b => unfold maxLen; omega
        case c4b => omega
        case c5b => simp; omega
        intro vp' w4 hown4 hgrow4 _ hat4
        obtain ⟨a1, a2, a3, a4, a5⟩ := HV2.out.appP hown4 hgrow4 (by simpa using hat4)
        have v4 : w4.cell? ⟨ga, k, none⟩ = some (.int .i64 x) := (a2.cellAt k (by omega)).trans (((HV2.out.all.cellAt k (by omega)).symm).trans v1)
        have G1 := Lib.hid a1
        have G4 := Lib.hid hown4
        have G5 := Lib.hid hgrow4
        have G6 := Lib.hid hat4
        clear a1 a2 a3 a4 hown4 hgrow4 hat4
        go_wp2_with (at_builtin; refine wpList_append_own_at _ rfl (.tmp 65) (.tmp 72) 22 rfl w3.heap.size 3 i0 (.int .i64 0) 1 8 Tryz.underlying22 hi hz0 hz1 hz2 rfl (by decide) _ k (ints (ftab k (restAt zs' cut))) rfl (G1.out.alloc _) ⟨w4.heap.size, 0, none⟩ 1 1 [.int .i64 (x - p)] rfl rfl (new1 _ _ _) (one1 _) ?d3b ?d4b ?d5b ?_)
        case d3b => unfold maxLen; omega
        case d4b => omega
        case d5b => simp; omega
        intro vr' w5 hown5 hgrow5 _ hat5
        have hF := HV2.out.appBoth G4.out G5.out (by simpa using G6.out) hown5 hgrow5 (by simpa using hat5)
        rw [← HP.out, ← HR.out] at hF
        have HF := Lib.hid hF
        clear hF hown5 hgrow5 hat5
        go_wp2
        go_roundw
        case rel => exact ⟨k + 1, by omega, by go_num, HF.out⟩
        case measure => simp [intOf]; omega
    · obtain rfl : k = K := by omega
      have hAb := fun i (_ : i < k) => capAt_bd zs' i
      have hPb : ∀ i, i < k → 0 ≤ partAt zs' cut i ∧ partAt zs' cut i ≤ 1000 := fun i _ => by have := partAt_bd zs' cut i; have := capAt_bd zs' i; omega
      have hRb : ∀ i, i < k → 0 ≤ restAt zs' cut i ∧ restAt zs' cut i ≤ 1000 := fun i _ => by have := partAt_bd zs' cut i; have := capAt_bd zs' i; unfold restAt; omega
      have hall := HL1.out.all
      rw [allK_all] at hall
      obtain ⟨Aa, ca, rfl, ia, na⟩ := owns_ints _ hall hAb
      obtain ⟨Ap, cp, rfl, ip, np⟩ := owns_ints _ HL1.out.op hPb
      obtain ⟨Ar, cr, rfl, ir, nr⟩ := owns_ints _ HL1.out.or_ hRb
      have ix := HX.out.below HL1.out.below
      have B3 : Below w.heap.size w wr := B2.trans (HL1.out.below.mono B2.size)
      have K1 := conv_small cx ca ix ia (by omega) na (ftab_small _ _ hAb)
      have K2 := fun V (hV : Below wr.heap.size wr V) => conv_small cx cp (ix.below hV) (ip.below hV) (by omega) np (ftab_small _ _ hPb)
      have K3 := fun V (hV : Below wr.heap.size wr V) => conv_small cx cr (ix.below hV) (ir.below hV) (by omega) nr (ftab_small _ _ hRb)
      have HK1 := Lib.hid K1
      have HK2 := Lib.hid K2
      have HK3 := Lib.hid K3
      have Hia := Lib.hid ia
      have Hix := Lib.hid ix
      have HB3 := Lib.hid B3
      clear K1 K2 K3 ia ip ir na np nr ix B3 hall hAb hPb hRb HL1 HX B2
      go_wp2_with fail
      refine HK1.out.mono ?_
      rintro e wA ⟨A1, c1, A2, c2, rfl, r1, r2, bA⟩
      go_wp2_with fail
      refine (HK2.out _ bA).mono ?_
      rintro e wB ⟨A3, c3, A4, c4, rfl, r3, _, bB⟩
      have bAB := bA.trans (bB.mono bA.size)
      go_wp2_with fail
      refine (HK3.out _ bAB).mono ?_
      rintro e wC ⟨A5, c5, A6, c6, rfl, r5, _, bC⟩
      have bC3 := bAB.trans (bC.mono bAB.size)
      have q1' := Lib.hid ((r1.below (bB.trans (bC.mono bB.size))).more (bB.trans (bC.mono bB.size)).size)
      have q2' := Lib.hid ((r2.below (bB.trans (bC.mono bB.size))).more (bB.trans (bC.mono bB.size)).size)
      have q3' := Lib.hid ((r3.below bC).more bC.size)
      have q5' := Lib.hid r5
      have Hia2 := Lib.hid (Hia.out.below bC3)
      have Hix2 := Lib.hid (Hix.out.below bC3)
      have HB4 := Lib.hid (HB3.out.trans (bC3.mono HB3.out.size))
      clear r1 r2 r3 r5 bA bB bC bAB bC3 HK1 HK2 HK3 Hia Hix HB3
      have ek : ((k : Int) != (k : Int)) = false := by simp
      have mk := fun W => make_ints k (by omega) W
      go_wp2_with fail
      have hbk := Bk.new wC 3 (ints (List.replicate k 0))
      have hbw : Below wC.heap.size wC (wC.alloc (.cells (ints (List.replicate k 0)).toArray 3)) := (Below.refl _ _).alloc (Nat.le_refl _) _
      rw [← nowK_zero (tosL k zs k) (ftab k (capAt zs')) k] at hbk hbw ⊢
      have HBK := Lib.hid hbk
      have HBW := Lib.hid hbw
      clear hbk hbw mk
      generalize wC.alloc (.cells (ints (nowK (tosL k zs k) (ftab k (capAt zs')) k 0)).toArray 3) = W at *
      generalize hgs : wC.heap.size = gs at *
      have Hgs := Lib.hid hgs
      clear hgs
      go_loopw [26] (fun i wr => ∃ j : Nat, j ≤ k ∧ i = .int .i64 j ∧ Bk wr gs 3 (ints (nowK (tosL k zs k) (ftab k (capAt zs')) k j)) ∧ Below gs wC wr) (fun i _ => k - (intOf i).toNat)
      case atStart => exact ⟨0, Nat.zero_le _, rfl, HBK.out, HBW.out⟩
      case round =>
        obtain ⟨j, hj, rfl, hbk, hb⟩ := hrel
        have HK := Lib.hid hbk
        have HB := Lib.hid hb
        clear hbk hb HBK HBW
        have hb' : Below wC.heap.size wC wr := by rw [Hgs.out]; exact HB.out
        by_cases hlt : j < k
        · obtain ⟨b, off, rfl, hbb, hc⟩ := (Hix2.out.below hb').row.at_ 0 (by rw [tcells_length]; simp; omega)
          obtain ⟨b', off', rfl, hbb', hc'⟩ := (Hia2.out.below hb').row.at_ j (by simpa using hlt)
          obtain ⟨b2, off2, rfl, hbb2, hc2⟩ := (q2'.out.below HB.out).at_ j (by simpa using hlt)
          obtain ⟨t1, t2, t3⟩ := tcells_at (tosL k zs k) j (by simpa using hlt)
          have c1 := hc _ _ t1
          have c2 := hc _ _ t2
          have c3 := hc _ _ t3
          simp only [← Nat.add_assoc] at c2 c3
          have d1 : wr.cell? ⟨b', off' + j, none⟩ = some (.int .i64 (wAt (ftab k (capAt zs')) j)) := hc' j _ (ints_at _ j (by simpa using hlt))
          have d2 : wr.cell? ⟨b2, off2 + j, none⟩ = some (.int .i64 (leftAt (tosL k zs k) (ftab k (capAt zs')) j)) := hc2 j _ (by simp [ints, ftab_get _ _ _ hlt])
          have hcap := ftab_small k (capAt zs') (fun i _ => capAt_bd zs' i) j hlt
          have ho := okT_cases (validTo_at (tosL_valid k zs k) j (by simpa using hlt))
          have hx1 := sumTo_small (N := k) (zs := zs) (hs := ftab k (capAt zs')) (by simp) (ftab_small k (capAt zs') (fun i _ => capAt_bd zs' i))
          have hx0 := fun i => sumTo_nonneg (j := i) (b := j) (tosL_valid k zs k) (small_units (K := k) (hs := ftab k (capAt zs')) (by simp) (ftab_small k (capAt zs') (fun i _ => capAt_bd zs' i))) (by simp) (by simp; omega)
          clear hc hc' hc2 t1 t2 t3
          have j0 : (0 : Int) ≤ (j : Int) := by omega
          have j1 : (j : Int) < (k : Int) := by omega
          by_cases hneg : itemAt (tosL k zs k) j < 0
          · have hle : leftAt (tosL k zs k) (ftab k (capAt zs')) j = wAt (ftab k (capAt zs')) j := by unfold leftAt; rw [if_pos hneg]
            rw [hle] at d2
            have HN := Lib.hid (nowK_skip (tosL k zs k) (ftab k (capAt zs')) k j hneg)
            clear hle ho hcap hx0 hx1
            generalize itemAt (tosL k zs k) j = i at *
            generalize wAt (ftab k (capAt zs')) j = h at *
            have e1 : (h != h) = false := by simp
            go_wp2_with fail
            go_quiet (fail)
            go_wp2_with fail
            go_roundw
            case rel => exact ⟨j + 1, by omega, by go_num, by rw [HN.out]; exact HK.out.drewN _, bel_drewN HB.out _⟩
            case measure => simp [intOf]; omega
          · rcases ho with ho | ⟨i0', i1, p0, p1, d0, dd1⟩
            · omega
            obtain ⟨r, hr⟩ := Int.eq_ofNat_of_zero_le i0'
            have hrk : r < k := by omega
            have hle : leftAt (tosL k zs k) (ftab k (capAt zs')) j = wAt (ftab k (capAt zs')) j % denAt (tosL k zs k) j := by unfold leftAt; rw [if_neg hneg]
            obtain ⟨b1, b3, b4, b5⟩ := back_term (wAt (ftab k (capAt zs')) j) (denAt (tosL k zs k) j) d0
            have hNs := nowK_step (tosL k zs k) (ftab k (capAt zs')) k j r hr hrk
            have hn5 := tosL_num k zs k j hlt
            have hts := term_small (ts := tosL k zs k) (hs := ftab k (capAt zs')) (i := j) hcap.1 hcap.2 (by omega) hn5.1 hn5.2
            have ht0 := term_nonneg (ts := tosL k zs k) (hs := ftab k (capAt zs')) (i := j) hcap.1 (by omega) hn5.1
            have hte : term (tosL k zs k) (ftab k (capAt zs')) j = wAt (ftab k (capAt zs')) j / denAt (tosL k zs k) j * numAt (tosL k zs k) j := rfl
            have hs0 := hx0 r
            have hs1 := hx1 r j (by omega)
            have n1 : wr.cell? ⟨gs, r, none⟩ = some (.int .i64 (sumTo (tosL k zs k) (ftab k (capAt zs')) r j)) := (HK.out.cell r).trans (by simp [ints, nowK_at _ _ _ _ _ hrk])
            have hK0 : 0 ≤ wAt (ftab k (capAt zs')) j / denAt (tosL k zs k) j := Int.ediv_nonneg hcap.1 (by omega)
            have hK1 : wAt (ftab k (capAt zs')) j / denAt (tosL k zs k) j ≤ 1000 := Int.le_trans (Int.ediv_le_self _ hcap.1) hcap.2
            rw [hle] at d2
            rw [hr] at c1
            have Hnr : Hid ((ints (nowK (tosL k zs k) (ftab k (capAt zs')) k j))[r]? = some (.int .i64 (sumTo (tosL k zs k) (ftab k (capAt zs')) r j))) := by show (ints (nowK (tosL k zs k) (ftab k (capAt zs')) k j))[r]? = _; simp [ints, nowK_at _ _ _ _ _ hrk]
            have HNs := Lib.hid hNs
            have f1 := HK.out.frozen r
            have lgs := HK.out.lt
            clear hle hx0 hx1 hneg hNs i0' i1
            generalize numAt (tosL k zs k) j = p at *
            generalize denAt (tosL k zs k) j = d at *
            generalize sumTo (tosL k zs k) (ftab k (capAt zs')) r j = x at *
            generalize wAt (ftab k (capAt zs')) j = h at *
            generalize term (tosL k zs k) (ftab k (capAt zs')) j = T at *
            obtain ⟨h0, h1⟩ := hcap
            generalize h % d = L at *
            have e1 : decide (L < 0) = false := by simp; omega
            have e2 : decide (d ≤ L) = false := by simp; omega
            have e3 : IntKind.i64.wrap (h - L) = h - L := IntWalk.i64_in _ (by omega)
            have hge : 0 ≤ h - L ∨ h - L < 0 := by omega
            have hnn : 0 ≤ h - L := by
              rcases hge with hge | hge
              · exact hge
              · rw [Int.sub_eq_add_neg] at b5
                have : (h + -L) / d < 0 := Int.ediv_neg_of_neg_of_pos (by omega) (by omega)
                omega
            have e4 : (h - L).tmod d = 0 := by rw [Int.tmod_eq_emod_of_nonneg hnn]; exact b4
            have e5 : (d == 0) = false := by simp; omega
            have e6 : ¬ d = 0 := by omega
            have e7 : (h - L).tdiv d = h / d := by rw [Int.tdiv_eq_ediv_of_nonneg hnn]; exact b5
            have e8 : IntKind.i64.wrap (h / d) = h / d := IntWalk.i64_in _ (by omega)
            have e9 : IntKind.i64.wrap (h / d * p) = T := by rw [← hte]; exact IntWalk.i64_in _ (by omega)
            have e10 : IntKind.i64.wrap (x + T) = x + T := IntWalk.i64_in _ (by omega)
            have e11 : IntKind.i64.wrap 0 = 0 := IntWalk.i64_in _ (by omega)
            have r0 : (0 : Int) ≤ (r : Int) := by omega
            have r1 : (r : Int) < (k : Int) := by omega
            have r2 : ¬ (r : Int) < 0 := by omega
            have hb9 : gs ≤ gs := Nat.le_refl _
            clear hte b4 b5 hge hK0 hK1 hr hs1
            go_wp2_with fail
            go_quiet (fail)
            have HK2 := Lib.hid (HK.out.drewN nq)
            have HB2 := Lib.hid (bel_drewN HB.out nq)
            have cc1 : (wr.drewN nq).cell? ⟨b, off + j * 3, none⟩ = some (.int .i64 (r : Int)) := c1
            have cc2 : (wr.drewN nq).cell? ⟨b, off + j * 3 + 1, none⟩ = some (.int .i64 p) := c2
            have cc3 : (wr.drewN nq).cell? ⟨b, off + j * 3 + 2, none⟩ = some (.int .i64 d) := c3
            have dd2 : (wr.drewN nq).cell? ⟨b2, off2 + j, none⟩ = some (.int .i64 L) := d2
            have dd3 : (wr.drewN nq).cell? ⟨b', off' + j, none⟩ = some (.int .i64 h) := d1
            have nn1 : (wr.drewN nq).cell? ⟨gs, r, none⟩ = some (.int .i64 x) := n1
            clear c1 c2 c3 d1 d2 n1 HK HB f1 lgs hb'
            generalize wr.drewN nq = V at *
            go_wp2_with fail
            go_still_tail 37, (by kernel_rfl)
            change wpList _ _ _ _ _ V.drew
            have HK3 := Lib.hid (HK2.out.drew)
            have HB3 := Lib.hid (HB2.out.drew)
            clear cc1 cc2 cc3 dd2 dd3 nn1 HK2 HB2
            generalize V.drew = V1 at *
            have n1 : V1.cell? ⟨gs, r, none⟩ = some (.int .i64 x) := (HK3.out.cell r).trans Hnr.out
            have f1 := HK3.out.frozen r
            have lgs := HK3.out.lt
            have hk4 := HK3.out.set r (.int .i64 (x + T))
            rw [ints_set, HNs.out] at hk4
            have HK4 := Lib.hid hk4
            have HB4' := Lib.hid (HB3.out.setCell (p := ⟨gs, r, none⟩) hb9 (.int .i64 (x + T)))
            clear hk4 HK3 HB3
            go_wp2_with fail
            go_roundw
            case rel => exact ⟨j + 1, by omega, by go_num, HK4.out, HB4'.out⟩
            case measure => simp [intOf]; omega
        · obtain rfl : j = k := by omega
          clear hb'
          go_wp2_with fail
          go_loopw [27] (fun i wz => ∃ r : Nat, r ≤ j ∧ i = .int .i64 r ∧ Bk wz gs 3 (ints (nowK (tosL j zs j) (ftab j (capAt zs')) j j)) ∧ Below gs wC wz) (fun i _ => j - (intOf i).toNat)
          case atStart => exact ⟨0, Nat.zero_le _, rfl, HK.out, HB.out⟩
          case round =>
            obtain ⟨r, hr, rfl, hbk, hb⟩ := hrel
            clear HK HB
            have HK := Lib.hid hbk
            have HB := Lib.hid hb
            clear hbk hb
            by_cases hlt : r < j
            · obtain ⟨b1, o1, rfl, _, hc1⟩ := (q1'.out.below HB.out).at_ r (by simpa using hlt)
              obtain ⟨b3, o3, rfl, _, hc3⟩ := (q3'.out.below HB.out).at_ r (by simpa using hlt)
              obtain ⟨b5, o5, rfl, _, hc5⟩ := (q5'.out.below HB.out).at_ r (by simpa using hlt)
              have c1 : wr.cell? ⟨b1, o1 + r, none⟩ = some (.int .i64 (sumTo (tosL j zs j) (ftab j (capAt zs')) r j)) := hc1 r _ (by simp [ints, ftab_get _ _ _ hlt])
              have c3 : wr.cell? ⟨b3, o3 + r, none⟩ = some (.int .i64 (sumTo (tosL j zs j) (ftab j (partAt zs' cut)) r j)) := hc3 r _ (by simp [ints, ftab_get _ _ _ hlt])
              have c5 : wr.cell? ⟨b5, o5 + r, none⟩ = some (.int .i64 (sumTo (tosL j zs j) (ftab j (restAt zs' cut)) r j)) := hc5 r _ (by simp [ints, ftab_get _ _ _ hlt])
              have c9 : wr.cell? ⟨gs, r, none⟩ = some (.int .i64 (sumTo (tosL j zs j) (ftab j (capAt zs')) r j)) := (HK.out.cell r).trans (by simp [ints, nowK_at _ _ _ _ _ hlt])
              have hPb : ∀ i, i < j → 0 ≤ partAt zs' cut i ∧ partAt zs' cut i ≤ 1000 := fun i _ => by have := partAt_bd zs' cut i; have := capAt_bd zs' i; omega
              have hRb : ∀ i, i < j → 0 ≤ restAt zs' cut i ∧ restAt zs' cut i ≤ 1000 := fun i _ => by have := partAt_bd zs' cut i; have := capAt_bd zs' i; unfold restAt; omega
              have hle := sumTo_parts (ps := ftab j (partAt zs' cut)) (rs := ftab j (restAt zs' cut)) (hs := ftab j (capAt zs')) (tosL_valid j zs j) (r : Int) (by omega)
                (fun i hi => by rw [tosL_length] at hi; rw [ftab_at _ _ _ hi, ftab_at _ _ _ hi, ftab_at _ _ _ hi]; unfold restAt; omega) j (by simp)
              have hs1 := sumTo_small (N := j) (zs := zs) (hs := ftab j (partAt zs' cut)) (by simp) (ftab_small j _ hPb) r j (Nat.le_refl _)
              have hs2 := sumTo_small (N := j) (zs := zs) (hs := ftab j (restAt zs' cut)) (by simp) (ftab_small j _ hRb) r j (Nat.le_refl _)
              have hs3 := sumTo_nonneg (j := r) (b := j) (tosL_valid j zs j) (small_units (K := j) (hs := ftab j (partAt zs' cut)) (by simp) (ftab_small j _ hPb)) (by simp) (by simp)
              have hs4 := sumTo_nonneg (j := r) (b := j) (tosL_valid j zs j) (small_units (K := j) (hs := ftab j (restAt zs' cut)) (by simp) (ftab_small j _ hRb)) (by simp) (by simp)
              clear hc1 hc3 hc5 hPb hRb
              generalize sumTo (tosL j zs j) (ftab j (capAt zs')) r j = S at *
              generalize sumTo (tosL j zs j) (ftab j (partAt zs' cut)) r j = P at *
              generalize sumTo (tosL j zs j) (ftab j (restAt zs' cut)) r j = R at *
              have e1 : (S != S) = false := by simp
              have e2 : IntKind.i64.wrap (P + R) = P + R := IntWalk.i64_in _ (by omega)
              have e3 : decide (S < P + R) = false := by simp; omega
              have r0 : (0 : Int) ≤ (r : Int) := by omega
              have r1 : (r : Int) < (j : Int) := by omega
              clear hle hs1 hs2 hs3 hs4
              go_wp2_with fail
              go_quiet (fail)
              go_wp2_with fail
              go_roundw
              case rel => exact ⟨r + 1, by omega, by go_num, HK.out.drewN _, bel_drewN HB.out _⟩
              case measure => simp [intOf]; omega
            · have HBz : Below wC.heap.size wC wr := by rw [Hgs.out]; exact HB.out
              have HBw : Below w.heap.size w wr := HB4.out.trans (HBz.mono HB4.out.size)
              have KL := Lib.hid (HL.out wr (HT.out.below HBw HT.out.1))
              go_wp2_with fail
              refine KL.out.mono ?_
              rintro e wL ⟨rfl, hbL⟩
              go_wp2
              go_ret
              exact ⟨rfl, HBw.trans (hbL.mono HBw.size)⟩

end Go.Proofs.YthjfdfdgbpbanaaGreatDoor
