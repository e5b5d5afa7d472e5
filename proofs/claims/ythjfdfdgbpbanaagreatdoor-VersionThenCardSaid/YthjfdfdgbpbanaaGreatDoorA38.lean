/- The walk of VersionConverts, for whatever shows that lives returns true. -/
import Derived.Test.YthjfdfdgbpbanaaGreatDoorA37
namespace Go.Proofs.YthjfdfdgbpbanaaGreatDoor
open Go.RowKit

theorem nowL_len (ts : List Tr) (z : Int) (hs : List Int) : (nowL ts z hs).length ≤ 64 := by
  unfold nowL
  split
  · rename_i h
    cases hg : argB ts z hs
    · rw [convE_bad hg] at h; omega
    · simp only [argB, Bool.and_eq_true, decide_eq_true_eq] at hg
      simp
      omega
  · simp
theorem leftL_len (ts : List Tr) (z : Int) (hs : List Int) : (leftL ts z hs).length ≤ ts.length := by
  unfold leftL
  split <;> simp

theorem nil_bags (w2 : World) (cut : Int) (q0 : -9223372036854775808 ≤ cut) (q1 : cut ≤ 9223372036854775807) (e1 e2 : Obj) (zsx : Array Value) (cp : Nat) {l : List Int} :
    ∃ g A3 c3, (Value.slice (some ⟨w2.heap.size + 1 + 1 + 1, 0, none⟩) 3 3) = .slice (some ⟨g, 0, none⟩) 3 3 ∧
      Bk ((((w2.alloc e1).alloc e2).alloc (.cells (#[.int .i64 cut] ++ zsx) 3)).alloc (.cells #[.slice none 0 0, .slice none 0 0, .slice (some ⟨w2.heap.size + 1 + 1, 0, none⟩) 1 cp] 22)).drew g 22 [.slice none 0 0, .slice none 0 0, .slice A3 (0 + 1) c3] ∧
      IntsV ((((w2.alloc e1).alloc e2).alloc (.cells (#[.int .i64 cut] ++ zsx) 3)).alloc (.cells #[.slice none 0 0, .slice none 0 0, .slice (some ⟨w2.heap.size + 1 + 1, 0, none⟩) 1 cp] 22)).drew A3 (0 + 1) (l.take 0 ++ [cut]) ∧ (∃ a, A3 = some a) ∧
      Below w2.heap.size w2 ((((w2.alloc e1).alloc e2).alloc (.cells (#[.int .i64 cut] ++ zsx) 3)).alloc (.cells #[.slice none 0 0, .slice none 0 0, .slice (some ⟨w2.heap.size + 1 + 1, 0, none⟩) 1 cp] 22)).drew := by
  obtain ⟨V, hV⟩ : ∃ V, V = (w2.alloc e1).alloc e2 := ⟨_, rfl⟩
  have hs : V.heap.size = w2.heap.size + 1 + 1 := by rw [hV]; simp
  have hb : Below w2.heap.size w2 V := by rw [hV]; exact ((Below.refl _ w2).alloc (Nat.le_refl _) _).alloc (by simp) _
  rw [← hV, ← hs]
  have hn := heap_alloc_new V (.cells (#[.int .i64 cut] ++ zsx) 3)
  have hs2 : (V.alloc (.cells (#[.int .i64 cut] ++ zsx) 3)).heap.size = V.heap.size + 1 := by simp
  have hlt : V.heap.size < (V.alloc (.cells (#[.int .i64 cut] ++ zsx) 3)).heap.size := by omega
  have hle : w2.heap.size ≤ V.heap.size := by omega
  have hc : (V.alloc (.cells (#[.int .i64 cut] ++ zsx) 3)).cell? ⟨V.heap.size, 0, none⟩ = some (.int .i64 cut) := by
    simp only [World.cell?, hn]
    rw [Array.getElem?_append_left (by simp)]; rfl
  rw [← hs2]
  have hb2 : Below w2.heap.size w2 (V.alloc (.cells (#[.int .i64 cut] ++ zsx) 3)) := hb.alloc hle _
  generalize V.alloc (.cells (#[.int .i64 cut] ++ zsx) 3) = U at *
  refine ⟨_, some ⟨V.heap.size, 0, none⟩, cp, rfl, (Bk.new U 22 [_, _, _]).drew, ⟨.inr ⟨V.heap.size, 0, rfl, ?_, ?_⟩, by simp, ?_⟩, ⟨_, rfl⟩, (hb2.alloc hb2.size _).drew⟩
  · simp; omega
  · intro j u hu
    match j, hu with
    | 0, hu =>
      simp [ints] at hu
      subst hu
      exact (World.cell?_alloc_past _ _ _ hlt).trans hc
    | j + 1, hu => simp [ints] at hu
  · intro z hz
    simp at hz
    subst hz
    exact ⟨q0, q1⟩

set_option maxRecDepth 100000 in
set_option maxHeartbeats 4000000 in
theorem converts_any (HLv : LivesOk) {w : World} {A A' : Option Addr} {n n' : Nat} (c c' : Nat) (many goal : Int) (s : Bool) (cut : Int) {zs zs' : List Int} (h : IntsV w A n zs) (h' : IntsV w A' n' zs') (hT : Tab w)
    (m0 : -9223372036854775808 ≤ many) (m1 : many ≤ 9223372036854775807) (t0 : -9223372036854775808 ≤ goal) (t1 : goal ≤ 9223372036854775807) (q0 : -9223372036854775808 ≤ cut) (q1 : cut ≤ 9223372036854775807) :
    Calls Tryz.prog 5 #[.slice A n c, .slice A' n' c', .int .i64 many, .int .i64 goal, .bool s, .int .i64 cut] w fun e w' => e = .returned (.bool true) ∧ Below w.heap.size w w' := by
  obtain ⟨i0, hi, hz0, hz1, hz2⟩ := info_parts info3
  have H := Lib.hid h
  have H' := Lib.hid h'
  have HT := Lib.hid hT
  have HL := Lib.hid HLv
  clear h h' hT HLv
  have a0 := around_lo many 8 (by omega)
  have a1 := around_hi many 8 (by omega)
  have b0 := around_lo goal 9 (by omega)
  have b1 := around_hi goal 9 (by omega)
  go_enter Tryz.func5, Tryz.ntmps5
  go_wp2_with fail
  refine (around_any _ _ _ m0 m1 (by omega) (by omega)).mono ?_
  rintro e w' ⟨rfl, rfl⟩
  obtain ⟨K, hK⟩ := Int.eq_ofNat_of_zero_le a0
  rw [hK] at a1 ⊢
  have hK7 : K ≤ 7 := by omega
  clear a0 a1 hK m0 m1
  go_wp2_with fail
  refine (around_any _ _ _ t0 t1 (by omega) (by omega)).mono ?_
  rintro e w' ⟨rfl, rfl⟩
  obtain ⟨N, hN⟩ := Int.eq_ofNat_of_zero_le b0
  rw [hN] at b1 ⊢
  have hN8 : N ≤ 8 := by omega
  clear b0 b1 hN
  go_wp2_with fail
  refine (Tos_any c K N s H.out (by omega) (by omega)).mono ?_
  rintro e w1 ⟨vt, rfl, ht, hb1⟩
  obtain ⟨At, ct, rfl, hrt, _, _⟩ := row_form ht
  have HTt : Hid (TosV w1 At K (tosS K N zs s)) := ⟨hrt, by simp⟩
  clear ht hrt
  go_wp2_with fail
  refine (held_any c' K 0 (H'.out.below hb1) (by omega) (by omega)).mono ?_
  rintro e w2 ⟨va, rfl, ha, hb2⟩
  obtain ⟨Aa, ca, rfl, hra, na, _⟩ := row_form ha
  have hcap : K ≤ ca := by
    rcases ha.2 with ⟨e, e2⟩ | ⟨g, cap, cur, e, _, _, hle, _⟩
    · omega
    · cases e; exact hle
  have Ia : Hid (IntsV w2 Aa K (heldL zs' 0 K)) := ⟨hra, by simp [heldL], heldL_wf _ _ _⟩
  have HTt2 := Lib.hid (HTt.out.below hb2)
  have B2 := Lib.hid (hb1.trans (hb2.mono hb1.size))
  have Na := Lib.hid na
  clear ha hra na HTt hb1 hb2
  go_wp2_with fail
  have d0 := around_lo cut ((K : Int) + 1) (by omega)
  have d1 := around_hi cut ((K : Int) + 1) (by omega)
  refine (around_any _ _ _ q0 q1 (by omega) (by omega)).mono ?_
  rintro e w' ⟨rfl, rfl⟩
  obtain ⟨X, hX⟩ := Int.eq_ofNat_of_zero_le d0
  rw [hX] at d1 ⊢
  have hXK : X ≤ K := by omega
  clear d0 d1 hX
  go_upto_region 6 with fail
  have HX : Hid (IntsV w2 Aa X ((heldL zs' 0 K).take X)) := ints_take Ia.out X hXK
  go_cut [18] (fun v wx => ∃ g A3 c3, v = .slice (some ⟨g, 0, none⟩) 3 3 ∧ Bk wx g 22 [.slice Aa K ca, .slice Aa X ca, .slice A3 (X + 1) c3] ∧ IntsV wx A3 (X + 1) ((heldL zs' 0 K).take X ++ [cut]) ∧ (∃ a, A3 = some a) ∧ Below w2.heap.size w2 wx)
  case first =>
    have hown : (w2.alloc (.cells #[] 3)).ownsRow w2.heap.size 3 1 (.slice (some ⟨w2.heap.size, 0, none⟩) 0 0) 0 [] :=
      ⟨rfl, .inr ⟨w2.heap.size, 0, _, rfl, Nat.le_refl _, heap_alloc_new w2 _, by omega, by unfold maxLen; omega, rfl, rfl⟩⟩
    have HO := Lib.hid hown
    clear hown
    cases Aa with
    | none =>
      obtain ⟨rfl, rfl⟩ := Na.out rfl
      obtain rfl : X = 0 := by omega
      clear HO
      go_wp2_with fail
      go_meet
      exact nil_bags w2 cut q0 q1 _ _ _ _
    | some a =>
      have hlen : (ints ((heldL zs' 0 K).take X)).length = X * 1 := by rw [ints_length]; have := HX.out.len; omega
      have HLn := Lib.hid hlen
      have hcells : ∀ j u, (ints ((heldL zs' 0 K).take X))[j]? = some u → (w2.alloc (.cells #[] 3)).cell? (a.add j) = some u := by
        intro j u hj
        have hjl := (List.getElem?_eq_some_iff.1 hj).1
        obtain ⟨b, off, e, hb, hc⟩ := HX.out.row.at_ j hjl
        cases e
        have e1 : (⟨b, off, none⟩ : Addr).add j = ⟨b, off + j, none⟩ := by
          unfold Addr.add; split
          · subst_vars; rfl
          · rfl
        rw [e1, World.cell?_alloc_past _ _ _ hb]
        exact hc j u hj
      have HC := Lib.hid hcells
      clear hlen hcells
      go_wp2_with (at_builtin; refine wpList_append_own_at _ rfl (.tmp 53) (.tmp 54) 22 rfl w2.heap.size 3 i0 (.int .i64 0) 1 8 Tryz.underlying22 hi hz0 hz1 hz2 rfl (by decide) _ 0 [] rfl HO.out a X ca (ints ((heldL zs' 0 K).take X)) rfl HLn.out HC.out ?c2a ?c3a ?c4a ?c5a ?_)
      case c2a =>
        intro u hu
        simp only [ints, List.mem_map] at hu
        obtain ⟨x, _, rfl⟩ := hu
        rfl
      case c3a => unfold maxLen; omega
      case c4a => omega
      case c5a => simp
      intro v' w3 hown' hgrow _ _
      have hb3 : Below w2.heap.size w2 w3 := ((Below.refl _ w2).alloc (Nat.le_refl _) _).grown hgrow (by simp) (fun k e => by cases e; exact Nat.le_refl _)
      have HO' := Lib.hid (show w3.ownsRow w2.heap.size 3 1 v' X (ints ((heldL zs' 0 K).take X)) by simpa using hown')
      have hsz := hb3.size
      clear hown' hgrow HC HLn HO
      go_wp2_with (at_builtin; refine wpList_append_own_at _ rfl (.tmp 55) (.tmp 57) 22 rfl w2.heap.size 3 i0 (.int .i64 0) 1 8 Tryz.underlying22 hi hz0 hz1 hz2 rfl (by decide) _ X (ints ((heldL zs' 0 K).take X)) rfl (HO'.out.alloc _) ⟨w3.heap.size, 0, none⟩ 1 1 [.int .i64 cut] rfl rfl (new1 _ _ _) (one1 _) (by unfold maxLen; omega) (by omega) (by simp; omega) ?_)
      intro v'' w4 hown' hgrow _ _
      have hb4 := (hb3.alloc hsz _).grown hgrow (by simp; omega) (row_base HO'.out)
      obtain ⟨A3, c3, rfl, hr3, n3, _⟩ := row_form hown'
      have hi3 : IntsV w4 A3 (X + 1) ((heldL zs' 0 K).take X ++ [cut]) := ⟨by rw [ints_snoc]; exact hr3, by simp [← HX.out.len], wf_snoc HX.out.wf _ q0 q1⟩
      have HI3 := Lib.hid hi3
      have HB4 := Lib.hid hb4
      have HS3 : Hid (∃ a, A3 = some a) := by
        cases A3 with
        | none => have := n3 rfl; omega
        | some a => exact ⟨a, rfl⟩
      clear hown' hgrow hr3 n3 hb4 HO' hb3 hi3
      go_wp2_with fail
      go_meet
      exact ⟨_, A3, c3, rfl, Bk.new w4 22 [_, _, _], HI3.out.below ((Below.refl _ _).alloc (Nat.le_refl _) _), HS3.out, HB4.out.alloc HB4.out.size _⟩
  case rest =>
    obtain ⟨g, A3, c3, rfl, hbk, hi3, hA3, hb3⟩ := hcut
    have hx0 := around_lo goal 67 (by omega)
    have hx1 := around_hi goal 67 (by omega)
    have I1 := Lib.hid (Ia.out.below hb3)
    have I2 := Lib.hid (HX.out.below hb3)
    have I3 := Lib.hid hi3
    have HA3 := Lib.hid hA3
    have HBk := Lib.hid hbk
    have B3 := Lib.hid (B2.out.trans (hb3.mono B2.out.size))
    have HTt3 := Lib.hid (HTt2.out.below hb3)
    clear hi3 hA3 hbk hb3 B2 HTt2 Ia HX
    generalize wc = w3 at *
    go_wp2_with fail
    refine (around_any _ _ _ t0 t1 (by omega) (by omega)).mono ?_
    rintro e w' ⟨rfl, rfl⟩
    generalize around goal 67 = r at *
    go_wp2_with fail
    have hBags : Bags (w3.alloc (.cells #[.int .i64 (N : Int), .int .i64 goal, .int .i64 (r - 1)] 3)) g := by
      have hb : Below w3.heap.size w3 (w3.alloc (.cells #[.int .i64 (N : Int), .int .i64 goal, .int .i64 (r - 1)] 3)) := (Below.refl _ _).alloc (Nat.le_refl _) _
      refine Bags.below (W := w3) ⟨HBk.out.lt, fun i hi => ?_⟩ hb
      match i, hi with
      | 0, _ => exact ⟨_, _, _, _, HBk.out.cell 0, I1.out, by omega, Na.out⟩
      | 1, _ => exact ⟨_, _, _, _, HBk.out.cell 1, I2.out, by omega, fun e => ⟨by have := (Na.out e).1; omega, (Na.out e).2⟩⟩
      | 2, _ => exact ⟨_, _, _, _, HBk.out.cell 2, I3.out, by omega, fun e => by obtain ⟨a, ha⟩ := HA3.out; rw [ha] at e; cases e⟩
    have hNum : Numbers (w3.alloc (.cells #[.int .i64 (N : Int), .int .i64 goal, .int .i64 (r - 1)] 3)) w3.heap.size := by
      have hk := Bk.new w3 3 [.int .i64 (N : Int), .int .i64 goal, .int .i64 (r - 1)]
      refine ⟨hk.lt, fun i hi => ?_⟩
      match i, hi with
      | 0, _ => exact ⟨_, hk.cell 0, by omega, by omega⟩
      | 1, _ => exact ⟨_, hk.cell 1, t0, t1⟩
      | 2, _ => exact ⟨_, hk.cell 2, by omega, by omega⟩
    have HBags := Lib.hid hBags
    have HNum := Lib.hid hNum
    have HT4 := Lib.hid (HTt3.out.below ((Below.refl _ _).alloc (Nat.le_refl _) (.cells #[.int .i64 (N : Int), .int .i64 goal, .int .i64 (r - 1)] 3)))
    have B4 := Lib.hid (B3.out.alloc B3.out.size (.cells #[.int .i64 (N : Int), .int .i64 goal, .int .i64 (r - 1)] 3))
    clear hBags hNum I1 I2 I3 HBk HA3 HTt3 B3 Na
    generalize w3.alloc (.cells #[.int .i64 (N : Int), .int .i64 goal, .int .i64 (r - 1)] 3) = W0 at *
    generalize w3.heap.size = g19 at *
    generalize tosS K N zs s = ts at *
    have K25 : Hid (∀ W, Below W0.heap.size W0 W → Calls Tryz.prog 25 #[.slice At K ct] W fun e w' => ∃ Ax cx, e = .returned (.slice Ax K cx) ∧ TosV w' Ax K ts ∧ Below W.heap.size W w') := fun W hW => by
      refine (tos_any ct (HT4.out.below hW) (by omega)).mono ?_
      rintro e w' ⟨v, rfl, ho, hb⟩
      obtain ⟨Ax, cx, rfl, hr, _, _⟩ := row_form ho
      exact ⟨Ax, cx, rfl, ⟨hr, HT4.out.len⟩, hb⟩
    go_loopw [20] (fun i wr => ∃ k : Nat, k ≤ 3 ∧ i = .int .i64 k ∧ Below W0.heap.size W0 wr) (fun i _ => 3 - (intOf i).toNat)
    case atStart => exact ⟨0, by omega, rfl, Below.refl _ _⟩
    case round =>
      obtain ⟨k, hk, rfl, hb⟩ := hrel
      have HB := Lib.hid hb
      clear hb
      by_cases hlt : k < 3
      · obtain ⟨A4, m4, c4, z4, hbag⟩ := (HBags.out.below HB.out).2 k hlt
        have hg := (HBags.out.below HB.out).1
        have c18 := hbag.1
        have hm4 := hbag.2.2.1
        have HI4 := Lib.hid hbag.2.1
        have HN4 := Lib.hid hbag.2.2.2
        clear hbag
        have k0 : (0 : Int) ≤ (k : Int) := by omega
        have k1 : (k : Int) < (3 : Int) := by omega
        have HC : Hid (∀ U, Below wr.heap.size wr U → U.cell? ⟨g, k, none⟩ = some (.slice A4 m4 c4)) := fun U hU => (hU.cell (p := ⟨g, k, none⟩) hg).trans c18
        have K24 : Hid (∀ (W : World) Ax cx, TosV W Ax K ts → Below wr.heap.size wr W → Calls Tryz.prog 24 #[.slice Ax K cx, .slice A4 m4 c4] W (MissPost W ts z4)) := fun W Ax cx h1 h3 =>
          missing_any cx c4 h1 (HI4.out.below h3) (by omega) (by omega)
        have K25' : Hid (∀ W, Below wr.heap.size wr W → Calls Tryz.prog 25 #[.slice At K ct] W fun e w' => ∃ Ax cx, e = .returned (.slice Ax K cx) ∧ TosV w' Ax K ts ∧ Below W.heap.size W w') := fun W hW => K25.out W (HB.out.trans (hW.mono HB.out.size))
        have K26 : Hid (∀ W, Below wr.heap.size wr W → Calls Tryz.prog 26 #[.slice At K ct, .slice A4 m4 c4] W (MissPost W ts z4)) := fun W hW =>
          rmissing_any ct c4 (HT4.out.below (HB.out.trans (hW.mono HB.out.size))) (HI4.out.below hW) (by omega) (by omega)
        have B0 : Below wr.heap.size wr wr := Below.refl _ _
        clear c18
        go_wp2_with fail
        go_region_held3 (fun U => U.cell? ⟨g, k, none⟩ = some (.slice A4 m4 c4)) (first | exact HC.out _ B0.drew | exact HC.out _ B1)
          (first
            | (go_at_call 25; (with_reducible refine (K25'.out _ B0.drew).mono ?_); rintro e wA ⟨Ax, cx, rfl, hx, hba⟩; have B1 := B0.drew.trans (hba.mono B0.size))
            | (go_at_call 24; (with_reducible refine (K24.out _ _ _ hx B1).mono ?_); rintro e w' ⟨rfl, rfl⟩))
        clear hba B0 hx K24 K25'
        have c18 := HC.out _ B1
        go_wp2_with fail
        refine (K26.out _ B1).mono ?_
        rintro e w' ⟨rfl, rfl⟩
        clear c18
        have HB5 := Lib.hid (HB.out.trans (B1.mono HB.out.size))
        have HI5 := Lib.hid (HI4.out.below B1)
        have HC5 : Hid (∀ U, Below wA.heap.size wA U → U.cell? ⟨g, k, none⟩ = some (.slice A4 m4 c4)) := fun U hU => HC.out U (B1.trans (hU.mono B1.size))
        clear K26 HC HB HI4 B1 hg
        generalize wA = w5 at *
        generalize (((missI ts z4).getD 0 : Nat) : Int) = mi
        generalize (missI ts z4).isSome = mb
        have f1 : (mi != mi) = false := by simp
        have f2 : (mb != mb) = false := by simp
        go_wp2_with fail
        go_loopw [25] (fun i wx => ∃ j : Nat, j ≤ 3 ∧ i = .int .i64 j ∧ Below w5.heap.size w5 wx) (fun i _ => 3 - (intOf i).toNat)
        case atStart => exact ⟨0, by omega, rfl, Below.refl _ _⟩
        case round =>
          obtain ⟨j, hj, rfl, hb⟩ := hrel
          have HB := Lib.hid (HB5.out.trans (hb.mono HB5.out.size))
          have HBI := Lib.hid hb
          clear hb
          by_cases hltj : j < 3
          · obtain ⟨z, hz, z0, z1⟩ := (HNum.out.below HB.out).2 j hltj
            have hg9 := (HNum.out.below HB.out).1
            have HI6 := Lib.hid (HI5.out.below HBI.out)
            have HC : Hid (∀ U, Below wr.heap.size wr U → U.cell? ⟨g, k, none⟩ = some (.slice A4 m4 c4) ∧ U.cell? ⟨g19, j, none⟩ = some (.int .i64 z)) := fun U hU =>
              ⟨HC5.out U (HBI.out.trans (hU.mono HBI.out.size)), (hU.cell (p := ⟨g19, j, none⟩) hg9).trans hz⟩
            have j0 : (0 : Int) ≤ (j : Int) := by omega
            have j1 : (j : Int) < (3 : Int) := by omega
            have K27 : Hid (∀ (W : World) Ax cx, TosV W Ax K ts → Below wr.heap.size wr W → Calls Tryz.prog 27 #[.slice Ax K cx, .int .i64 z, .slice A4 m4 c4] W (ConvPost W ts z z4)) := fun W Ax cx h1 h3 =>
              conv_all cx c4 z h1 (HI6.out.below h3) (by omega) (by omega) z0 z1 HN4.out
            have K25' : Hid (∀ W, Below wr.heap.size wr W → Calls Tryz.prog 25 #[.slice At K ct] W fun e w' => ∃ Ax cx, e = .returned (.slice Ax K cx) ∧ TosV w' Ax K ts ∧ Below W.heap.size W w') := fun W hW => K25.out W (HB.out.trans (hW.mono HB.out.size))
            have K28 : Hid (∀ W, Below wr.heap.size wr W → Calls Tryz.prog 28 #[.slice At K ct, .int .i64 z, .slice A4 m4 c4] W (ConvPost W ts z z4)) := fun W hW =>
              rconv_all ct c4 z (HT4.out.below (HB.out.trans (hW.mono HB.out.size))) (HI6.out.below hW) (by omega) (by omega)
            have B0 : Below wr.heap.size wr wr := Below.refl _ _
            clear hz hg9
            go_wp2_with fail
            go_region_held3 (fun U => U.cell? ⟨g, k, none⟩ = some (.slice A4 m4 c4) ∧ U.cell? ⟨g19, j, none⟩ = some (.int .i64 z)) (first | exact HC.out _ B0.drew | exact HC.out _ B1 | exact HC.out _ B2)
              (first
                | (go_at_call 25; (with_reducible refine (K25'.out _ B0.drew).mono ?_); rintro e wA ⟨Ax, cx, rfl, hx, hba⟩; have B1 := B0.drew.trans (hba.mono B0.size))
                | (go_at_call 27; (with_reducible refine (K27.out _ _ _ hx B1).mono ?_); rintro e wB ⟨A1, c1, A2, c2, rfl, r1, r2, hbB⟩; have B2 := B1.trans (hbB.mono B1.size)))
            clear hba B0 hx K27 K25' B1 hbB
            have R1 := Lib.hid r1
            have R2 := Lib.hid r2
            clear r1 r2
            go_wp2_with fail
            go_region_held3 (fun U => U.cell? ⟨g, k, none⟩ = some (.slice A4 m4 c4) ∧ U.cell? ⟨g19, j, none⟩ = some (.int .i64 z)) (first | exact HC.out _ B2.drew | exact HC.out _ B3)
              (first
                | (go_at_call 28; (with_reducible refine (K28.out _ B2.drew).mono ?_); rintro e wC ⟨A3', c3', A4', c4', rfl, r3, r4, hbC⟩; have B3 := B2.drew.trans (hbC.mono B2.size)))
            have hbC' : Below wB.heap.size wB wC := undrew hbC
            have Q1 := Lib.hid ((R1.out.below hbC').more hbC'.size)
            have Q2 := Lib.hid ((R2.out.below hbC').more hbC'.size)
            have S1 := Lib.hid (same_any (c := c1) (c' := c3') Q1.out r3 rfl rfl (by have := nowL_len ts z z4; omega))
            have S2 := Lib.hid (fun (U : World) (hU : Below wC.heap.size wC U) => same_any (c := c2) (c' := c4') ((Q2.out.below hU).more hU.size) ((r4.below hU).more hU.size) rfl rfl (by have := leftL_len ts z z4; have := HT4.out.len; omega))
            clear hbC hbC' R1 R2 Q1 Q2 r3 r4 B2 K28 HC HI6
            have e0 : ∀ x : Int, (x != x) = false := fun x => by simp
            rw [show sameB (nowL ts z z4) (nowL ts z z4) = true from by simp [sameB]] at S1
            rw [show sameB (leftL ts z z4) (leftL ts z z4) = true from by simp [sameB]] at S2
            generalize nowL ts z z4 = l1 at *
            generalize leftL ts z z4 = l2 at *
            generalize convE ts z z4 = E at *
            go_wp2_with fail
            refine S1.out.mono ?_
            rintro e wD ⟨rfl, hbD⟩
            go_wp2_with fail
            refine (S2.out wD hbD).mono ?_
            rintro e wF ⟨rfl, hbF⟩
            have HF := Lib.hid (HBI.out.trans ((B3.trans ((hbD.trans (hbF.mono hbD.size)).mono B3.size)).mono HBI.out.size))
            clear B3 hbD hbF S1 S2
            go_wp2_with fail
            go_roundw
            case rel => exact ⟨j + 1, by omega, by go_num, HF.out⟩
            case measure => simp [intOf]; omega
          · go_wp2_with fail
            go_roundw
            case rel => exact ⟨k + 1, by omega, by go_num, HB.out⟩
            case measure => simp [intOf]; omega
      · have HTW := Lib.hid (HT.out.below (B4.out.trans (HB.out.mono B4.out.size)) HT.out.1)
        have HBW := Lib.hid (B4.out.trans (HB.out.mono B4.out.size))
        go_wp2_with fail
        refine (HL.out _ HTW.out).mono ?_
        rintro e wL ⟨rfl, hbL⟩
        have HF := Lib.hid (HBW.out.trans (hbL.mono HBW.out.size))
        clear hbL
        go_wp2_with fail
        go_ret
        exact ⟨rfl, HF.out⟩

end Go.Proofs.YthjfdfdgbpbanaaGreatDoor
