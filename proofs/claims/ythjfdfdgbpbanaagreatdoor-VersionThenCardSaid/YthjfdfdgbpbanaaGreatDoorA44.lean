/- The walk of VersionThen, for whatever shows that lives returns true. -/
import Derived.Test.YthjfdfdgbpbanaaGreatDoorA42
import Derived.Test.YthjfdfdgbpbanaaGreatDoorA43
import Derived.Test.YthjfdfdgbpbanaaGreatDoorA38
import Derived.Test.YthjfdfdgbpbanaaGreatDoorP5
namespace Go.Proofs.YthjfdfdgbpbanaaGreatDoor
open Go.RowKit

theorem then_all {w : World} {A A' : Option Addr} {m m' : Nat} (c c' : Nat) {ts us : List Tr} (ht : TosV w A m ts) (hu : TosV w A' m' us) (hm : m ≤ 1000000) (hm' : m' ≤ 1000000) :
    Calls Tryz.prog 30 #[.slice A m c, .slice A' m' c'] w (ThenPost w ts us) := by
  cases hg : thenArg ts us
  · exact then_bad c c' ht hu hm hm' hg
  · exact then_good c c' ht hu hm hm' hg
theorem rthen_all {w : World} {A A' : Option Addr} {m m' : Nat} (c c' : Nat) {ts us : List Tr} (ht : TosV w A m ts) (hu : TosV w A' m' us) (hm : m ≤ 1000000) (hm' : m' ≤ 1000000) :
    Calls Tryz.prog 31 #[.slice A m c, .slice A' m' c'] w (ThenPost w ts us) := by
  cases hg : thenArg ts us
  · exact rthen_bad c c' ht hu hm hm' hg
  · exact rthen_good c c' ht hu hm hm' hg
theorem own_below {w w' : World} {B E s n : Nat} {v : Value} {xs : List Value} (h : w.ownsRow B E s v n xs) (hb : Below w.heap.size w w') : w'.ownsRow B E s v n xs :=
  h.kept (grown_of_below hb none) (by cases h1 : v.ownBlock with | none => exact .inl rfl | some g => exact .inr (by simp))
theorem thenL_len (ts us : List Tr) : (thenL ts us).length ≤ ts.length := by
  unfold thenL; split <;> simp

theorem nowL_units {ts : List Tr} {n : Int} {hs : List Int} (h : convE ts n hs = 0) : Units (nowL ts n hs) := by
  obtain ⟨ha, hl⟩ := convE_parts h
  intro z hz
  unfold nowL at hz
  rw [if_pos h] at hz
  simp only [List.mem_map, List.mem_range] at hz
  obtain ⟨j, hj, rfl⟩ := hz
  simp only [argB, Bool.and_eq_true, decide_eq_true_eq] at ha
  simp only [limB, decide_eq_true_eq] at hl
  exact ⟨sumTo_nonneg ha.1.1.2 ha.2 ha.1.2.symm (Nat.le_refl _), hl j hj⟩

/-- The three rows that VersionThen holds: counterparts x and y, holdings h. -/
structure Three (w W : World) (vx vy vh : Value) (K : Nat) (ts us : List Tr) (hs : List Int) : Prop where
  x : W.ownsRow w.heap.size 68 3 vx K (tcells ts)
  y : W.ownsRow w.heap.size 68 3 vy 5 (tcells us)
  h : W.ownsRow w.heap.size 3 1 vh K (ints hs)
  xy : ∀ g, vx.ownBlock = some g → vy.ownBlock ≠ some g
  xh : ∀ g, vx.ownBlock = some g → vh.ownBlock ≠ some g
  yh : ∀ g, vy.ownBlock = some g → vh.ownBlock ≠ some g
  below : Below w.heap.size w W

theorem Three.grow {w W W' : World} {vx vy vh : Value} {K : Nat} {ts us : List Tr} {hs : List Int} (t : Three w W vx vy vh K ts us hs) (hb : Below W.heap.size W W') : Three w W' vx vy vh K ts us hs :=
  ⟨own_below t.x hb, own_below t.y hb, own_below t.h hb, t.xy, t.xh, t.yh, t.below.trans (hb.mono t.below.size)⟩
theorem Three.setH {w W : World} {vx vy : Value} {K gh cap : Nat} {ts us : List Tr} {hs : List Int} (t : Three w W vx vy (.slice (some ⟨gh, 0, none⟩) K cap) K ts us hs) (k : Nat) (z : Int) :
    Three w (W.setCell ⟨gh, k, none⟩ (.int .i64 z)) vx vy (.slice (some ⟨gh, 0, none⟩) K cap) K ts us (hs.set k z) :=
  ⟨t.x.kept (grown_setCell W gh k _) (.inr fun e => t.xh _ e rfl), t.y.kept (grown_setCell W gh k _) (.inr fun e => t.yh _ e rfl), by rw [← ints_set]; exact (t.h.stored k _).1, t.xy, t.xh, t.yh, t.below.setCell (t.h.lt gh rfl).1 _⟩
theorem Three.setX {w W : World} {vy vh : Value} {K gx cap : Nat} {ts us : List Tr} {hs : List Int} (t : Three w W (.slice (some ⟨gx, 0, none⟩) K cap) vy vh K ts us hs) (k : Nat) (z : Int) (hk : k < ts.length) :
    Three w (W.setCell ⟨gx, k * 3 + 2, none⟩ (.int .i64 z)) (.slice (some ⟨gx, 0, none⟩) K cap) vy vh K (setDen ts k z) us hs :=
  ⟨by rw [tcells_setDen _ _ _ hk]; exact (t.x.stored _ _).1, t.y.kept (grown_setCell W gx _ _) (.inr fun e => t.xy gx rfl e), t.h.kept (grown_setCell W gx _ _) (.inr fun e => t.xh gx rfl e), t.xy, t.xh, t.yh, t.below.setCell (t.x.lt gx rfl).1 _⟩
theorem Three.setY {w W : World} {vx vh : Value} {K gy cap : Nat} {ts us : List Tr} {hs : List Int} (t : Three w W vx (.slice (some ⟨gy, 0, none⟩) 5 cap) vh K ts us hs) (k : Nat) (z : Int) (hk : k < us.length) :
    Three w (W.setCell ⟨gy, k * 3 + 2, none⟩ (.int .i64 z)) vx (.slice (some ⟨gy, 0, none⟩) 5 cap) vh K ts (setDen us k z) hs :=
  ⟨t.x.kept (grown_setCell W gy _ _) (.inr fun e => t.xy _ e rfl), by rw [tcells_setDen _ _ _ hk]; exact (t.y.stored _ _).1, t.h.kept (grown_setCell W gy _ _) (.inr fun e => t.yh gy rfl e), t.xy, t.xh, t.yh, t.below.setCell (t.y.lt gy rfl).1 _⟩
theorem own_slice {W : World} {B E s n : Nat} {v : Value} {xs : List Value} (h : W.ownsRow B E s v n xs) (hn : 0 < n) : ∃ g cap, v = .slice (some ⟨g, 0, none⟩) n cap := by
  rcases h.2 with ⟨_, h0⟩ | ⟨g, cap, cur, hv, _⟩
  · omega
  · exact ⟨g, cap, hv⟩
theorem own_apart {W W' : World} {B E E' s s' n n' : Nat} {v v' : Value} {xs xs' : List Value} (h : W.ownsRow B E s v n xs) (h' : W'.ownsRow W.heap.size E' s' v' n' xs') : ∀ g, v.ownBlock = some g → v'.ownBlock ≠ some g := by
  intro g e e'
  have h1 := (h.lt g e).2
  have h2 := (h'.lt g e').1
  omega
theorem own_lower {W : World} {B B' E s n : Nat} {v : Value} {xs : List Value} (h : W.ownsRow B E s v n xs) (hB : B' ≤ B) : W.ownsRow B' E s v n xs :=
  ⟨h.1, h.2.imp id fun ⟨g, cap, cur, h1, h2, h3⟩ => ⟨g, cap, cur, h1, Nat.le_trans hB h2, h3⟩⟩
theorem tosV_own {W : World} {B E n : Nat} {A : Option Addr} {c : Nat} {ts : List Tr} (h : W.ownsRow B E 3 (.slice A n c) n (tcells ts)) : TosV W A n ts := by
  obtain ⟨A', c', hv, hr, _, _⟩ := row_form h
  cases hv
  exact ⟨hr, by have := h.1; rw [tcells_length] at this; omega⟩

set_option maxRecDepth 100000 in
set_option maxHeartbeats 4000000 in
theorem thens_any (HLv : LivesOk) {w : World} {A A' A'' : Option Addr} {n n' n'' : Nat} (c c' c'' : Nat) (many spoilt : Int) {zs zs' zs'' : List Int} (h : IntsV w A n zs) (h' : IntsV w A' n' zs') (h'' : IntsV w A'' n'' zs'') (hT : Tab w)
    (m0 : -9223372036854775808 ≤ many) (m1 : many ≤ 9223372036854775807) (q0 : -9223372036854775808 ≤ spoilt) (q1 : spoilt ≤ 9223372036854775807) :
    Calls Tryz.prog 7 #[.slice A n c, .slice A' n' c', .slice A'' n'' c'', .int .i64 many, .int .i64 spoilt] w fun e w' => e = .returned (.bool true) ∧ Below w.heap.size w w' := by
  have H := Lib.hid h
  have H' := Lib.hid h'
  have H'' := Lib.hid h''
  have HT := Lib.hid hT
  have HL := Lib.hid HLv
  clear h h' h'' hT HLv
  have a0 := around_lo many 7 (by omega)
  have a1 := around_hi many 7 (by omega)
  go_enter Tryz.func7, Tryz.ntmps7
  go_wp2_with fail
  refine (around_any _ _ _ m0 m1 (by omega) (by omega)).mono ?_
  rintro e w' ⟨rfl, rfl⟩
  obtain ⟨K, hK⟩ := Int.eq_ofNat_of_zero_le a0
  rw [hK] at a1 ⊢
  have hK7 : K ≤ 6 := by omega
  clear a0 a1 hK m0 m1
  go_wp2_with fail
  refine (around_any _ _ _ q0 q1 (by omega) (by omega)).mono ?_
  rintro e w' ⟨rfl, rfl⟩
  go_wp2_with fail
  generalize (around spoilt 4 == 1) = s1 at *
  refine (Tos_any c K 5 s1 H.out (by omega) (by omega)).mono ?_
  rintro e w1 ⟨vx, rfl, hx, hb1⟩
  have HX := Lib.hid hx
  have B1 := Lib.hid hb1
  clear hx
  go_wp2_with fail
  refine (around_any _ _ _ q0 q1 (by omega) (by omega)).mono ?_
  rintro e w' ⟨rfl, rfl⟩
  go_wp2_with fail
  generalize (around spoilt 4 == 2) = s2 at *
  refine (Tos_any c' 5 6 s2 (H'.out.below hb1) (by omega) (by omega)).mono ?_
  rintro e w2 ⟨vy, rfl, hy, hb2⟩
  have HX2 := Lib.hid (own_below HX.out hb2)
  have HY := Lib.hid hy
  have B2 := Lib.hid (hb1.trans (hb2.mono hb1.size))
  have B1w := Lib.hid hb1.size
  clear hb1 hb2 hy B1
  obtain ⟨Ax, cx, rfl, hrx, -, -⟩ := row_form HX2.out
  obtain ⟨Ay, cy, rfl, hry, -, -⟩ := row_form HY.out
  have TX := Lib.hid (tosV_own HX2.out)
  have TY := Lib.hid (tosV_own HY.out)
  have XY := Lib.hid (own_apart (W := w1) HX.out HY.out)
  clear hrx hry HX
  generalize hts : tosS K 5 zs s1 = ts at *
  have Lts : Hid (ts.length = K) := by show ts.length = K; rw [← hts]; simp
  clear hts
  generalize hus : tosS 5 6 zs' s2 = us at *
  have Lus : Hid (us.length = 5) := by show us.length = 5; rw [← hus]; simp
  clear hus
  go_wp2_with fail
  refine (tos_any cx TX.out (by omega)).mono ?_
  rintro e w3 ⟨v3, rfl, h3, hb3⟩
  obtain ⟨A3, c3, rfl, hr3, -, -⟩ := row_form h3
  have T3 := Lib.hid (tosV_own h3)
  have B3 := Lib.hid hb3
  clear h3 hr3
  go_wp2_with fail
  refine (tos_any cy (TY.out.below hb3) (by omega)).mono ?_
  rintro e w4 ⟨v4, rfl, h4, hb4⟩
  obtain ⟨A4, c4, rfl, hr4, -, -⟩ := row_form h4
  have T4 := Lib.hid (tosV_own h4)
  have T3' := Lib.hid (T3.out.below hb4)
  have B4 := Lib.hid (hb3.trans (hb4.mono hb3.size))
  clear h4 hr4 hb3 hb4 B3 T3
  go_wp2_with fail
  refine (then_all c3 c4 T3'.out T4.out (by omega) (by omega)).mono ?_
  rintro e w5 ⟨Aa, ca, rfl, ra, hb5⟩
  have B5 := Lib.hid (B4.out.trans (hb5.mono B4.out.size))
  have Ra := Lib.hid ra
  clear hb5 ra B4 T3' T4
  go_wp2_with fail
  refine (rthen_all cx cy (TX.out.below B5.out) (TY.out.below B5.out) (by omega) (by omega)).mono ?_
  rintro e w6 ⟨Ab, cb, rfl, rb, hb6⟩
  have B6 := Lib.hid (B5.out.trans (hb6.mono B5.out.size))
  have Ta : Hid (TosV w6 Aa (thenL ts us).length (thenL ts us)) := ⟨(Ra.out.below hb6).more hb6.size, rfl⟩
  have Tb : Hid (TosV w6 Ab (thenL ts us).length (thenL ts us)) := ⟨rb, rfl⟩
  have hLt : (thenL ts us).length ≤ 1000000 := by have := thenL_len ts us; have := Lts.out; omega
  clear hb6 rb Ra B5
  generalize thenL ts us = T at *
  generalize thenE ts us = E at *
  generalize T.length = nT at *
  have e0 : (E != E) = false := by simp
  go_wp2_with fail
  refine (plain_any ca Ta.out hLt).mono ?_
  rintro e w7 ⟨v7, rfl, h7, hb7⟩
  obtain ⟨A7, c7, rfl, hr7, -, -⟩ := row_form h7
  have T7 := Lib.hid (tosV_own h7)
  have B7 := Lib.hid (B6.out.trans (hb7.mono B6.out.size))
  have Tb7 := Lib.hid (Tb.out.below hb7)
  clear h7 hr7 hb7 B6 Ta Tb
  go_wp2_with fail
  refine (Same_eq c7 cb T7.out Tb7.out hLt).mono ?_
  rintro e w8 ⟨rfl, hb8⟩
  have B8 := Lib.hid (B7.out.trans (hb8.mono B7.out.size))
  clear hb8 B7 T7 Tb7 hLt e0
  have B8w := Lib.hid (B2.out.trans (B8.out.mono B2.out.size))
  go_wp2_with fail
  refine (held_any c'' K 0 (H''.out.below B8w.out) (by omega) (by omega)).mono ?_
  rintro e w9 ⟨vh, rfl, h9, hb9⟩
  have B9 := Lib.hid (B8.out.trans (hb9.mono B8.out.size))
  have h3 : Three w w9 (.slice Ax K cx) (.slice Ay 5 cy) vh K ts us (heldL zs'' 0 K) := by
    have hx8 := own_below HX2.out B8.out
    have hy8 := own_below HY.out B8.out
    exact ⟨own_below hx8 hb9, own_lower (own_below hy8 hb9) B1w.out, own_lower h9 B8w.out.size, XY.out, own_apart hx8 h9, own_apart hy8 h9, B8w.out.trans (hb9.mono B8w.out.size)⟩
  have H3 := Lib.hid h3
  have HU := Lib.hid (heldL_Units zs'' 0 K)
  have HUl : Hid ((heldL zs'' 0 K).length = K) := by show (heldL zs'' 0 K).length = K; simp
  clear h9 hb9 B9 B8 B8w h3 HX2 HY TX TY XY B2
  generalize heldL zs'' 0 K = hs at *
  go_wp2_with fail
  go_loopw [19] (fun i wr => ∃ k : Nat, k ≤ K ∧ i = .int .i64 k ∧ Three w wr (.slice Ax K cx) (.slice Ay 5 cy) vh K (cutTo ts k) us (cutH hs k)) (fun i _ => K - (intOf i).toNat)
  case atStart => exact ⟨0, Nat.zero_le _, rfl, H3.out⟩
  case round =>
    obtain ⟨k, hk, rfl, h3⟩ := hrel
    clear H3
    have H3 := Lib.hid h3
    clear h3
    by_cases hlt : k < K
    · obtain ⟨gx, capx, ex⟩ := own_slice H3.out.x (by omega)
      cases ex
      obtain ⟨gh, caph, rfl⟩ := own_slice H3.out.h (by omega)
      have hkl : k < (cutTo ts k).length := by rw [cutTo_length]; have := Lts.out; omega
      have hkh : k < (cutH hs k).length := by rw [cutH_length]; have := HUl.out; omega
      have u0 := (cutH_units HU.out k).at_ k
      have c1 : wr.cell? ⟨gh, k, none⟩ = some (.int .i64 (wAt (cutH hs k) k)) := (H3.out.h.cellAt k (by omega)).trans (ints_at _ k hkh)
      have f1 : wr.frozen? ⟨gh, k, none⟩ = false := H3.out.h.frozenAt k
      have c2 : wr.cell? ⟨gx, k * 3 + 2, none⟩ = some (.int .i64 (denAt (cutTo ts k) k)) := (H3.out.x.cellAt _ (by omega)).trans (tcells_at _ k hkl).2.2
      have f2 : wr.frozen? ⟨gx, k * 3 + 2, none⟩ = false := H3.out.x.frozenAt _
      have lh : gh < wr.heap.size := (H3.out.h.lt gh rfl).2
      have lx : gx < wr.heap.size := (H3.out.x.lt gx rfl).2
      have hgg : gx ≠ gh := fun e => H3.out.xh gx rfl (by rw [e]; rfl)
      have HN := Lib.hid ((H3.out.setH k (wAt (cutH hs k) k % 1000)).setX k (min (denAt (cutTo ts k) k) 1) hkl)
      have HE1 : Hid (cutTo ts (k + 1) = setDen (cutTo ts k) k (min (denAt (cutTo ts k) k) 1)) := rfl
      have HE2 : Hid (cutH hs (k + 1) = (cutH hs k).set k (wAt (cutH hs k) k % 1000)) := rfl
      rw [← HE1.out, ← HE2.out] at HN
      clear H3 hkl hkh HE1 HE2
      generalize wAt (cutH hs k) k = x at *
      obtain ⟨M, hM⟩ : ∃ M, M = min (denAt (cutTo ts k) k) 1 := ⟨_, rfl⟩
      rw [← hM] at HN
      generalize denAt (cutTo ts k) k = z at *
      have hM2 : (if 1 < z then 1 else z) = M := by rw [hM]; split <;> omega
      have k0 : (0 : Int) ≤ (k : Int) := by omega
      have k1 : (k : Int) < (K : Int) := by omega
      obtain ⟨x0, x1⟩ := u0
      clear hM
      go_wp2_with fail
      go_roundw
      case rel => exact ⟨k + 1, by omega, by go_num, HN.out⟩
      case measure => simp [intOf]; omega
    · obtain rfl : k = K := by omega
      have HD := Lib.hid (cutTo_den ts k (by have := Lts.out; omega))
      have HUk := Lib.hid (cutH_units HU.out k)
      have Lk : Hid ((cutTo ts k).length = k) := by show (cutTo ts k).length = k; rw [cutTo_length, Lts.out]
      have Lh : Hid ((cutH hs k).length = k) := by show (cutH hs k).length = k; rw [cutH_length, HUl.out]
      clear HU HUl Lts
      generalize cutTo ts k = xs at *
      generalize cutH hs k = hs' at *
      go_wp2_with fail
      go_loopw [20] (fun i wx => ∃ j : Nat, j ≤ 5 ∧ i = .int .i64 j ∧ Three w wx (.slice Ax k cx) (.slice Ay 5 cy) vh k xs (cutTo us j) hs') (fun i _ => 5 - (intOf i).toNat)
      case atStart => exact ⟨0, Nat.zero_le _, rfl, H3.out⟩
      case round =>
        obtain ⟨j, hj, rfl, h3⟩ := hrel
        clear H3
        have H3 := Lib.hid h3
        clear h3
        by_cases hltj : j < 5
        · obtain ⟨gy, capy, ey⟩ := own_slice H3.out.y (by omega)
          cases ey
          have hjl : j < (cutTo us j).length := by rw [cutTo_length]; have := Lus.out; omega
          have c2 : wr.cell? ⟨gy, j * 3 + 2, none⟩ = some (.int .i64 (denAt (cutTo us j) j)) := (H3.out.y.cellAt _ (by omega)).trans (tcells_at _ j hjl).2.2
          have f2 : wr.frozen? ⟨gy, j * 3 + 2, none⟩ = false := H3.out.y.frozenAt _
          have ly : gy < wr.heap.size := (H3.out.y.lt gy rfl).2
          have HN := Lib.hid (H3.out.setY j (min (denAt (cutTo us j) j) 1) hjl)
          have HE1 : Hid (cutTo us (j + 1) = setDen (cutTo us j) j (min (denAt (cutTo us j) j) 1)) := rfl
          rw [← HE1.out] at HN
          clear H3 hjl HE1
          obtain ⟨M, hM⟩ : ∃ M, M = min (denAt (cutTo us j) j) 1 := ⟨_, rfl⟩
          rw [← hM] at HN
          generalize denAt (cutTo us j) j = z at *
          have hM2 : (if 1 < z then 1 else z) = M := by rw [hM]; split <;> omega
          have j0 : (0 : Int) ≤ (j : Int) := by omega
          have j1 : (j : Int) < (5 : Int) := by omega
          clear hM
          go_wp2_with fail
          go_roundw
          case rel => exact ⟨j + 1, by omega, by go_num, HN.out⟩
          case measure => simp [intOf]; omega
        · obtain rfl : j = 5 := by omega
          have HD2 := Lib.hid (cutTo_den us 5 (by have := Lus.out; omega))
          have Ly : Hid ((cutTo us 5).length = 5) := by show (cutTo us 5).length = 5; rw [cutTo_length, Lus.out]
          clear Lus
          generalize cutTo us 5 = ys at *
          obtain ⟨Ah, ch, rfl, hrh, nh, -⟩ := row_form H3.out.h
          have TX := Lib.hid (tosV_own H3.out.x)
          have TY := Lib.hid (tosV_own H3.out.y)
          have IH : Hid (IntsV wr Ah k hs') := ⟨hrh, Lh.out.symm, HUk.out.wf⟩
          have Nh := Lib.hid nh
          have BW := Lib.hid H3.out.below
          have HTw := Lib.hid (HT.out.below H3.out.below HT.out.1)
          have LV : Hid (∀ W, Below wr.heap.size wr W → Calls Tryz.prog 17 #[] W fun e w' => e = .returned (.bool true) ∧ Below w.heap.size w w') := fun W hW => by
            refine (HL.out W (HTw.out.below hW HTw.out.1)).mono ?_
            rintro e w' ⟨rfl, hb⟩
            exact ⟨rfl, (BW.out.trans (hW.mono BW.out.size)).trans (hb.mono (Nat.le_trans BW.out.size hW.size))⟩
          clear hrh nh H3 HL HTw HT H H' H''
          go_wp2_with fail
          refine (tos_any cx TX.out (by omega)).mono ?_
          rintro e w3 ⟨v3, rfl, h3, hb3⟩
          obtain ⟨A3, c3, rfl, hr3, -, -⟩ := row_form h3
          have T3 := Lib.hid (tosV_own h3)
          clear h3 hr3
          go_wp2_with fail
          refine (tos_any cy (TY.out.below hb3) (by omega)).mono ?_
          rintro e w4 ⟨v4, rfl, h4, hb4⟩
          obtain ⟨A4, c4, rfl, hr4, -, -⟩ := row_form h4
          have T4 := Lib.hid (tosV_own h4)
          have T3' := Lib.hid (T3.out.below hb4)
          have B4 := Lib.hid (hb3.trans (hb4.mono hb3.size))
          clear h4 hr4 hb3 hb4 T3
          go_wp2_with fail
          refine (then_all c3 c4 T3'.out T4.out (by omega) (by omega)).mono ?_
          rintro e w5 ⟨Aa, ca, rfl, ra, hb5⟩
          have B5 := Lib.hid (B4.out.trans (hb5.mono B4.out.size))
          have Ta : Hid (TosV w5 Aa (thenL xs ys).length (thenL xs ys)) := ⟨ra, rfl⟩
          have hLt : (thenL xs ys).length ≤ 1000000 := by have := thenL_len xs ys; have := Lk.out; omega
          clear hb5 ra B4 T3' T4
          go_wp2_with fail
          refine (tos_any cx (TX.out.below B5.out) (by omega)).mono ?_
          rintro e w6 ⟨v6, rfl, h6, hb6⟩
          obtain ⟨A6, c6, rfl, hr6, -, -⟩ := row_form h6
          have T6 := Lib.hid (tosV_own h6)
          have B6 := Lib.hid (B5.out.trans (hb6.mono B5.out.size))
          have Ta6 := Lib.hid (Ta.out.below hb6)
          clear h6 hr6 hb6 B5 Ta
          go_wp2_with fail
          refine (conv_all c6 ch 5 T6.out (IH.out.below B6.out) (by omega) (by omega) (by omega) (by omega) Nh.out).mono ?_
          rintro e w7 ⟨A1, c1, A2, c2, rfl, r1, r2, hb7⟩
          have B7 := Lib.hid (B6.out.trans (hb7.mono B6.out.size))
          have Ta7 := Lib.hid (Ta6.out.below hb7)
          have R1 := Lib.hid r1
          clear hb7 r1 r2 B6 Ta6 T6
          by_cases hE : thenE xs ys = 0
          · have hE1 : (thenE xs ys != 0) = false := by simpa using hE
            have HE := Lib.hid hE
            clear hE
            by_cases hC : convE xs 5 hs' = 0
            · have hC1 : (convE xs 5 hs' != 0) = false := by simpa using hC
              have HC := Lib.hid hC
              have l5 : (nowL xs 5 hs').length = 5 := by unfold nowL; rw [if_pos hC]; simp
              have I1 : Hid (IntsV w7 A1 (nowL xs 5 hs').length (nowL xs 5 hs')) := by
                exact ⟨R1.out, rfl, (nowL_units hC).wf⟩
              have l5' : (nowL xs 5 hs').length ≤ 1000000 := by omega
              have N1 : Hid (A1 = none → (nowL xs 5 hs').length = 0 ∧ c1 = 0) := fun e => by
                exfalso
                rcases R1.out with h0 | ⟨b, off, h0, _⟩
                · have := congrArg List.length h0
                  rw [ints_length, l5] at this
                  simp at this
                · rw [e] at h0; cases h0
              have e5 : ((ys.length : Nat) : Int) = 5 := by rw [Ly.out]; rfl
              have law : convE ys 6 (nowL xs 5 hs') = 0 → convE (thenL xs ys) 6 hs' = 0 ∧ nowL (thenL xs ys) 6 hs' = nowL ys 6 (nowL xs 5 hs') := fun h => by
                have := then_law (ts := xs) (us := ys) (hs := hs') (n2 := 6) (fun i hi => HD.out i (by have := Lk.out; omega)) (fun i hi => HD2.out i (by have := Ly.out; omega)) HE.out
                rw [e5] at this
                exact this hC h
              have l6 : convE ys 6 (nowL xs 5 hs') = 0 → (leftL ys 6 (nowL xs 5 hs')).length = 5 := fun h => by unfold leftL; rw [if_pos h]; simp [Ly.out]
              have LAW := Lib.hid law
              have L6 := Lib.hid l6
              have NL1 := nowL_len ys 6 (nowL xs 5 hs')
              clear hC law l6 e5 l5
              generalize thenE xs ys = E at *
              generalize convE xs 5 hs' = F at *
              generalize nowL xs 5 hs' = N5 at *
              generalize thenL xs ys = T at *
              go_wp2_with fail
              refine (tos_any cy (TY.out.below B7.out) (by omega)).mono ?_
              rintro e w8 ⟨v8, rfl, h8, hb8⟩
              obtain ⟨A8, c8, rfl, hr8, -, -⟩ := row_form h8
              have T8 := Lib.hid (tosV_own h8)
              have B8 := Lib.hid (B7.out.trans (hb8.mono B7.out.size))
              have I8 := Lib.hid (I1.out.below hb8)
              have Ta8 := Lib.hid (Ta7.out.below hb8)
              clear h8 hr8 hb8 B7 Ta7 I1
              go_wp2_with fail
              with_reducible refine (conv_all c8 c1 6 T8.out I8.out (by omega) l5' (by omega) (by omega) N1.out).mono ?_
              rintro e w9 ⟨A11, c11, A12, c12, rfl, r11, r12, hb9⟩
              have B9 := Lib.hid (B8.out.trans (hb9.mono B8.out.size))
              have Ta9 := Lib.hid (Ta8.out.below hb9)
              have R11 := Lib.hid r11
              clear r11 r12 hb9 B8 Ta8 I8 T8
              go_wp2_with fail
              with_reducible refine (conv_all ca ch 6 Ta9.out (IH.out.below B9.out) hLt (by omega) (by omega) (by omega) Nh.out).mono ?_
              rintro e w10 ⟨A13, c13, A14, c14, rfl, r13, r14, hb10⟩
              have B10 := Lib.hid (B9.out.trans (hb10.mono B9.out.size))
              have R11' := Lib.hid ((R11.out.below hb10).more hb10.size)
              have R13 := Lib.hid r13
              clear r13 r14 hb10 B9 Ta9 R11
              by_cases hD : convE ys 6 N5 = 0
              · have hD1 : (convE ys 6 N5 != 0) = false := by simpa using hD
                obtain ⟨q1, q2⟩ := LAW.out hD
                have q3 : (convE T 6 hs' == 0) = true := by simpa using q1
                have q4 : (((leftL ys 6 N5).length : Int) == 5) = true := by rw [L6.out hD]; rfl
                have q5 : (leftL ys 6 N5).length = 5 := L6.out hD
                have S := same_any (c := c11) (c' := c13) R11'.out R13.out rfl rfl (by omega)
                rw [show sameB (nowL ys 6 N5) (nowL T 6 hs') = true from by rw [q2]; simp [sameB]] at S
                have HS := Lib.hid S
                clear S q1 q2 hD LAW L6
                generalize convE ys 6 N5 = D1 at *
                generalize convE T 6 hs' = D2 at *
                generalize (leftL ys 6 N5).length = n5 at *
                generalize (nowL ys 6 N5).length = n6 at *
                generalize (nowL T 6 hs').length = n7 at *
                go_wp2_with fail
                refine HS.out.mono ?_
                rintro e w11 ⟨rfl, hb11⟩
                have B11 := Lib.hid (B10.out.trans (hb11.mono B10.out.size))
                clear hb11 B10
                go_wp2_with fail
                refine (LV.out _ B11.out).mono ?_
                rintro e w12 ⟨rfl, hb12⟩
                go_wp2_with fail
                go_ret
                exact ⟨rfl, hb12⟩
              · have hD1 : (convE ys 6 N5 != 0) = true := by simpa using hD
                clear hD LAW L6
                generalize convE ys 6 N5 = D1 at *
                generalize convE T 6 hs' = D2 at *
                go_wp2_with fail
                refine (LV.out _ B10.out).mono ?_
                rintro e w12 ⟨rfl, hb12⟩
                go_wp2_with fail
                go_ret
                exact ⟨rfl, hb12⟩
            · have hC1 : (convE xs 5 hs' != 0) = true := by simpa using hC
              clear hC
              generalize thenE xs ys = E at *
              generalize convE xs 5 hs' = F at *
              go_wp2_with fail
              refine (LV.out _ B7.out).mono ?_
              rintro e w8 ⟨rfl, hb8⟩
              go_wp2_with fail
              go_ret
              exact ⟨rfl, hb8⟩
          · have hE1 : (thenE xs ys != 0) = true := by simpa using hE
            clear hE
            generalize thenE xs ys = E at *
            generalize convE xs 5 hs' = F at *
            go_wp2_with fail
            refine (LV.out _ B7.out).mono ?_
            rintro e w8 ⟨rfl, hb8⟩
            go_wp2_with fail
            go_ret
            exact ⟨rfl, hb8⟩

end Go.Proofs.YthjfdfdgbpbanaaGreatDoor
