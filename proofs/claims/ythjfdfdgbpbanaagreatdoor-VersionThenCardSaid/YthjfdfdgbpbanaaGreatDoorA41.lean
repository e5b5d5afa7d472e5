/- The contract of version.Then. -/
import Derived.Test.YthjfdfdgbpbanaaGreatDoorP3
import Derived.Test.YthjfdfdgbpbanaaGreatDoorA40
import Derived.Test.YthjfdfdgbpbanaaGreatDoorA22
namespace Go.Proofs.YthjfdfdgbpbanaaGreatDoor
open Go.RowKit

/-- The counterparts after k rounds. -/
def thenK (ts us : List Tr) (n k : Nat) : List Tr := (List.range n).map fun i => if i < k then thenAt ts us i else (0, 0, 0)
@[simp] theorem thenK_length (ts us : List Tr) (n k : Nat) : (thenK ts us n k).length = n := by simp [thenK]
theorem thenK_zero (ts us : List Tr) (n : Nat) : thenK ts us n 0 = List.replicate n (0, 0, 0) := by simp [thenK, List.map_const']
theorem thenK_all (ts us : List Tr) (n : Nat) : thenK ts us n n = thenN ts us n := by
  unfold thenK thenN
  apply List.map_congr_left
  intro i hi
  rw [if_pos (by simpa using hi)]
theorem thenK_step (ts us : List Tr) (n k : Nat) (hk : k < n) : (thenK ts us n k).set k (thenAt ts us k) = thenK ts us n (k + 1) := by
  apply List.ext_getElem?
  intro i
  by_cases e : k = i
  · subst e
    rw [List.getElem?_set_self (by simpa using hk)]
    simp [thenK, hk]
  · rw [List.getElem?_set_ne e]
    by_cases hi : i < n
    · simp only [thenK, List.getElem?_map, List.getElem?_range hi, Option.map_some, Option.some.injEq]
      by_cases h2 : i < k
      · rw [if_pos h2, if_pos (by omega)]
      · rw [if_neg h2, if_neg (by omega)]
    · rw [List.getElem?_eq_none (by simp; omega), List.getElem?_eq_none (by simp; omega)]
theorem thenK_step2 (ts us : List Tr) (n k : Nat) (t : Tr) (hk : k < n) : ((thenK ts us n k).set k t).set k (thenAt ts us k) = thenK ts us n (k + 1) := by
  rw [List.set_set, thenK_step _ _ _ _ hk]

/-- The row that Then writes: block g. -/
structure ThenAt (w0 W : World) (g : Nat) (L : List Tr) : Prop where
  bk : Bk W g 64 (tcells L)
  ge : w0.heap.size ≤ g
  below : Below w0.heap.size w0 W
section
variable {w0 W W' : World} {g : Nat} {L : List Tr}
theorem ThenAt.drewN (h : ThenAt w0 W g L) (n : Nat) : ThenAt w0 (W.drewN n) g L := ⟨h.bk, h.ge, bel_drewN h.below n⟩
theorem ThenAt.alloc (h : ThenAt w0 W g L) (o : Obj) : ThenAt w0 (W.alloc o) g L := ⟨h.bk.alloc o, h.ge, h.below.alloc h.below.size o⟩
theorem ThenAt.grow (h : ThenAt w0 W g L) (hb : Below W.heap.size W W') : ThenAt w0 W' g L := ⟨h.bk.below hb h.bk.lt, h.ge, h.below.trans (hb.mono h.below.size)⟩
theorem ThenAt.set (h : ThenAt w0 W g L) (a : Nat) (x y z : Int) (ha : a < L.length) :
    ThenAt w0 (((W.setCell ⟨g, a * 3, none⟩ (.int .i64 x)).setCell ⟨g, a * 3 + 1, none⟩ (.int .i64 y)).setCell ⟨g, a * 3 + 2, none⟩ (.int .i64 z)) g (L.set a (x, y, z)) :=
  ⟨by rw [tcells_set _ _ _ ha]; exact ((h.bk.set _ _).set _ _).set _ _, h.ge, ((h.below.setCell h.ge _).setCell h.ge _).setCell h.ge _⟩
theorem ThenAt.cells (h : ThenAt w0 W g L) (a : Nat) (ha : a < L.length) : W.cell? ⟨g, a * 3, none⟩ = some (.int .i64 (itemAt L a)) ∧ W.cell? ⟨g, a * 3 + 1, none⟩ = some (.int .i64 (numAt L a)) ∧ W.cell? ⟨g, a * 3 + 2, none⟩ = some (.int .i64 (denAt L a)) := by
  obtain ⟨t1, t2, t3⟩ := tcells_at L a ha
  exact ⟨(h.bk.cell _).trans t1, (h.bk.cell _).trans t2, (h.bk.cell _).trans t3⟩
end

set_option maxRecDepth 100000 in
set_option maxHeartbeats 1000000 in
theorem then_bad {w : World} {A A' : Option Addr} {m m' : Nat} (c c' : Nat) {ts us : List Tr} (ht : TosV w A m ts) (hu : TosV w A' m' us) (hm : m ≤ 1000000) (hm' : m' ≤ 1000000) (hbad : thenArg ts us = false) :
    Calls Tryz.prog 30 #[.slice A m c, .slice A' m' c'] w (ThenPost w ts us) := by
  have HE := Lib.hid (thenE_bad hbad)
  have K1 := valid_any c m' ht hm (by omega) (by omega)
  rw [hu.len] at K1
  have K2 : Hid (∀ W, Below w.heap.size w W → Calls Tryz.prog 57 #[.slice A' m' c', .int .i64 64] W fun e w' => e = .returned (.bool (validB us 64)) ∧ Below W.heap.size W w') := fun W hW =>
    valid_any c' 64 (hu.below hW) hm' (by omega) (by omega)
  cases hv : validB ts (us.length : Int)
  · rw [hv, ← hu.len] at K1
    have HK1 := Lib.hid K1
    clear hbad hv ht hu K1 K2
    go_enter Tryz.func30, Tryz.ntmps30
    go_wp2_with fail
    refine HK1.out.mono ?_
    rintro e w1 ⟨rfl, hb1⟩
    go_wp2
    go_ret2
    exact thenPost_err HE.out (by omega) hb1
  · have hv2 : validB us 64 = false := by
      cases h2 : validB us 64
      · rfl
      · simp [thenArg, hv, h2] at hbad
    rw [hv, ← hu.len] at K1
    rw [hv2] at K2
    have HK1 := Lib.hid K1
    clear hbad hv hv2 ht hu K1
    go_enter Tryz.func30, Tryz.ntmps30
    go_wp2_with fail
    refine HK1.out.mono ?_
    rintro e w1 ⟨rfl, hb1⟩
    go_wp2_with fail
    refine (K2.out _ hb1).mono ?_
    rintro e w2 ⟨rfl, hb2⟩
    go_wp2
    go_ret2
    exact thenPost_err HE.out (by omega) (hb1.trans (hb2.mono hb1.size))

set_option maxRecDepth 100000 in
set_option maxHeartbeats 2000000 in
theorem then_good {w : World} {A A' : Option Addr} {m m' : Nat} (c c' : Nat) {ts us : List Tr} (ht : TosV w A m ts) (hu : TosV w A' m' us) (hm : m ≤ 1000000) (hm' : m' ≤ 1000000) (hgood : thenArg ts us = true) :
    Calls Tryz.prog 30 #[.slice A m c, .slice A' m' c'] w (ThenPost w ts us) := by
  have hg := hgood
  simp only [thenArg, Bool.and_eq_true] at hg
  have K1 := valid_any c m' ht hm (by omega) (by omega)
  rw [hu.len, hg.1, ← hu.len] at K1
  have K2 : Hid (∀ W, Below w.heap.size w W → Calls Tryz.prog 57 #[.slice A' m' c', .int .i64 64] W fun e w' => e = .returned (.bool true) ∧ Below W.heap.size W w') := fun W hW => by
    have := valid_any c' 64 (hu.below hW) hm' (by omega) (by omega)
    rw [hg.2] at this
    exact this
  have HK1 := Lib.hid K1
  have HT := Lib.hid ht
  have HU := Lib.hid hu
  have Hlt := Lib.hid ht.len
  have Hlu := Lib.hid hu.len
  have HG := Lib.hid hgood
  clear hgood hg ht hu K1
  have mk := fun W => make_tos m hm W
  go_enter Tryz.func30, Tryz.ntmps30
  go_wp2_with fail
  refine HK1.out.mono ?_
  rintro e w1 ⟨rfl, hb1⟩
  go_wp2_with fail
  refine (K2.out _ hb1).mono ?_
  rintro e w2 ⟨rfl, hb2⟩
  have hb : Below w.heap.size w w2 := hb1.trans (hb2.mono hb1.size)
  clear hb1 hb2 K2 HK1
  go_wp2_with fail
  have hC0 : ThenAt w (w2.alloc (.cells (tcells (List.replicate m (0, 0, 0))).toArray 64)) w2.heap.size (List.replicate m (0, 0, 0)) := ⟨Bk.new w2 64 _, hb.size, hb.alloc hb.size _⟩
  have HC0 := Lib.hid hC0
  clear hC0 mk hb
  generalize w2.heap.size = g at *
  generalize w2.alloc (.cells (tcells (List.replicate m (0, 0, 0))).toArray 64) = W0 at *
  go_loopw [28] (fun i wr => ∃ k : Nat, k ≤ m ∧ i = .int .i64 k ∧ ThenAt w wr g (thenK ts us m k) ∧ fatTo ts us k = false) (fun i _ => m - (intOf i).toNat)
  case atStart => exact ⟨0, Nat.zero_le _, rfl, by rw [thenK_zero]; exact HC0.out, rfl⟩
  case round =>
    obtain ⟨k, hk, rfl, hC, hF⟩ := hrel
    clear HC0
    have HC := Lib.hid hC
    have HF := Lib.hid hF
    clear hC hF
    by_cases hlt : k < m
    · have hkl : k < ts.length := by have := Hlt.out; omega
      have hB := HC.out.below
      obtain ⟨b, off, rfl, hbb, hc⟩ := (HT.out.below hB).row.at_ 0 (by rw [tcells_length]; omega)
      obtain ⟨t1, t2, t3⟩ := tcells_at ts k hkl
      have c1 := hc _ _ t1
      have c2 := hc _ _ t2
      have c3 := hc _ _ t3
      simp only [← Nat.add_assoc] at c2 c3
      obtain ⟨n1, n2, n3⟩ := HC.out.cells k (by simpa using hlt)
      have f1 := HC.out.bk.frozen (k * 3)
      have f2 := HC.out.bk.frozen (k * 3 + 1)
      have f3 := HC.out.bk.frozen (k * 3 + 2)
      have lg := HC.out.bk.lt
      have hgb : g ≠ wr.heap.size := by omega
      have HS1 := Lib.hid (thenK_step ts us m k hlt)
      have HS2 := Lib.hid (thenK_step2 ts us m k (-1, 0, 0) hlt)
      have HA := Lib.hid ((HC.out.set k (-1) 0 0 (by simpa using hlt)).alloc (.cells #[.int .i64 (itemAt ts k), .int .i64 (numAt ts k), .int .i64 (denAt ts k)] 64))
      clear hc t1 t2 t3
      by_cases hneg : itemAt ts k < 0
      · have hl : liveB ts us k = false := by simp [liveB]; omega
        have ha : thenAt ts us k = (-1, 0, 0) := by simp [thenAt, hl]
        have HF2 : Hid (fatTo ts us (k + 1) = false) := by show fatTo ts us (k + 1) = false; simp [fatTo, HF.out, fatB, hl]
        rw [ha] at HS1
        rw [HS1.out] at HA
        clear hl ha HS1 HS2 hkl hB HC HF
        generalize itemAt ts k = i at *
        generalize numAt ts k = p at *
        generalize denAt ts k = q at *
        generalize itemAt (thenK ts us m k) k = z1 at *
        generalize numAt (thenK ts us m k) k = z2 at *
        generalize denAt (thenK ts us m k) k = z3 at *
        go_wp2_with fail
        go_roundw
        case rel => exact ⟨k + 1, by omega, by go_num, HA.out, HF2.out⟩
        case measure => simp [intOf]; omega
      · obtain ⟨hmid, hit, hlive⟩ := live_facts HG.out hkl (show 0 ≤ itemAt ts k by omega)
        obtain ⟨b', off', rfl, hbb', hc'⟩ := (HU.out.below hB).row.at_ 0 (by rw [tcells_length]; omega)
        obtain ⟨t1, t2, t3⟩ := tcells_at us (midAt ts k) hmid
        have d1 := hc' _ _ t1
        have d2 := hc' _ _ t2
        have d3 := hc' _ _ t3
        simp only [← Nat.add_assoc] at d2 d3
        have hmm : midAt ts k < m' := by have := Hlu.out; omega
        rw [hit] at c1 HA
        clear hc' t1 t2 t3
        have hbg : b' ≠ g := by
          intro e
          have h1 := HC.out.ge
          have h2 : b' < w.heap.size := by
            obtain ⟨b2, off2, e2, hb2, _⟩ := HU.out.row.at_ 0 (by rw [tcells_length]; omega)
            cases e2
            exact hb2
          omega
        by_cases hneg2 : itemAt us (midAt ts k) < 0
        · have hl : liveB ts us k = false := by simp [liveB]; omega
          have ha : thenAt ts us k = (-1, 0, 0) := by simp [thenAt, hl]
          have HF2 : Hid (fatTo ts us (k + 1) = false) := by show fatTo ts us (k + 1) = false; simp [fatTo, HF.out, fatB, hl]
          rw [ha] at HS1
          rw [HS1.out] at HA
          clear hl ha HS1 HS2 hkl hB HC HF hneg hit hlive hmid
          generalize midAt ts k = j at *
          generalize numAt ts k = p at *
          generalize denAt ts k = q at *
          generalize itemAt us j = i' at *
          generalize numAt us j = p' at *
          generalize denAt us j = q' at *
          generalize itemAt (thenK ts us m k) k = z1 at *
          generalize numAt (thenK ts us m k) k = z2 at *
          generalize denAt (thenK ts us m k) k = z3 at *
          have j0 : (0 : Int) ≤ (j : Int) := by omega
          have j1 : (j : Int) < (m' : Int) := by omega
          have j2 : ¬ (j : Int) < 0 := by omega
          go_wp2_with fail
          go_roundw
          case rel => exact ⟨k + 1, by omega, by go_num, HA.out, HF2.out⟩
          case measure => simp [intOf]; omega
        · rcases hlive with hl | ⟨i0, i1, p0, p1, q0, q1, r0, r1, s0, s1⟩
          · omega
          have hl : liveB ts us k = true := by simp [liveB]; omega
          have hP := prod_bd2 p0 p1 r0 r1
          have hQ := prod_bd2 q0 q1 s0 s1
          have hgd := gcd_bd (q := denAt ts k * denAt us (midAt ts k)) hP.1
          have hz1 := quo_bd hP.1 hgd.1 (Int.gcd_dvd_left ..)
          have hz2 := quo_bd hQ.1 hgd.1 (Int.gcd_dvd_right ..)
          have ha : thenAt ts us k = (itemAt us (midAt ts k), pAt ts us k / gAt ts us k, qAt ts us k / gAt ts us k) := by simp [thenAt, hl]
          have hf : fatTo ts us (k + 1) = (decide (1048576 < pAt ts us k / gAt ts us k) || decide (1048576 < qAt ts us k / gAt ts us k)) := by simp [fatTo, HF.out, fatB, hl]
          have hE5 : fatTo ts us (k + 1) = true → thenE ts us = 5 := fun h => thenE_fat HG.out (fatTo_stays h _ (by omega))
          have ep : pAt ts us k = numAt ts k * numAt us (midAt ts k) := rfl
          have eq : qAt ts us k = denAt ts k * denAt us (midAt ts k) := rfl
          have eg : gAt ts us k = (Int.gcd (numAt ts k * numAt us (midAt ts k)) (denAt ts k * denAt us (midAt ts k)) : Int) := rfl
          rw [ep, eq, eg] at ha hf
          rw [ha] at HS2
          have HFt := Lib.hid hf
          have HE5 := Lib.hid hE5
          have K62 := Lib.hid (fun W => divisor_any (numAt ts k * numAt us (midAt ts k)) (denAt ts k * denAt us (midAt ts k)) W hP.1 hQ.1 (by omega) (by omega))
          clear hl ha hf hE5 ep eq eg HS1 HF hkl hB hneg hit hmid HA
          have HW := Lib.hid (HC.out.set k (-1) 0 0 (by simpa using hlt))
          generalize midAt ts k = j at *
          generalize numAt ts k = p at *
          generalize denAt ts k = q at *
          generalize itemAt us j = i' at *
          generalize numAt us j = p' at *
          generalize denAt us j = q' at *
          generalize itemAt (thenK ts us m k) k = y1 at *
          generalize numAt (thenK ts us m k) k = y2 at *
          generalize denAt (thenK ts us m k) k = y3 at *
          have htd1 : (p * p').tdiv (Int.gcd (p * p') (q * q') : Int) = p * p' / (Int.gcd (p * p') (q * q') : Int) := Int.tdiv_eq_ediv_of_nonneg (by omega)
          have htd2 : (q * q').tdiv (Int.gcd (p * p') (q * q') : Int) = q * q' / (Int.gcd (p * p') (q * q') : Int) := Int.tdiv_eq_ediv_of_nonneg (by omega)
          have g4 : IntKind.i64.wrap (p * p') = p * p' := IntWalk.i64_in _ (by omega)
          have g5 : IntKind.i64.wrap (q * q') = q * q' := IntWalk.i64_in _ (by omega)
          generalize (Int.gcd (p * p') (q * q') : Int) = G at *
          generalize hP1 : p * p' = P at *
          generalize hQ1 : q * q' = Q at *
          generalize P / G = z1 at *
          generalize Q / G = z2 at *
          have g0 : (G == 0) = false := by simp; omega
          have g1 : ¬ G = 0 := by omega
          have g6 : IntKind.i64.wrap z1 = z1 := IntWalk.i64_in _ (by omega)
          have g7 : IntKind.i64.wrap z2 = z2 := IntWalk.i64_in _ (by omega)
          have j0 : (0 : Int) ≤ (j : Int) := by omega
          have j1 : (j : Int) < (m' : Int) := by omega
          have j2 : ¬ (j : Int) < 0 := by omega
          have HG2 := Lib.hid ((HW.out.alloc (.cells #[.int .i64 (j : Int), .int .i64 p, .int .i64 q] 64)).alloc (.cells #[.int .i64 i', .int .i64 p', .int .i64 q'] 64))
          have HX := Lib.hid ((Bk.new (((wr.setCell ⟨g, k * 3, none⟩ (.int .i64 (-1))).setCell ⟨g, k * 3 + 1, none⟩ (.int .i64 0)).setCell ⟨g, k * 3 + 2, none⟩ (.int .i64 0)) 64 [.int .i64 (j : Int), .int .i64 p, .int .i64 q]).alloc (.cells #[.int .i64 i', .int .i64 p', .int .i64 q'] 64))
          have HY := Lib.hid (Bk.new ((((wr.setCell ⟨g, k * 3, none⟩ (.int .i64 (-1))).setCell ⟨g, k * 3 + 1, none⟩ (.int .i64 0)).setCell ⟨g, k * 3 + 2, none⟩ (.int .i64 0)).alloc (.cells #[.int .i64 (j : Int), .int .i64 p, .int .i64 q] 64)) 64 [.int .i64 i', .int .i64 p', .int .i64 q'])
          have hs1 : (((wr.setCell ⟨g, k * 3, none⟩ (.int .i64 (-1))).setCell ⟨g, k * 3 + 1, none⟩ (.int .i64 0)).setCell ⟨g, k * 3 + 2, none⟩ (.int .i64 0)).heap.size = wr.heap.size := by simp [World.setCell]
          rw [hs1] at HX
          rw [World.size_alloc, hs1] at HY
          clear hs1 HW HC
          go_wp2_with fail
          clear c1 c2 c3 d1 d2 d3 n1 n2 n3 f1 f2 f3
          generalize (((((wr.setCell ⟨g, k * 3, none⟩ (.int .i64 (-1))).setCell ⟨g, k * 3 + 1, none⟩ (.int .i64 0)).setCell ⟨g, k * 3 + 2, none⟩ (.int .i64 0)).alloc (.cells #[.int .i64 (j : Int), .int .i64 p, .int .i64 q] 64)).alloc (.cells #[.int .i64 i', .int .i64 p', .int .i64 q'] 64)) = V at *
          generalize wr.heap.size = gx at *
          have x1 : V.cell? ⟨gx, 1, none⟩ = some (.int .i64 p) := HX.out.cell 1
          have x2 : V.cell? ⟨gx, 2, none⟩ = some (.int .i64 q) := HX.out.cell 2
          have e1 : V.cell? ⟨gx + 1, 1, none⟩ = some (.int .i64 p') := HY.out.cell 1
          have e2 : V.cell? ⟨gx + 1, 2, none⟩ = some (.int .i64 q') := HY.out.cell 2
          go_quiet (fail)
          have HG3 := Lib.hid (HG2.out.drewN nq)
          have HY3 := Lib.hid (HY.out.drewN nq)
          clear x1 x2 e1 e2 HG2 HX HY hP1 hQ1 g4 g5
          generalize V.drewN nq = V2 at *
          go_wp2_with fail
          refine (K62.out _).mono ?_
          rintro e V3 ⟨rfl, hb3⟩
          have HG4 := Lib.hid (HG3.out.grow hb3)
          have HY4 := Lib.hid (HY3.out.below hb3 HY3.out.lt)
          clear HG3 HY3 hb3 K62
          go_wp2_with fail
          go_quiet (fail)
          have HG5 := Lib.hid (HG4.out.drewN nq)
          have HY5 := Lib.hid (HY4.out.drewN nq)
          clear HG4 HY4 htd1 htd2 g0 g1 g6 g7
          generalize V3.drewN nq = V4 at *
          by_cases hb1 : 1048576 < z1
          · have HE := Lib.hid (HE5.out (by rw [HFt.out]; simp [hb1]))
            go_wp2_with fail
            go_ret2
            exact thenPost_err HE.out (by omega) HG5.out.below
          by_cases hb2 : 1048576 < z2
          · have HE := Lib.hid (HE5.out (by rw [HFt.out]; simp [hb2]))
            go_wp2_with fail
            go_ret2
            exact thenPost_err HE.out (by omega) HG5.out.below
          have HF2 : Hid (fatTo ts us (k + 1) = false) := by show fatTo ts us (k + 1) = false; rw [HFt.out]; simp; omega
          have hkL : k < ((thenK ts us m k).set k (-1, 0, 0)).length := by simpa using hlt
          obtain ⟨n1, n2, n3⟩ := HG5.out.cells k hkL
          have f1 := HG5.out.bk.frozen (k * 3)
          have f2 := HG5.out.bk.frozen (k * 3 + 1)
          have f3 := HG5.out.bk.frozen (k * 3 + 2)
          have lg2 := HG5.out.bk.lt
          have y0 : V4.cell? ⟨gx + 1, 0, none⟩ = some (.int .i64 i') := HY5.out.cell 0
          have HG6 := Lib.hid (HG5.out.set k i' z1 z2 hkL)
          rw [HS2.out] at HG6
          clear HG5 hkL
          generalize itemAt ((thenK ts us m k).set k (-1, 0, 0)) k = y1' at *
          generalize numAt ((thenK ts us m k).set k (-1, 0, 0)) k = y2' at *
          generalize denAt ((thenK ts us m k).set k (-1, 0, 0)) k = y3' at *
          go_wp2_with fail
          go_roundw
          case rel => exact ⟨k + 1, by omega, by go_num, HG6.out, HF2.out⟩
          case measure => simp [intOf]; omega
    · have hkm : k = m := by omega
      have hkl : k = ts.length := by have := Hlt.out; omega
      subst hkm
      have hC := HC.out
      rw [thenK_all] at hC
      have HP := Lib.hid (thenPost_ok (c := k) HG.out (by rw [← hkl]; exact HF.out) hkl hC.bk.row hC.below)
      clear hC hkl
      go_wp2_with fail
      go_ret2
      exact HP.out

end Go.Proofs.YthjfdfdgbpbanaaGreatDoor
