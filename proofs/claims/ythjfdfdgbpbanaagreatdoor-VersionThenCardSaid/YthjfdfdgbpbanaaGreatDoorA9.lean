/- The contract of Convert. -/
import Derived.Test.YthjfdfdgbpbanaaGreatDoorA8
namespace Go.Proofs.YthjfdfdgbpbanaaGreatDoor
open Go.RowKit

/-- The two rows that Convert writes: the sums in block g, what is left in v. -/
structure ConvAt (w0 W : World) (g : Nat) (v : Value) (m : Nat) (now left : List Int) : Prop where
  bk : Bk W g 3 (ints now)
  own : W.ownsRow w0.heap.size 3 1 v m (ints left)
  ge : w0.heap.size ≤ g
  ne : v.ownBlock ≠ some g
  below : Below w0.heap.size w0 W
section
variable {w0 W : World} {g m : Nat} {v : Value} {now left : List Int}
theorem ConvAt.drew (h : ConvAt w0 W g v m now left) : ConvAt w0 W.drew g v m now left := ⟨h.bk, h.own, h.ge, h.ne, h.below.drew⟩
theorem ConvAt.drewN (h : ConvAt w0 W g v m now left) (n : Nat) : ConvAt w0 (W.drewN n) g v m now left := ⟨h.bk, h.own, h.ge, h.ne, bel_drewN h.below n⟩
theorem ConvAt.alloc (h : ConvAt w0 W g v m now left) (o : Obj) : ConvAt w0 (W.alloc o) g v m now left := ⟨h.bk.alloc o, h.own.alloc o, h.ge, h.ne, h.below.alloc h.below.size o⟩
theorem grown_setCell (W : World) (g j : Nat) (u : Value) : W.grownBy (W.setCell ⟨g, j, none⟩ u) (some g) :=
  ⟨rfl, rfl, rfl, by simp [World.setCell], fun i _ hi => Below.heap_setCell _ _ _ _ (fun e => hi (by rw [e]))⟩
theorem ConvAt.setNow (h : ConvAt w0 W g v m now left) (j : Nat) (x : Int) : ConvAt w0 (W.setCell ⟨g, j, none⟩ (.int .i64 x)) g v m (now.set j x) left :=
  ⟨by rw [← ints_set]; exact h.bk.set j _, h.own.kept (grown_setCell W g j _) (.inr h.ne), h.ge, h.ne, h.below.setCell h.ge _⟩
theorem ConvAt.setLeft {g2 cap : Nat} (h : ConvAt w0 W g (.slice (some ⟨g2, 0, none⟩) m cap) m now left) (j : Nat) (x : Int) :
    ConvAt w0 (W.setCell ⟨g2, j, none⟩ (.int .i64 x)) g (.slice (some ⟨g2, 0, none⟩) m cap) m now (left.set j x) :=
  ⟨h.bk.far (fun e => h.ne (by rw [e]; rfl)) _, by rw [← ints_set]; exact (h.own.stored j _).1, h.ge, h.ne, h.below.setCell (h.own.lt g2 rfl).1 _⟩
end

theorem undrew {B : Nat} {X W : World} (h : Below B X.drew W) : Below B X W := ⟨h.os, h.tape, h.output, h.size, h.block⟩

theorem conv_start {w W wA : World} {v : Value} {m n : Nat} {hs : List Int} (hb : Below w.heap.size w W) (ho : wA.ownsRow W.heap.size 3 1 v m (ints hs)) (hbA : Below W.heap.size W wA) :
    ConvAt w (wA.alloc (.cells (ints (List.replicate n 0)).toArray 3)) wA.heap.size v m (List.replicate n 0) hs := by
  have hlt := fun g h => ho.lt g h
  refine ⟨Bk.new wA 3 _, ?_, ?_, ?_, (hb.trans (hbA.mono hb.size)).alloc ?_ _⟩
  · have : wA.ownsRow w.heap.size 3 1 v m (ints hs) := ⟨ho.1, ho.2.imp id fun ⟨g, cap, cur, h1, h2, h3⟩ => ⟨g, cap, cur, h1, Nat.le_trans hb.size h2, h3⟩⟩
    exact this.alloc _
  · exact Nat.le_trans hb.size hbA.size
  · intro e
    have := (hlt _ e).2
    omega
  · exact Nat.le_trans hb.size hbA.size
theorem conv_start2 {w W wA : World} {v : Value} {m n : Nat} {hs : List Int} (hb : Below w.heap.size w W) (ho : wA.ownsRow (W.heap.size + 1) 3 1 v m (ints hs)) (hbA : Below (W.heap.size + 1) (W.alloc (.cells (ints (List.replicate n 0)).toArray 3)) wA) :
    ConvAt w wA W.heap.size v m (List.replicate n 0) hs := by
  have hlt := fun g h => ho.lt g h
  refine ⟨(Bk.new W 3 _).below hbA (by omega), ?_, hb.size, ?_, (hb.alloc hb.size _).trans (hbA.mono ?_)⟩
  · exact ⟨ho.1, ho.2.imp id fun ⟨g, cap, cur, h1, h2, h3⟩ => ⟨g, cap, cur, h1, by have := hb.size; omega, h3⟩⟩
  · intro e
    have := (hlt _ e).1
    omega
  · have := hb.size; omega

theorem convE_lim {ts : List Tr} {n : Int} {hs : List Int} (h : argB ts n hs = true) (h2 : limB ts n hs = false) : convE ts n hs = 4 := by
  unfold convE; rw [if_neg (by rw [h]; decide), if_pos h2]
theorem convE_ok {ts : List Tr} {n : Int} {hs : List Int} (h : argB ts n hs = true) (h2 : limB ts n hs = true) : convE ts n hs = 0 := by
  unfold convE; rw [if_neg (by rw [h]; decide), if_neg (by rw [h2]; decide)]
theorem convPost_ok {w W : World} {ts : List Tr} {n : Nat} {hs : List Int} {g m cap : Nat} {v : Value} (h : argB ts n hs = true) (h2 : limB ts n hs = true) (hm : m = ts.length) (hA : ConvAt w W g v m (nowK ts hs n m) (leftK ts hs m m)) :
    ConvPost w ts n hs (.returned (.tuple #[.slice (some ⟨g, 0, none⟩) n cap, v, .int .i64 0])) W := by
  have h0 := convE_ok h h2
  have e1 : nowL ts n hs = nowK ts hs n m := by unfold nowL; rw [if_pos h0, hm]; rfl
  have e2 : leftL ts n hs = leftK ts hs m m := by unfold leftL; rw [if_pos h0, leftK_all, hm]
  obtain ⟨A, c, hv, hr⟩ := row_of_owns hA.own
  refine ⟨some ⟨g, 0, none⟩, cap, A, c, ?_, ?_, ?_, hA.below⟩
  · rw [e1, e2, h0, hv]; simp
  · rw [e1]; exact hA.bk.row
  · rw [e2]; exact hr

theorem prod_bd {K p : Int} (h0 : 0 ≤ K) (h1 : K ≤ 1099511627776) (p0 : 1 ≤ p) (p1 : p ≤ 1048576) : 0 ≤ K * p ∧ K * p ≤ 1152921504606846976 := by
  refine ⟨Int.mul_nonneg h0 (by omega), ?_⟩
  have a := Int.mul_le_mul_of_nonneg_left p1 h0
  have b : K * 1048576 ≤ 1099511627776 * 1048576 := Int.mul_le_mul_of_nonneg_right h1 (by omega)
  omega

set_option maxRecDepth 100000 in
set_option maxHeartbeats 2000000 in
theorem conv_good {w : World} {A A' : Option Addr} {m m' : Nat} (c c' : Nat) {ts : List Tr} (n : Nat) {hs : List Int} (ht : TosV w A m ts) (hh : IntsV w A' m' hs) (hm : m ≤ 1000000) (hm' : m' ≤ 1000000)
    (hA' : A' = none → m' = 0 ∧ c' = 0) (hgood : argB ts n hs = true) :
    Calls Tryz.prog 27 #[.slice A m c, .int .i64 n, .slice A' m' c'] w (ConvPost w ts n hs) := by
  have hg := hgood
  simp only [argB, Bool.and_eq_true, decide_eq_true_eq] at hg
  obtain ⟨⟨⟨⟨_, hn64⟩, hv⟩, hl⟩, hu⟩ := hg
  have hmm : m = m' := by rw [ht.len, hh.len]; exact hl
  have K1 := Lib.hid (valid_any c n ht hm (by omega) (by omega))
  rw [hv] at K1
  have HU := Lib.hid hh
  have HT := Lib.hid ht
  have Hlt := Lib.hid ht.len
  have Hlh := Lib.hid hh.len
  have HG := Lib.hid hgood
  have HV := Lib.hid hv
  have HUn := Lib.hid hu
  have HL := Lib.hid hl
  have e1 : ((m : Int) != (m' : Int)) = false := by simp; omega
  have e64 : n ≤ 64 := by omega
  have Hmm := Lib.hid hmm
  clear hgood hv ht hh hu hl hmm
  have mk := fun W => make_ints n (by omega) W
  go_enter Tryz.func27, Tryz.ntmps27
  go_wp2_with fail
  refine K1.out.mono ?_
  rintro e w1 ⟨rfl, hb1⟩
  have K2 := units_any (c := c') (HU.out.below hb1).row Hlh.out (by omega)
  rw [HUn.out] at K2
  have HK2 := Lib.hid K2
  clear K2
  go_wp2_with fail
  refine HK2.out.mono ?_
  rintro e w2 ⟨rfl, rfl⟩
  have KC : Hid (∀ W : World, Below w1.heap.size w1 W → Calls Tryz.prog 59 #[.slice A' m' c'] W fun e w' => ∃ v, e = .returned v ∧ w'.ownsRow W.heap.size 3 1 v m' (ints hs) ∧ Below W.heap.size W w') :=
    fun W hW => clone_ints ((HU.out.below hb1).below hW) hm' hA'
  clear K1 HK2
  go_wp2_with fail
  go_cut [6, 7] (fun x v wx => ∃ g, x = .slice (some ⟨g, 0, none⟩) n n ∧ ConvAt w wx g v m' (List.replicate n 0) hs)
  case first =>
    go_region_with (first
      | (go_at_call 59; refine (KC.out _ ?_).mono ?_; (first | exact (Below.refl _ _).drew | exact (Below.refl _ _).drew.alloc (Nat.le_refl _) _); rintro e wA ⟨v, rfl, hoA, hbA⟩))
    all_goals (try go_wp2_with fail)
    all_goals go_meet
    all_goals first
      | exact ⟨_, rfl, conv_start (hb1.drew) hoA hbA⟩
      | exact ⟨_, rfl, conv_start2 hb1 (by simpa using hoA) (undrew (by simpa using hbA))⟩
  case rest =>
    obtain ⟨g, rfl, hC⟩ := hcut
    clear KC mk
    have HC := Lib.hid hC
    clear hC
    generalize hwc : wc = W0 at *
    clear hwc
    go_wp2_with fail
    generalize u7 = v0 at *
    go_loopw [6, 7, 42] (fun xn xl i wr => xn = .slice (some ⟨g, 0, none⟩) n n ∧ xl = v0 ∧ ∃ k : Nat, k ≤ m ∧ i = .int .i64 k ∧ ConvAt w wr g v0 m' (nowK ts hs n k) (leftK ts hs m' k) ∧ ∀ j : Nat, j < n → sumTo ts hs j k ≤ 1099511627776) (fun _ _ i _ => m - (intOf i).toNat)
    case atStart =>
      refine ⟨rfl, rfl, 0, Nat.zero_le _, rfl, ?_, fun j _ => by simp [sumTo]⟩
      rw [nowK_zero, Hlh.out, leftK_zero, ← Hlh.out]
      exact HC.out
    case round =>
      obtain ⟨rfl, hv0, k, hk, rfl, hC, hS⟩ := hrel
      subst hv0
      clear HC
      have HC := Lib.hid hC
      have HS := Lib.hid hS
      clear hC hS
      by_cases hlt : k < m
      · have hkl : k < ts.length := by have := Hlt.out; omega
        have hkh : k < m' := by have := Hmm.out; omega
        have hB := HC.out.below
        obtain ⟨b, off, rfl, hbb, hc⟩ := (HT.out.below hB).row.at_ 0 (by rw [tcells_length]; omega)
        obtain ⟨b', off', rfl, hbb', hc'⟩ := (HU.out.below hB).row.at_ k (by rw [ints_length]; have := Hlh.out; omega)
        obtain ⟨t1, t2, t3⟩ := tcells_at ts k hkl
        have c1 := hc _ _ t1
        have c2 := hc _ _ t2
        have c3 := hc _ _ t3
        simp only [← Nat.add_assoc] at c2 c3
        have d1 : wr.cell? ⟨b', off' + k, none⟩ = some (.int .i64 (wAt hs k)) := hc' k _ (ints_at hs k (by have := Hlh.out; omega))
        have ho := okT_cases (validTo_at HV.out k hkl)
        have hun : 0 ≤ wAt hs k ∧ wAt hs k ≤ 1099511627776 := by
          have := HUn.out
          simp only [unitsB, decide_eq_true_eq] at this
          exact this k (by have := Hlh.out; omega)
        obtain ⟨u0, u1⟩ := hun
        obtain ⟨g2, cap, rfl⟩ : ∃ g2 cap, u7 = .slice (some ⟨g2, 0, none⟩) m' cap := by
          rcases HC.out.own.2 with ⟨_, h0⟩ | ⟨g2, cap, cur, hv, _⟩
          · omega
          · exact ⟨g2, cap, hv⟩
        clear hc hc' t1 t2 t3 hB
        by_cases hneg : itemAt ts k < 0
        · have HN := Lib.hid (nowK_skip ts hs n k hneg)
          have HLf := Lib.hid (leftK_skip ts hs m' k hneg)
          have HS2 : Hid (∀ j : Nat, j < n → sumTo ts hs j (k + 1) ≤ 1099511627776) := fun j hj => by
            simp only [sumTo]; rw [if_neg (by omega)]; have := HS.out j hj; omega
          have hC2 := HC.out.alloc (.cells #[.int .i64 (itemAt ts k), .int .i64 (numAt ts k), .int .i64 (denAt ts k)] 64)
          have HC2 := Lib.hid hC2
          clear hC2 ho HC HS
          generalize itemAt ts k = i at *
          generalize numAt ts k = p at *
          generalize denAt ts k = q at *
          go_wp2
          go_roundw
          case rel => exact ⟨rfl, rfl, k + 1, by omega, by go_num, by rw [HN.out, HLf.out]; exact HC2.out, HS2.out⟩
          case measure => simp [intOf]; omega
        · rcases ho with ho | ⟨i0, i1, p0, p1, q0, q1⟩
          · omega
          obtain ⟨j, hj⟩ := Int.eq_ofNat_of_zero_le i0
          have hjn : j < n := by omega
          have hLs := leftK_step ts hs m' k hneg hkh
          have hNs := nowK_step ts hs n k j hj hjn
          have hx0 : 0 ≤ sumTo ts hs j k := sumTo_nonneg HV.out HUn.out HL.out.symm (by omega)
          have hx1 := HS.out j hjn
          have hmono : sumTo ts hs j (k + 1) ≤ sumTo ts hs j ts.length := sumTo_mono HV.out HUn.out HL.out.symm (by omega) (Nat.le_refl _)
          have hsucc : sumTo ts hs j (k + 1) = sumTo ts hs j k + term ts hs k := by simp [sumTo, hj]
          rw [hsucc] at hmono
          have HSx : Hid (sumTo ts hs j k + term ts hs k ≤ 1099511627776 → ∀ i : Nat, i < n → sumTo ts hs i (k + 1) ≤ 1099511627776) := fun h i hi => by
            by_cases e : i = j
            · subst e; rw [hsucc]; exact h
            · simp only [sumTo]; rw [if_neg (by omega)]; have := HS.out i hi; omega
          have HE4 : Hid (1099511627776 < sumTo ts hs j k + term ts hs k → convE ts n hs = 4) := fun h => by
            refine convE_lim HG.out ?_
            simp only [limB, decide_eq_false_iff_not]
            intro hall
            have := hall j (by simpa using hjn)
            unfold mu at this
            omega
          have hK0 : 0 ≤ wAt hs k / denAt ts k := Int.ediv_nonneg u0 (by omega)
          have hK1 : wAt hs k / denAt ts k ≤ 1099511627776 := Int.le_trans (Int.ediv_le_self _ u0) u1
          have hT := prod_bd hK0 hK1 p0 p1
          have hD : wAt hs k - wAt hs k / denAt ts k * denAt ts k = wAt hs k % denAt ts k := by
            have := Int.emod_def (wAt hs k) (denAt ts k)
            rw [Int.mul_comm] at this; omega
          have hD0 := Int.emod_nonneg (wAt hs k) (show denAt ts k ≠ 0 by omega)
          have hterm : term ts hs k = wAt hs k / denAt ts k * numAt ts k := rfl
          have htd : (wAt hs k).tdiv (denAt ts k) = wAt hs k / denAt ts k := Int.tdiv_eq_ediv_of_nonneg u0
          rw [← hD] at hLs hD0
          rw [hterm] at hmono HSx HE4
          have n1 : wr.cell? ⟨g, j, none⟩ = some (.int .i64 (sumTo ts hs j k)) := (HC.out.bk.cell j).trans (by simp [ints, nowK_at _ _ _ _ _ hjn])
          have f1 : wr.frozen? ⟨g, j, none⟩ = false := HC.out.bk.frozen j
          have l1 : wr.cell? ⟨g2, k, none⟩ = some (.int .i64 (wAt hs k)) := (HC.out.own.cellAt k (by omega)).trans (by simp [ints, leftK_at _ _ _ _ hkh])
          have f2 : wr.frozen? ⟨g2, k, none⟩ = false := HC.out.own.frozenAt k
          have lg : g < wr.heap.size := HC.out.bk.lt
          have lg2 : g2 < wr.heap.size := (HC.out.own.lt g2 rfl).2
          have hgg : g ≠ g2 := fun e => HC.out.ne (by rw [e]; rfl)
          have Hn1 : Hid ((ints (nowK ts hs n k))[j]? = some (.int .i64 (sumTo ts hs j k))) := by show (ints (nowK ts hs n k))[j]? = _; simp [ints, nowK_at _ _ _ _ _ hjn]
          have Hl1 : Hid ((ints (leftK ts hs m' k))[k]? = some (.int .i64 (wAt hs k))) := by show (ints (leftK ts hs m' k))[k]? = _; simp [ints, leftK_at _ _ _ _ hkh]
          have Hn2 : Hid ((ints (nowK ts hs n (k + 1)))[j]? = some (.int .i64 (sumTo ts hs j k + term ts hs k))) := by show (ints (nowK ts hs n (k + 1)))[j]? = _; simp only [ints, List.getElem?_map, nowK_at _ _ _ _ _ hjn, hsucc]; rfl
          have HNs := Lib.hid hNs
          have HLs := Lib.hid hLs
          rw [hterm] at HNs Hn2
          have HC1 := HC.out.alloc (.cells #[.int .i64 (itemAt ts k), .int .i64 (numAt ts k), .int .i64 (denAt ts k)] 64)
          rw [hj] at c1 HC1
          clear hNs hLs hsucc hterm hmono hD hneg i0 i1 HS
          generalize hKK : wAt hs k / denAt ts k = K at *
          generalize sumTo ts hs j k = x at *
          generalize hhk : wAt hs k = h at *
          generalize numAt ts k = p at *
          generalize denAt ts k = q at *
          have g0 : (q == 0) = false := by simp; omega
          have g1 : ¬ q = 0 := by omega
          have g3 : IntKind.i64.wrap K = K := IntWalk.i64_in _ (by omega)
          obtain ⟨T, hTe⟩ : ∃ T, T = K * p := ⟨_, rfl⟩
          obtain ⟨D, hDe⟩ : ∃ D, D = K * q := ⟨_, rfl⟩
          rw [← hTe] at hT HNs Hn2 HSx HE4
          rw [← hDe] at HLs hD0
          have g4 : IntKind.i64.wrap (K * p) = T := by rw [hTe]; exact IntWalk.i64_in _ (by omega)
          have hq2 := Int.mul_nonneg hK0 (show 0 ≤ q by omega)
          rw [← hDe] at hq2
          have g5 : IntKind.i64.wrap (K * q) = D := by rw [hDe]; exact IntWalk.i64_in _ (by omega)
          have g6 : IntKind.i64.wrap (x + T) = x + T := IntWalk.i64_in _ (by omega)
          have g7 : IntKind.i64.wrap (h - D) = h - D := IntWalk.i64_in _ (by omega)
          have j0 : (0 : Int) ≤ (j : Int) := by omega
          have j1 : (j : Int) < (n : Int) := by omega
          have k0 : (0 : Int) ≤ (k : Int) := by omega
          have k1 : (k : Int) < (m' : Int) := by omega
          have hj2 : ¬ (j : Int) < 0 := by omega
          have HC1' := Lib.hid HC1
          have hX : Hid (Bk (wr.alloc (.cells #[.int .i64 (j : Int), .int .i64 p, .int .i64 q] 64)) wr.heap.size 64 [.int .i64 (j : Int), .int .i64 p, .int .i64 q]) := Bk.new wr 64 [.int .i64 (j : Int), .int .i64 p, .int .i64 q]
          have d1' : (wr.alloc (.cells #[.int .i64 (j : Int), .int .i64 p, .int .i64 q] 64)).cell? ⟨b', off' + k, none⟩ = some (.int .i64 h) := (World.cell?_alloc_past _ _ _ hbb').trans d1
          have hgx : g ≠ wr.heap.size := by omega
          have hgx2 : g2 ≠ wr.heap.size := by omega
          clear hKK hhk HC HC1 d1 f1 f2 n1 l1 lg lg2 hTe hDe
          go_wp2_with fail
          generalize wr.alloc (.cells #[.int .i64 (j : Int), .int .i64 p, .int .i64 q] 64) = W at *
          have gxW := hX.out.lt
          generalize wr.heap.size = gx at *
          have x0 : W.cell? ⟨gx, 0, none⟩ = some (.int .i64 (j : Int)) := hX.out.cell 0
          have x1 : W.cell? ⟨gx, 1, none⟩ = some (.int .i64 p) := hX.out.cell 1
          have x2 : W.cell? ⟨gx, 2, none⟩ = some (.int .i64 q) := hX.out.cell 2
          go_quiet (fail)
          have HC2 := Lib.hid (HC1'.out.drewN nq)
          have HX2 := Lib.hid (hX.out.drewN nq)
          clear x0 x1 x2 d1' HC1' hX
          generalize W.drewN nq = V at *
          have x0 : V.cell? ⟨gx, 0, none⟩ = some (.int .i64 (j : Int)) := HX2.out.cell 0
          have x1 : V.cell? ⟨gx, 1, none⟩ = some (.int .i64 p) := HX2.out.cell 1
          have x2 : V.cell? ⟨gx, 2, none⟩ = some (.int .i64 q) := HX2.out.cell 2
          have n1 : V.cell? ⟨g, j, none⟩ = some (.int .i64 x) := (HC2.out.bk.cell j).trans Hn1.out
          have f1 : V.frozen? ⟨g, j, none⟩ = false := HC2.out.bk.frozen j
          have lg : g < V.heap.size := HC2.out.bk.lt
          clear g0 g1 g3 htd
          go_wp2_with fail
          go_still_tail 11, (by kernel_rfl)
          change wpList _ _ _ _ _ V.drew
          have HC3 := Lib.hid (HC2.out.drew)
          have HX3 := Lib.hid (HX2.out.drew)
          clear x0 x1 x2 n1 f1 lg HC2 HX2
          generalize V.drew = V1 at *
          have n1 : V1.cell? ⟨g, j, none⟩ = some (.int .i64 x) := (HC3.out.bk.cell j).trans Hn1.out
          have f1 : V1.frozen? ⟨g, j, none⟩ = false := HC3.out.bk.frozen j
          have lg : g < V1.heap.size := HC3.out.bk.lt
          go_wp2_with fail
          have HC4 := Lib.hid (HC3.out.setNow j (x + T))
          have HX4 : Hid (Bk (V1.setCell ⟨g, j, none⟩ (.int .i64 (x + T))) gx 64 [.int .i64 (j : Int), .int .i64 p, .int .i64 q]) := HX3.out.far (Ne.symm hgx) _
          rw [HNs.out] at HC4
          clear n1 f1 lg HC3 HX3 g4 g6
          generalize V1.setCell ⟨g, j, none⟩ (.int .i64 (x + T)) = V2 at *
          have x2 : V2.cell? ⟨gx, 2, none⟩ = some (.int .i64 q) := HX4.out.cell 2
          have l1 : V2.cell? ⟨g2, k, none⟩ = some (.int .i64 h) := (HC4.out.own.cellAt k (by omega)).trans Hl1.out
          have f2 : V2.frozen? ⟨g2, k, none⟩ = false := HC4.out.own.frozenAt k
          have lg2 : g2 < V2.heap.size := (HC4.out.own.lt g2 rfl).2
          go_still_tail 10, (by kernel_rfl)
          change wpList _ _ _ _ _ V2.drew
          have HC5 := Lib.hid (HC4.out.drew)
          have HX5 := Lib.hid (HX4.out.drew)
          clear x2 l1 f2 lg2 HC4 HX4
          generalize V2.drew = V3 at *
          have l1 : V3.cell? ⟨g2, k, none⟩ = some (.int .i64 h) := (HC5.out.own.cellAt k (by omega)).trans Hl1.out
          have f2 : V3.frozen? ⟨g2, k, none⟩ = false := HC5.out.own.frozenAt k
          have lg2 : g2 < V3.heap.size := (HC5.out.own.lt g2 rfl).2
          have HC6 := Lib.hid (HC5.out.setLeft k (h - D))
          rw [HLs.out] at HC6
          have x0 : (V3.setCell ⟨g2, k, none⟩ (.int .i64 (h - D))).cell? ⟨gx, 0, none⟩ = some (.int .i64 (j : Int)) := (HX5.out.far (p := ⟨g2, k, none⟩) (Ne.symm hgx2) _).cell 0
          have n4 : (V3.setCell ⟨g2, k, none⟩ (.int .i64 (h - D))).cell? ⟨g, j, none⟩ = some (.int .i64 (x + T)) := (HC6.out.bk.cell j).trans Hn2.out
          clear g5 g7
          by_cases hbig : 1099511627776 < x + T
          · have HE := Lib.hid (HE4.out hbig)
            go_wp2_with fail
            go_ret3
            exact convPost_err HE.out (by omega) HC6.out.below
          · have HSn := Lib.hid (HSx.out (by omega))
            go_wp2_with fail
            go_roundw
            case rel => exact ⟨rfl, rfl, k + 1, by omega, by go_num, HC6.out, HSn.out⟩
            case measure => simp [intOf]; omega
      · have hkm : k = m := by omega
        have hkl : k = ts.length := by have := Hlt.out; omega
        have hkm2 : m' = k := by have := Hmm.out; omega
        have hlim : limB ts n hs = true := by
          simp only [limB, decide_eq_true_eq]
          intro j hj
          rw [← hkl]
          exact HS.out j (by simpa using hj)
        have hC := HC.out
        rw [hkm2] at hC
        have HF := Lib.hid (convPost_ok (cap := n) HG.out hlim hkl hC)
        clear hC hlim hkl hkm2 hkm
        go_wp2_with fail
        go_ret3
        exact HF.out

end Go.Proofs.YthjfdfdgbpbanaaGreatDoor
