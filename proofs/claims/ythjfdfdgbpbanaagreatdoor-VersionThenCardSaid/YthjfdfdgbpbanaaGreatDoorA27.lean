/- The walk of version.Merge on catalogs of items alone, where nothing stands against it. -/
import Derived.Test.YthjfdfdgbpbanaaGreatDoorA26
import Derived.StillTailTactics
import Derived.Deep.MidRow
namespace Go.Proofs.YthjfdfdgbpbanaaGreatDoor
open Go.RowKit

abbrev nilS : Value := .slice none 0 0
structure MgAt (w W : World) (so sx : Sl) (bo bn : Nat) (lo ln : List It) (v : Value) (its : List It) : Prop where
  mo : MapI W bo so.n (idxTo lo so.n)
  mn : MapI W bn sx.n (idxTo ln sx.n)
  b1 : Bk W w.heap.size 28 [.slice so.A so.n so.c, nilS, nilS, nilS]
  b2 : Bk W (w.heap.size + 1) 28 [.slice sx.A sx.n sx.c, nilS, nilS, nilS]
  b3 : Bk W (w.heap.size + 2) 28 [nilS, nilS, nilS, nilS]
  own : W.ownsRow (w.heap.size + 3) 89 7 v its.length (icells its)
  below : Below w.heap.size w W
section
variable {w W W' : World} {so sx : Sl} {bo bn : Nat} {lo ln : List It} {v : Value} {its : List It}
theorem MgAt.grow (h : MgAt w W so sx bo bn lo ln v its) (hb : Below W.heap.size W W') : MgAt w W' so sx bo bn lo ln v its :=
  ⟨h.mo.below hb, h.mn.below hb, h.b1.below hb h.b1.lt, h.b2.below hb h.b2.lt, h.b3.below hb h.b3.lt, h.own.kept (grown_of_below hb none) (by cases v.ownBlock <;> simp), h.below.trans (hb.mono h.below.size)⟩
theorem MapI.ne_row {b n : Nat} {M : ByteArray → Option Nat} {base e size m : Nat} {u : Value} {xs : List Value} (h : MapI W b n M) (ho : W.ownsRow base e size u m xs) : some b ≠ u.ownBlock := by
  intro e1
  obtain ⟨D, ⟨es, clock, hh, _⟩, _⟩ := h
  rcases ho.2 with ⟨rfl, _⟩ | ⟨g, cap, cur, rfl, _, hg, _⟩
  · simp [Value.ownBlock] at e1
  · simp [Value.ownBlock] at e1
    subst e1
    rw [hh] at hg
    cases hg
/-- Whatever is done to the row alone. -/
theorem MgAt.turn {its' : List It} {v' : Value} (h : MgAt w W so sx bo bn lo ln v its) (hg : W.grownBy W' v.ownBlock) (ho : W'.ownsRow (w.heap.size + 3) 89 7 v' its'.length (icells its')) : MgAt w W' so sx bo bn lo ln v' its' := by
  have hr := row_base h.own
  refine ⟨h.mo.kept hg (h.mo.ne_row h.own), h.mn.kept hg (h.mn.ne_row h.own), h.b1.grown hg ?_, h.b2.grown hg ?_, h.b3.grown hg ?_, ho, h.below.grown hg h.below.size (fun g e => by have := hr g e; omega)⟩
  · intro e; have := hr _ e.symm; omega
  · intro e; have := hr _ e.symm; omega
  · intro e; have := hr _ e.symm; omega
theorem MgAt.setIt {g cap : Nat} (h : MgAt w W so sx bo bn lo ln (.slice (some ⟨g, 0, none⟩) its.length cap) its) (k : Nat) (t : It) (hk : k < its.length) :
    MgAt w (((((((W.setCell ⟨g, k * 7, none⟩ (.string t.name)).setCell ⟨g, k * 7 + 1, none⟩ (.bool t.object)).setCell ⟨g, k * 7 + 2, none⟩ (.bool t.mixed)).setCell ⟨g, k * 7 + 3, none⟩ (.bool t.coin)).setCell ⟨g, k * 7 + 4, none⟩ (.int .i64 t.wear)).setCell ⟨g, k * 7 + 5, none⟩ (.int .i64 t.bnd)).setCell ⟨g, k * 7 + 6, none⟩ (.int .i64 t.level)) so sx bo bn lo ln (.slice (some ⟨g, 0, none⟩) its.length cap) (its.set k t) := by
  have hr := row_base h.own g rfl
  have o7 := (((((((h.own.stored (k * 7) (.string t.name)).1.stored (k * 7 + 1) (.bool t.object)).1.stored (k * 7 + 2) (.bool t.mixed)).1.stored (k * 7 + 3) (.bool t.coin)).1.stored (k * 7 + 4) (.int .i64 t.wear)).1.stored (k * 7 + 5) (.int .i64 t.bnd)).1.stored (k * 7 + 6) (.int .i64 t.level)).1
  rw [← icells_set its k t hk] at o7
  have hl : (its.set k t).length = its.length := by simp
  refine ⟨?_, ?_, ?_, ?_, ?_, by rw [hl]; exact o7, ?_⟩
  · have hne : some bo ≠ some g := h.mo.ne_row h.own
    exact ((((((h.mo.kept (grown_setCell W g _ _) hne).kept (grown_setCell _ g _ _) hne).kept (grown_setCell _ g _ _) hne).kept (grown_setCell _ g _ _) hne).kept (grown_setCell _ g _ _) hne).kept (grown_setCell _ g _ _) hne).kept (grown_setCell _ g _ _) hne
  · have hne : some bn ≠ some g := h.mn.ne_row h.own
    exact ((((((h.mn.kept (grown_setCell W g _ _) hne).kept (grown_setCell _ g _ _) hne).kept (grown_setCell _ g _ _) hne).kept (grown_setCell _ g _ _) hne).kept (grown_setCell _ g _ _) hne).kept (grown_setCell _ g _ _) hne).kept (grown_setCell _ g _ _) hne
  · have hne : w.heap.size ≠ g := by omega
    exact ((((((h.b1.far hne _).far hne _).far hne _).far hne _).far hne _).far hne _).far hne _
  · have hne : w.heap.size + 1 ≠ g := by omega
    exact ((((((h.b2.far hne _).far hne _).far hne _).far hne _).far hne _).far hne _).far hne _
  · have hne : w.heap.size + 2 ≠ g := by omega
    exact ((((((h.b3.far hne _).far hne _).far hne _).far hne _).far hne _).far hne _).far hne _
  · have hle : w.heap.size ≤ g := by omega
    exact ((((((h.below.setCell (p := ⟨g, _, none⟩) hle _).setCell (p := ⟨g, _, none⟩) hle _).setCell (p := ⟨g, _, none⟩) hle _).setCell (p := ⟨g, _, none⟩) hle _).setCell (p := ⟨g, _, none⟩) hle _).setCell (p := ⟨g, _, none⟩) hle _).setCell (p := ⟨g, _, none⟩) hle _
end

def MergePost (w : World) (l : List It) (e : Ending) (w' : World) : Prop :=
  ∃ A c, e = .returned (.tuple #[.agg #[.slice A l.length c, nilS, nilS, nilS], .int .i64 0]) ∧ Row w' w'.heap.size A (icells l) ∧ Below w.heap.size w w'

theorem row_ne {W : World} {base : Nat} {e t : TypeId} {size n g : Nat} {v : Value} {xs ys : List Value} (h : W.ownsRow base e size v n xs) (hg : Bk W g t ys) (hne : e ≠ t) : v.ownBlock ≠ some g := by
  rcases h.2 with ⟨rfl, _⟩ | ⟨g', cap, cur, rfl, _, hh, _⟩
  · simp [Value.ownBlock]
  · intro he
    have : g' = g := by simpa [Value.ownBlock] using he
    subst this
    unfold Bk at hg
    rw [hg] at hh
    cases hh
    exact hne rfl
theorem MgAt.setP {w W : World} {so sx : Sl} {bo bn : Nat} {lo ln : List It} {v : Value} {its : List It} {g t : Nat} {xs : List Value} (h : MgAt w W so sx bo bn lo ln v its) (hk : Bk W g t xs) (ht : 89 ≠ t) (hg : w.heap.size + 3 ≤ g) (j : Nat) (u : Value) : MgAt w (W.setCell ⟨g, j, none⟩ u) so sx bo bn lo ln v its := by
  have gr := grown_setCell W g j u
  exact ⟨h.mo.kept gr (fun e => h.mo.ne_bk hk (Option.some.inj e)), h.mn.kept gr (fun e => h.mn.ne_bk hk (Option.some.inj e)), h.b1.far (by simp; omega) _, h.b2.far (by simp; omega) _, h.b3.far (by simp; omega) _, h.own.kept gr (.inr (row_ne h.own hk ht)), h.below.setCell (by simp; omega) _⟩
theorem mergeL_succ_old {lo ln : List It} {k : Nat} (h : (idxTo lo lo.length (itAt ln k).name).isSome = true) : mergeL lo ln (k + 1) = mergeL lo ln k := by simp [mergeL, newTo, h]
theorem mergeL_succ_new {lo ln : List It} {k : Nat} (h : (idxTo lo lo.length (itAt ln k).name).isSome = false) : mergeL lo ln (k + 1) = mergeL lo ln k ++ [itAt ln k] := by simp [mergeL, newTo, h]
theorem newTo_le (lo ln : List It) (k : Nat) : (newTo lo ln k).length ≤ k := by
  induction k with
  | zero => simp [newTo]
  | succ k ih =>
    simp only [newTo]
    split
    · omega
    · simp; omega
theorem mergeL_le (lo ln : List It) (k : Nat) : (mergeL lo ln k).length ≤ lo.length + k := by
  have := newTo_le lo ln k
  simp [mergeL]; omega
theorem new7 (w : World) (t : TypeId) (a b c d e f g : Value) : ∀ j u, ([a, b, c, d, e, f, g] : List Value)[j]? = some u → (w.alloc (.cells #[a, b, c, d, e, f, g] t)).cell? ((⟨w.heap.size, 0, none⟩ : Addr).add j) = some u := by
  intro j u hj
  match j, hj with
  | 0, hj => simp at hj; subst hj; simp [Addr.add]
  | 1, hj => simp at hj; subst hj; simp [Addr.add]
  | 2, hj => simp at hj; subst hj; simp [Addr.add]
  | 3, hj => simp at hj; subst hj; simp [Addr.add]
  | 4, hj => simp at hj; subst hj; simp [Addr.add]
  | 5, hj => simp at hj; subst hj; simp [Addr.add]
  | 6, hj => simp at hj; subst hj; simp [Addr.add]
  | j + 7, hj => simp at hj
theorem merge_end {w W w' : World} {so sx : Sl} {bo bn n c : Nat} {A : Option Addr} {lo ln its : List It} {u0 u1 u2 u3 : Value} (h : MgAt w W so sx bo bn lo ln (.slice A n c) its) (hn : n = its.length) (hb : Below W.heap.size W w') :
    MergePost w its (.returned (.tuple #[.agg #[.slice A n c, nilS, nilS, nilS], .int .i64 0])) ((((w'.setCell ⟨w.heap.size + 2, 0, none⟩ u0).setCell ⟨w.heap.size + 2, 1, none⟩ u1).setCell ⟨w.heap.size + 2, 2, none⟩ u2).setCell ⟨w.heap.size + 2, 3, none⟩ u3) := by
  have h2 := h.grow hb
  have hx : ∀ (X : World) (j : Nat) (u : Value), X.ownsRow (w.heap.size + 3) 89 7 (.slice A n c) its.length (icells its) → (X.setCell ⟨w.heap.size + 2, j, none⟩ u).ownsRow (w.heap.size + 3) 89 7 (.slice A n c) its.length (icells its) := fun X j u h =>
    h.kept (grown_setCell X _ j u) (.inr (ne_row h (by omega)))
  have h4 := hx _ 3 u3 (hx _ 2 u2 (hx _ 1 u1 (hx _ 0 u0 h2.own)))
  obtain ⟨A', c', e, hr⟩ := row_of_owns h4
  cases e
  refine ⟨A, c, by rw [hn], hr, ?_⟩
  exact (((h2.below.setCell (p := ⟨w.heap.size + 2, 0, none⟩) (by simp) _).setCell (p := ⟨w.heap.size + 2, 1, none⟩) (by simp) _).setCell (p := ⟨w.heap.size + 2, 2, none⟩) (by simp) _).setCell (p := ⟨w.heap.size + 2, 3, none⟩) (by simp) _
theorem info89s : (Tryz.prog.info? 89).map (·.size) = some 7 := by kernel_rfl
set_option maxRecDepth 100000 in
set_option maxHeartbeats 4000000 in
theorem Merge_ok {w : World} {ao ax : Addr} {no nx : Nat} (co cx : Nat) {lo ln : List It} (ho : CatV w (some ao) no lo) (hn : CatV w (some ax) nx ln) (hE : ∀ k, k < no → keepErr ln (itAt lo k) = 0) (h64 : no + nx ≤ 64) (h1 : 0 < no) :
    Calls Tryz.prog 18 #[catV (some ao) no co, catV (some ax) nx cx] w (MergePost w (mergeL lo ln nx)) := by
  obtain ⟨i0, hi, hz0, hz1, hz2⟩ := info_parts info89
  have Ho := Lib.hid ho
  have Hn := Lib.hid hn
  have HE := Lib.hid hE
  have Hlo := Lib.hid ho.items.len
  have Hln := Lib.hid hn.items.len
  clear ho hn hE
  have hb0 : Below w.heap.size w (((w.alloc (catO (some ao) no co)).alloc (catO (some ax) nx cx)).alloc (.cells #[nilS, nilS, nilS, nilS] 28)) := (((Below.refl _ _).alloc (Nat.le_refl _) _).alloc (by simp) _).alloc (by simp; omega) _
  have k0 := ((Bk.new w 28 (catL (some ao) no co)).alloc (catO (some ax) nx cx)).alloc (.cells #[nilS, nilS, nilS, nilS] 28)
  have k0' := (Bk.new (w.alloc (catO (some ao) no co)) 28 (catL (some ax) nx cx)).alloc (.cells #[nilS, nilS, nilS, nilS] 28)
  have k0'' := Bk.new ((w.alloc (catO (some ao) no co)).alloc (catO (some ax) nx cx)) 28 [nilS, nilS, nilS, nilS]
  rw [World.size_alloc] at k0'
  rw [World.size_alloc, World.size_alloc] at k0''
  have HV := Lib.hid (both_items co cx (Ho.out.below hb0) (Hn.out.below hb0))
  have HK0 := Lib.hid k0
  have HK0' := Lib.hid k0'
  have HK0'' := Lib.hid k0''
  clear k0 k0' k0''
  go_enter Tryz.func18, Tryz.ntmps18
  go_wp2_with fail
  refine HV.out.mono ?_
  rintro e w1 ⟨rfl, hb1⟩
  have K1 := Lib.hid (HK0.out.below hb1 (by simp; omega))
  have K2 := Lib.hid (HK0'.out.below hb1 (by simp))
  have K3 := Lib.hid (HK0''.out.below hb1 (by simp))
  have G1 : Below w.heap.size w w1 := hb0.trans (hb1.mono (by simp; omega))
  have N1 : Hid (∀ W : World, Below w1.heap.size w1 W → Calls Tryz.prog 44 #[catV (some ao) no co] W (NamesPost W lo no)) := fun W hW => names_any (i := ⟨some ao, no, co⟩) (r := ⟨none, 0, 0⟩) (t := ⟨none, 0, 0⟩) (x := ⟨none, 0, 0⟩) (Ho.out.items.below (G1.trans (hW.mono G1.size)))
  have N2 : Hid (∀ W : World, Below w1.heap.size w1 W → Calls Tryz.prog 44 #[catV (some ax) nx cx] W (NamesPost W ln nx)) := fun W hW => names_any (i := ⟨some ax, nx, cx⟩) (r := ⟨none, 0, 0⟩) (t := ⟨none, 0, 0⟩) (x := ⟨none, 0, 0⟩) (Hn.out.items.below (G1.trans (hW.mono G1.size)))
  have HC : Hid (∀ U : World, Below w1.heap.size w1 U → (U.cell? ⟨w.heap.size, 0, none⟩ = some (.slice (some ao) no co) ∧ U.cell? ⟨w.heap.size, 1, none⟩ = some nilS ∧ U.cell? ⟨w.heap.size, 2, none⟩ = some nilS ∧ U.cell? ⟨w.heap.size, 3, none⟩ = some nilS ∧
      U.cell? ⟨w.heap.size + 1, 0, none⟩ = some (.slice (some ax) nx cx) ∧ U.cell? ⟨w.heap.size + 1, 1, none⟩ = some nilS ∧ U.cell? ⟨w.heap.size + 1, 2, none⟩ = some nilS ∧ U.cell? ⟨w.heap.size + 1, 3, none⟩ = some nilS)) := fun U hU => by
    have q1 := K1.out.below hU K1.out.lt
    have q2 := K2.out.below hU K2.out.lt
    exact ⟨q1.cell 0, q1.cell 1, q1.cell 2, q1.cell 3, q2.cell 0, q2.cell 1, q2.cell 2, q2.cell 3⟩
  obtain ⟨p0, p1, p2, p3, r0, r1, r2, r3⟩ := HC.out w1 (Below.refl _ _)
  clear hb1 hb0 HK0 HK0' HK0'' HV
  go_wp2_with fail
  go_cut [7, 8] (fun a b wx => ∃ bo bn, a = .map (some bo) ∧ b = .map (some bn) ∧ MapI wx bo no (idxTo lo no) ∧ MapI wx bn nx (idxTo ln nx) ∧ Below w1.heap.size w1 wx)
  case first =>
    go_region_with (first
      | (go_at_call 44; (with_reducible refine (N1.out _ ?_).mono ?_); (first | exact (Below.refl _ _).drew | exact GB); rintro e wA ⟨b, rfl, hm, hge, hba⟩; (first | (have GC := GB.trans (hba.mono GB.size); have hm1 := hm; have hm2 := hmB.below hba) | (have GA := (Below.refl w1.heap.size w1).drew.trans hba; have hmA := hm; obtain ⟨p0, p1, p2, p3, r0, r1, r2, r3⟩ := HC.out _ GA)))
      | (go_at_call 44; (with_reducible refine (N2.out _ ?_).mono ?_); (first | exact (Below.refl _ _).drew | exact GA); rintro e wA ⟨b, rfl, hm, hge, hba⟩; (first | (have GC := GA.trans (hba.mono GA.size); have hm2 := hm; have hm1 := hmA.below hba) | (have GB := (Below.refl w1.heap.size w1).drew.trans hba; have hmB := hm; obtain ⟨p0, p1, p2, p3, r0, r1, r2, r3⟩ := HC.out _ GB))))
    all_goals (try go_wp2_with fail)
    all_goals go_meet
    all_goals exact ⟨_, _, rfl, rfl, hm1, hm2, GC⟩
  case rest =>
    obtain ⟨bo, bn, rfl, rfl, hm1, hm2, hbc⟩ := hcut
    obtain ⟨q0, q1, q2, q3, q4, q5, q6, q7⟩ := HC.out _ hbc
    have G2 := G1.trans (hbc.mono G1.size)
    have KC := Lib.hid (clone_items (c := co) (Ho.out.items.below G2) Ho.out.items.small)
    have K1' := Lib.hid (K1.out.below hbc K1.out.lt)
    have K2' := Lib.hid (K2.out.below hbc K2.out.lt)
    have K3' := Lib.hid (K3.out.below hbc K3.out.lt)
    have HM1 := Lib.hid hm1
    have HM2 := Lib.hid hm2
    clear hm1 hm2 hbc p0 p1 p2 p3 r0 r1 r2 r3 N1 N2 HC K1 K2 K3 G1
    go_wp2_with fail
    refine KC.out.mono ?_
    rintro e wB ⟨v, rfl, hoB, hbB⟩
    have hs3 : w.heap.size + 3 ≤ wc.heap.size := K3'.out.lt
    have S0 : MgAt w wB ⟨some ao, no, co⟩ ⟨some ax, nx, cx⟩ bo bn lo ln v (mergeTo lo ln 0) :=
      ⟨HM1.out.below hbB, HM2.out.below hbB, K1'.out.below hbB K1'.out.lt, K2'.out.below hbB K2'.out.lt, K3'.out.below hbB K3'.out.lt, by rw [mergeTo_zero, ← Hlo.out]; exact ⟨hoB.1, hoB.2.imp id fun ⟨g, cap, cur, h1, h2, h3⟩ => ⟨g, cap, cur, h1, by omega, h3⟩⟩, G2.trans (hbB.mono G2.size)⟩
    obtain ⟨gi, cap, rfl⟩ := row_some hoB h1
    have HS0 := Lib.hid S0
    clear S0 hoB hbB KC K1' K2' K3' HM1 HM2 q0 q1 q2 q3 q4 q5 q6 q7 G2 hs3
    go_wp2_with fail
    go_loopw [35] (fun i wr => ∃ k : Nat, k ≤ no ∧ i = .int .i64 k ∧ MgAt w wr ⟨some ao, no, co⟩ ⟨some ax, nx, cx⟩ bo bn lo ln (.slice (some ⟨gi, 0, none⟩) no cap) (mergeTo lo ln k)) (fun i _ => no - (intOf i).toNat)
    case atStart => exact ⟨0, Nat.zero_le _, rfl, HS0.out⟩
    case round =>
      obtain ⟨k, hk, rfl, hA⟩ := hrel
      have HA := Lib.hid hA
      clear hA HS0
      by_cases hlt : k < no
      · have hkl : k < lo.length := by have := Hlo.out; omega
        have hlen : (mergeTo lo ln k).length = no := by simp [Hlo.out]
        have hown := HA.out.own
        rw [hlen] at hown
        have hit : itAt (mergeTo lo ln k) k = itAt lo k := by rw [itAt_merge _ _ _ _ hkl, if_neg (by omega)]
        have gc := fun r (hr : r < 7) => (hown.cellAt (k * 7 + r) (by omega)).trans (icells_get (mergeTo lo ln k) k r (by rw [hlen]; exact hlt) hr)
        rw [hit] at gc
        have c0 : wr.cell? ⟨gi, k * 7, none⟩ = some (.string (itAt lo k).name) := gc 0 (by omega)
        have c1 : wr.cell? ⟨gi, k * 7 + 1, none⟩ = some (.bool (itAt lo k).object) := gc 1 (by omega)
        have c2 : wr.cell? ⟨gi, k * 7 + 2, none⟩ = some (.bool (itAt lo k).mixed) := gc 2 (by omega)
        have c3 : wr.cell? ⟨gi, k * 7 + 3, none⟩ = some (.bool (itAt lo k).coin) := gc 3 (by omega)
        have c4 : wr.cell? ⟨gi, k * 7 + 4, none⟩ = some (.int .i64 (itAt lo k).wear) := gc 4 (by omega)
        have c5 : wr.cell? ⟨gi, k * 7 + 5, none⟩ = some (.int .i64 (itAt lo k).bnd) := gc 5 (by omega)
        have c6 : wr.cell? ⟨gi, k * 7 + 6, none⟩ = some (.int .i64 (itAt lo k).level) := gc 6 (by omega)
        have hgi : gi < wr.heap.size := (hown.lt gi rfl).2
        have hpm := plain_max (Ho.out.items.name _ (itAt_mem hkl))
        have HA1 := Lib.hid (HA.out.grow ((Below.refl _ wr).alloc (Nat.le_refl _) (.cells #[.string (itAt lo k).name, .bool (itAt lo k).object, .bool (itAt lo k).mixed, .bool (itAt lo k).coin, .int .i64 (itAt lo k).wear, .int .i64 (itAt lo k).bnd, .int .i64 (itAt lo k).level] 89)))
        have HX := Lib.hid (Bk.new wr 89 [.string (itAt lo k).name, .bool (itAt lo k).object, .bool (itAt lo k).mixed, .bool (itAt lo k).coin, .int .i64 (itAt lo k).wear, .int .i64 (itAt lo k).bnd, .int .i64 (itAt lo k).level])
        have lk := HA1.out.mn.look hpm
        have Hsk := Lib.hid (mergeTo_skip lo ln k hkl)
        have Hse := Lib.hid (mergeTo_set lo ln k hkl)
        have hke := HE.out k hlt
        have Hmi : Hid (mergeIt ln (itAt lo k) = match idxTo ln nx (itAt lo k).name with | some b => itAt ln b | none => itAt lo k) := by show mergeIt ln (itAt lo k) = _; rw [Hln.out]; rfl
        have Hke : Hid ((match idxTo ln nx (itAt lo k).name with | some b => if alikeB (itAt lo k) (itAt ln b) = false then 9 else 0 | none => 0) = (0 : Int)) := by show _ = _; rw [Hln.out]; exact hke
        have Hlen := Lib.hid hlen
        have k0 : (0 : Int) ≤ (k : Int) := by omega
        have k1 : (k : Int) < (no : Int) := by omega
        clear hkl hlen hown hit gc hke HA
        generalize itAt lo k = ta at *
        cases hb : idxTo ln nx ta.name with
        | none =>
          rw [hb] at lk Hmi
          dsimp only at Hmi
          have Hs2 := Lib.hid (Hsk.out Hmi.out)
          simp only [Option.isSome_none, Option.getD_none] at lk
          obtain ⟨n1, o1, m1, c1', w1', b1, l1⟩ := ta
          dsimp only at *
          clear hb Hke Hse Hsk Hmi
          go_wp2_with fail
          go_roundw
          case rel => exact ⟨k + 1, by omega, by go_num, by rw [← Hs2.out]; exact HA1.out⟩
          case measure => simp [intOf]; omega
        | some b' =>
          have hb1 := (idxTo_lt hb).1
          rw [hb] at lk Hmi Hke
          dsimp only at Hmi Hke
          rw [Hmi.out] at Hse
          have hal : alikeB ta (itAt ln b') = true := by
            cases hq : alikeB ta (itAt ln b')
            · have := Hke.out
              rw [if_pos hq] at this
              exact absurd this (by decide)
            · rfl
          simp only [Option.isSome_some, Option.getD_some] at lk
          have AK0 := fun U : World => alike_any ta (itAt ln b') U
          rw [hal] at AK0
          have AK := Lib.hid AK0
          clear hb Hke Hsk Hmi hal AK0
          have i2 : (0 : Int) ≤ (b' : Int) := by omega
          have i3 : (b' : Int) < (nx : Int) := by omega
          obtain ⟨bp, op, hax, hbp, pc0, pc1, pc2, pc3, pc4, pc5, pc6⟩ := (Hn.out.items.below HA1.out.below).at_ b' hb1
          cases hax
          have p0 := HA1.out.b2.cell 0
          generalize itAt ln b' = tb at *
          obtain ⟨n1, o1, m1, c1', w1', b1, l1⟩ := ta
          obtain ⟨n2, o2, m2, c2', w2', b2, l2⟩ := tb
          dsimp only at *
          have x0 := HX.out.cell 0
          have x1 := HX.out.cell 1
          have x2 := HX.out.cell 2
          have x3 := HX.out.cell 3
          have x4 := HX.out.cell 4
          have x5 := HX.out.cell 5
          have x6 := HX.out.cell 6
          go_wp2_with fail
          generalize wr.alloc (.cells #[.string n1, .bool o1, .bool m1, .bool c1', .int .i64 w1', .int .i64 b1, .int .i64 l1] 89) = W at *
          clear c0 c1 c2 c3 c4 c5 c6 hgi lk
          generalize wr.heap.size = gx at *
          go_still_tail 6, (by kernel_rfl)
          change wpList _ _ _ _ _ W.drew
          go_wp2_with fail
          refine (AK.out _).mono ?_
          rintro e wA ⟨rfl, hbA⟩
          have BA : Below W.heap.size W wA := (Below.refl W.heap.size W).drew.trans hbA
          have HA3 := Lib.hid (HA1.out.grow BA)
          have s0 := HA3.out.b2.cell 0
          have t0 : wA.cell? ⟨bp, op + b' * 7, none⟩ = some (.string n2) := (BA.cell (p := ⟨bp, _, none⟩) hbp).trans pc0
          have t1 : wA.cell? ⟨bp, op + b' * 7 + 1, none⟩ = some (.bool o2) := (BA.cell (p := ⟨bp, _, none⟩) hbp).trans pc1
          have t2 : wA.cell? ⟨bp, op + b' * 7 + 2, none⟩ = some (.bool m2) := (BA.cell (p := ⟨bp, _, none⟩) hbp).trans pc2
          have t3 : wA.cell? ⟨bp, op + b' * 7 + 3, none⟩ = some (.bool c2') := (BA.cell (p := ⟨bp, _, none⟩) hbp).trans pc3
          have t4 : wA.cell? ⟨bp, op + b' * 7 + 4, none⟩ = some (.int .i64 w2') := (BA.cell (p := ⟨bp, _, none⟩) hbp).trans pc4
          have t5 : wA.cell? ⟨bp, op + b' * 7 + 5, none⟩ = some (.int .i64 b2) := (BA.cell (p := ⟨bp, _, none⟩) hbp).trans pc5
          have t6 : wA.cell? ⟨bp, op + b' * 7 + 6, none⟩ = some (.int .i64 l2) := (BA.cell (p := ⟨bp, _, none⟩) hbp).trans pc6
          have ho3 := HA3.out.own
          rw [Hlen.out] at ho3
          have hg3 : gi < wA.heap.size := (ho3.lt gi rfl).2
          have ex := fun r (hr : r < 7) => (ho3.cellAt (k * 7 + r) (by omega)).trans (icells_get (mergeTo lo ln k) k r (by rw [Hlen.out]; exact hlt) hr)
          generalize itAt (mergeTo lo ln k) k = tq at *
          obtain ⟨y1, y2, y3, y4, y5, y6, y7⟩ := tq
          have e0 : wA.cell? ⟨gi, k * 7, none⟩ = some (.string y1) := ex 0 (by omega)
          have e1 : wA.cell? ⟨gi, k * 7 + 1, none⟩ = some (.bool y2) := ex 1 (by omega)
          have e2 : wA.cell? ⟨gi, k * 7 + 2, none⟩ = some (.bool y3) := ex 2 (by omega)
          have e3 : wA.cell? ⟨gi, k * 7 + 3, none⟩ = some (.bool y4) := ex 3 (by omega)
          have e4 : wA.cell? ⟨gi, k * 7 + 4, none⟩ = some (.int .i64 y5) := ex 4 (by omega)
          have e5 : wA.cell? ⟨gi, k * 7 + 5, none⟩ = some (.int .i64 y6) := ex 5 (by omega)
          have e6 : wA.cell? ⟨gi, k * 7 + 6, none⟩ = some (.int .i64 y7) := ex 6 (by omega)
          have z0 := ho3.frozenAt (k * 7)
          have z1 := ho3.frozenAt (k * 7 + 1)
          have z2 := ho3.frozenAt (k * 7 + 2)
          have z3 := ho3.frozenAt (k * 7 + 3)
          have z4 := ho3.frozenAt (k * 7 + 4)
          have z5 := ho3.frozenAt (k * 7 + 5)
          have z6 := ho3.frozenAt (k * 7 + 6)
          have hset : MgAt w (((((((wA.setCell ⟨gi, k * 7, none⟩ (.string n2)).setCell ⟨gi, k * 7 + 1, none⟩ (.bool o2)).setCell ⟨gi, k * 7 + 2, none⟩ (.bool m2)).setCell ⟨gi, k * 7 + 3, none⟩ (.bool c2')).setCell ⟨gi, k * 7 + 4, none⟩ (.int .i64 w2')).setCell ⟨gi, k * 7 + 5, none⟩ (.int .i64 b2)).setCell ⟨gi, k * 7 + 6, none⟩ (.int .i64 l2)) ⟨some ao, no, co⟩ ⟨some ⟨bp, op, none⟩, nx, cx⟩ bo bn lo ln (.slice (some ⟨gi, 0, none⟩) no cap) (mergeTo lo ln (k + 1)) := by
            have hx := HA3.out
            rw [← Hlen.out] at hx
            have h2 := hx.setIt k ⟨n2, o2, m2, c2', w2', b2, l2⟩ (by rw [Hlen.out]; exact hlt)
            rw [Hse.out, Hlen.out] at h2
            exact h2
          have HF := Lib.hid hset
          clear hset ho3 ex pc0 pc1 pc2 pc3 pc4 pc5 pc6 x0 x1 x2 x3 x4 x5 x6 p0 hbA BA HA3 HA1 HX
          go_wp2_with fail
          go_roundw
          case rel => exact ⟨k + 1, by omega, by go_num, HF.out⟩
          case measure => simp [intOf]; omega
      · obtain rfl : no = k := by omega
        have hA0 := HA.out
        have hmL : mergeTo lo ln no = mergeL lo ln 0 := by simp [mergeL, newTo, Hlo.out]
        rw [hmL] at hA0
        have q4 : wr.cell? ⟨w.heap.size + 1, 0, none⟩ = some (.slice (some ax) nx cx) := hA0.b2.cell 0
        have hl1 := hA0.b1.lt
        have hl2 := hA0.b2.lt
        have hl3 := hA0.b3.lt
        have mk := fun W => make_ints nx (by omega) W
        have hgw : Below wr.heap.size wr ((wr.alloc (.cells (ints (List.replicate nx 0)).toArray 3)).alloc (.cells #[.slice (some ⟨wr.heap.size, 0, none⟩) nx nx] 22)) := ((Below.refl _ _).alloc (Nat.le_refl _) _).alloc (by simp) _
        have HS := Lib.hid (hA0.grow hgw)
        have kp := (Bk.new wr 3 (ints (List.replicate nx 0))).alloc (.cells #[.slice (some ⟨wr.heap.size, 0, none⟩) nx nx] 22)
        have kb := Bk.new (wr.alloc (.cells (ints (List.replicate nx 0)).toArray 3)) 22 [.slice (some ⟨wr.heap.size, 0, none⟩) nx nx]
        rw [World.size_alloc] at kb
        have KP := Lib.hid kp
        have KB := Lib.hid kb
        have hgp : w.heap.size + 3 ≤ wr.heap.size := by omega
        clear hA0 hmL hgw kp kb HA
        go_wp2_with fail
        generalize (wr.alloc (.cells (ints (List.replicate nx 0)).toArray 3)).alloc (.cells #[.slice (some ⟨wr.heap.size, 0, none⟩) nx nx] 22) = W0 at *
        have hgb : w.heap.size + 3 ≤ wr.heap.size + 1 := by omega
        have hgbp : wr.heap.size + 1 ≠ wr.heap.size := by omega
        generalize wr.heap.size + 1 = gb at *
        generalize wr.heap.size = gp at *
        clear q4 mk hl1 hl2 hl3
        go_loopw [9, 74] (fun x i wz => ∃ k : Nat, k ≤ nx ∧ i = .int .i64 k ∧ MgAt w wz ⟨some ao, no, co⟩ ⟨some ax, nx, cx⟩ bo bn lo ln x (mergeL lo ln k) ∧ Bk wz gb 22 [.slice (some ⟨gp, 0, none⟩) nx nx] ∧ ∃ pl : List Int, pl.length = nx ∧ Bk wz gp 3 (ints pl)) (fun _ i _ => nx - (intOf i).toNat)
        case atStart => exact ⟨0, Nat.zero_le _, rfl, HS.out, KB.out, _, by simp, KP.out⟩
        case round =>
          obtain ⟨k, hk, rfl, hA, kb, pl, hpl, kp⟩ := hrel
          have HA := Lib.hid hA
          have KB1 := Lib.hid kb
          have KP1 := Lib.hid kp
          have Hpl := Lib.hid hpl
          clear hA kb kp hpl HS KB KP
          have hll := mergeL_le lo ln k
          rw [← Hlo.out] at hll
          by_cases hlt : k < nx
          · have hkl : k < ln.length := by have := Hln.out; omega
            obtain ⟨bp, op, hax, hbp, pc0, pc1, pc2, pc3, pc4, pc5, pc6⟩ := (Hn.out.items.below HA.out.below).at_ k hlt
            cases hax
            have hpm := plain_max (Hn.out.items.name _ (itAt_mem hkl))
            have HA1 := Lib.hid (HA.out.grow ((Below.refl _ wr).alloc (Nat.le_refl _) (.cells #[.string (itAt ln k).name, .bool (itAt ln k).object, .bool (itAt ln k).mixed, .bool (itAt ln k).coin, .int .i64 (itAt ln k).wear, .int .i64 (itAt ln k).bnd, .int .i64 (itAt ln k).level] 89)))
            have lk := HA1.out.mo.look hpm
            have Hso : Hid ((idxTo lo no (itAt ln k).name).isSome = true → mergeL lo ln (k + 1) = mergeL lo ln k) := fun h => mergeL_succ_old (by rw [← Hlo.out]; exact h)
            have Hsn : Hid ((idxTo lo no (itAt ln k).name).isSome = false → mergeL lo ln (k + 1) = mergeL lo ln k ++ [itAt ln k]) := fun h => mergeL_succ_new (by rw [← Hlo.out]; exact h)
            have HX := Lib.hid (Bk.new wr 89 [.string (itAt ln k).name, .bool (itAt ln k).object, .bool (itAt ln k).mixed, .bool (itAt ln k).coin, .int .i64 (itAt ln k).wear, .int .i64 (itAt ln k).bnd, .int .i64 (itAt ln k).level])
            have k0 : (0 : Int) ≤ (k : Int) := by omega
            have k1 : (k : Int) < (nx : Int) := by omega
            obtain ⟨Ax9, cx9, hx9, _, _, _⟩ := row_form HA.out.own
            subst hx9
            clear hkl
            generalize itAt ln k = tb at *
            obtain ⟨n2, o2, m2, c2', w2', b2, l2⟩ := tb
            dsimp only at *
            have hgpl : gp < wr.heap.size := KP1.out.lt
            have hgbl : gb < wr.heap.size := KB1.out.lt
            have hpc : ∀ X : World, Bk X gp 3 (ints pl) → X.cell? ⟨gp, k, none⟩ = some (.int .i64 (wAt pl k)) := fun X hX => (hX.cell k).trans (ints_at pl k (by rw [Hpl.out]; exact hlt))
            cases hb : idxTo lo no n2 with
            | some a =>
              rw [hb] at lk Hso
              simp only [Option.isSome_some, Option.getD_some] at lk
              have Hs := Lib.hid (Hso.out rfl)
              have y0 : wr.cell? ⟨gb, 0, none⟩ = some (.slice (some ⟨gp, 0, none⟩) nx nx) := KB1.out.cell 0
              have y1 := hpc _ KP1.out
              have y2 := KP1.out.frozen k
              have hF := (HA.out.setP KP1.out (by decide) hgp k (.int .i64 (a : Int))).grow ((Below.refl _ _).alloc (Nat.le_refl _) (.cells #[.string n2, .bool o2, .bool m2, .bool c2', .int .i64 w2', .int .i64 b2, .int .i64 l2] 89))
              have kp3 := (KP1.out.set k (.int .i64 (a : Int))).alloc (.cells #[.string n2, .bool o2, .bool m2, .bool c2', .int .i64 w2', .int .i64 b2, .int .i64 l2] 89)
              rw [ints_set] at kp3
              have kb3 := (KB1.out.far (p := ⟨gp, k, none⟩) hgbp (.int .i64 (a : Int))).alloc (.cells #[.string n2, .bool o2, .bool m2, .bool c2', .int .i64 w2', .int .i64 b2, .int .i64 l2] 89)
              have HF := Lib.hid hF
              have KP3 := Lib.hid kp3
              have KB3 := Lib.hid kb3
              clear hF kp3 kb3 hb Hso Hsn hpc
              go_wp2_with fail
              go_roundw
              case rel => exact ⟨k + 1, by omega, by go_num, by rw [Hs.out]; exact HF.out, KB3.out, _, by rw [List.length_set]; exact Hpl.out, KP3.out⟩
              case measure => simp [intOf]; omega
            | none =>
              rw [hb] at lk Hsn
              simp only [Option.isSome_none, Option.getD_none] at lk
              have Hs := Lib.hid (Hsn.out rfl)
              have hown2 := HA1.out.own.alloc (.cells #[.string n2, .bool o2, .bool m2, .bool c2', .int .i64 w2', .int .i64 b2, .int .i64 l2] 89)
              have HO2 := Lib.hid hown2
              have kb2 := (KB1.out.alloc (.cells #[.string n2, .bool o2, .bool m2, .bool c2', .int .i64 w2', .int .i64 b2, .int .i64 l2] 89)).alloc (.cells #[.string n2, .bool o2, .bool m2, .bool c2', .int .i64 w2', .int .i64 b2, .int .i64 l2] 89)
              have kp2 := (KP1.out.alloc (.cells #[.string n2, .bool o2, .bool m2, .bool c2', .int .i64 w2', .int .i64 b2, .int .i64 l2] 89)).alloc (.cells #[.string n2, .bool o2, .bool m2, .bool c2', .int .i64 w2', .int .i64 b2, .int .i64 l2] 89)
              have HA2 := Lib.hid (HA1.out.grow ((Below.refl _ _).alloc (Nat.le_refl _) (.cells #[.string n2, .bool o2, .bool m2, .bool c2', .int .i64 w2', .int .i64 b2, .int .i64 l2] 89)))
              have KB2 := Lib.hid kb2
              have KP2 := Lib.hid kp2
              have C1 := new7 (wr.alloc (.cells #[.string n2, .bool o2, .bool m2, .bool c2', .int .i64 w2', .int .i64 b2, .int .i64 l2] 89)) 89 (.string n2) (.bool o2) (.bool m2) (.bool c2') (.int .i64 w2') (.int .i64 b2) (.int .i64 l2)
              rw [World.size_alloc] at C1
              have HC1 := Lib.hid C1
              have hbig : w.heap.size + 3 ≤ wr.heap.size := by omega
              clear kb2 kp2 hown2 C1 hb Hso Hsn
              go_wp2_with (at_builtin; refine wpList_append_own_at _ rfl _ _ 23 rfl (w.heap.size + 3) 89 i0 (.agg #[.string ⟨#[]⟩, .bool false, .bool false, .bool false, .int .i64 0, .int .i64 0, .int .i64 0]) 7 48 Tryz.underlying23 hi hz0 hz1 hz2 rfl (by decide) _ (mergeL lo ln k).length (icells (mergeL lo ln k)) rfl HO2.out ⟨wr.heap.size + 1, 0, none⟩ 1 1 [.string n2, .bool o2, .bool m2, .bool c2', .int .i64 w2', .int .i64 b2, .int .i64 l2] rfl rfl HC1.out (icells_one [⟨n2, o2, m2, c2', w2', b2, l2⟩]) ?c3 ?c4 ?c5 ?_)
              case c3 => unfold maxLen; omega
              case c4 => omega
              case c5 => simp; omega
              intro v' w3 hown' hgrow _ _
              have h1 := row_ne HO2.out KB2.out (by decide)
              have h2 := row_ne HO2.out KP2.out (by decide)
              have hT : MgAt w w3 ⟨some ao, no, co⟩ ⟨some ⟨bp, op, none⟩, nx, cx⟩ bo bn lo ln v' (mergeL lo ln (k + 1)) := by
                refine HA2.out.turn hgrow ?_
                rw [Hs.out, icells_snoc, List.length_append]
                exact hown'
              have kb4 := KB2.out.grown hgrow (Ne.symm h1)
              have kp4 := KP2.out.grown hgrow (Ne.symm h2)
              have y0 : w3.cell? ⟨gb, 0, none⟩ = some (.slice (some ⟨gp, 0, none⟩) nx nx) := kb4.cell 0
              have y1 := hpc _ kp4
              have y2 := kp4.frozen k
              have y3 := kp4.lt
              have hF := hT.setP kp4 (by decide) hgp k (.int .i64 ((mergeL lo ln k).length : Int))
              have kp5 := kp4.set k (.int .i64 ((mergeL lo ln k).length : Int))
              rw [ints_set] at kp5
              have kb5 := kb4.far (p := ⟨gp, k, none⟩) hgbp (.int .i64 ((mergeL lo ln k).length : Int))
              have HF := Lib.hid hF
              have KP3 := Lib.hid kp5
              have KB3 := Lib.hid kb5
              clear hF kp5 kb5 hT kb4 kp4 h1 h2 hown' hgrow hpc
              go_wp2_with fail
              go_roundw
              case rel => exact ⟨k + 1, by omega, by go_num, HF.out, KB3.out, _, by rw [List.length_set]; exact Hpl.out, KP3.out⟩
              case measure => simp [intOf]; omega
          · obtain rfl : nx = k := by omega
            obtain ⟨Ax9, cx9, hx9, _, _, _⟩ := row_form HA.out.own
            subst hx9
            have KR := Lib.hid (fun F p => rewrite_items cx (Hn.out.items.below HA.out.below) Ax9 (mergeL lo ln nx).length cx9 F p)
            have q0 : wr.cell? ⟨w.heap.size + 1, 0, none⟩ = some (.slice (some ax) nx cx) := HA.out.b2.cell 0
            have q1 : wr.cell? ⟨w.heap.size + 1, 1, none⟩ = some nilS := HA.out.b2.cell 1
            have q2 : wr.cell? ⟨w.heap.size + 1, 2, none⟩ = some nilS := HA.out.b2.cell 2
            have q3 : wr.cell? ⟨w.heap.size + 1, 3, none⟩ = some nilS := HA.out.b2.cell 3
            go_wp2_with fail
            refine (KR.out _ _).mono ?_
            rintro e w3 ⟨rfl, hb3⟩
            have k3 := HA.out.b3.below hb3 HA.out.b3.lt
            have z0 : w3.cell? ⟨w.heap.size + 1 + 1, 0, none⟩ = some nilS := k3.cell 0
            have z1 : w3.cell? ⟨w.heap.size + 1 + 1, 1, none⟩ = some nilS := k3.cell 1
            have z2 : w3.cell? ⟨w.heap.size + 1 + 1, 2, none⟩ = some nilS := k3.cell 2
            have z3 : w3.cell? ⟨w.heap.size + 1 + 1, 3, none⟩ = some nilS := k3.cell 3
            have f0 : w3.frozen? ⟨w.heap.size + 1 + 1, 0, none⟩ = false := k3.frozen 0
            have f1 : w3.frozen? ⟨w.heap.size + 1 + 1, 1, none⟩ = false := k3.frozen 1
            have f2 : w3.frozen? ⟨w.heap.size + 1 + 1, 2, none⟩ = false := k3.frozen 2
            have f3 : w3.frozen? ⟨w.heap.size + 1 + 1, 3, none⟩ = false := k3.frozen 3
            have zl : w.heap.size + 1 + 1 < w3.heap.size := k3.lt
            have HF := Lib.hid (merge_end (u0 := .slice Ax9 (mergeL lo ln nx).length cx9) (u1 := nilS) (u2 := nilS) (u3 := nilS) HA.out rfl hb3)
            have k9 := (((k3.set 0 (.slice Ax9 (mergeL lo ln nx).length cx9)).set 1 nilS).set 2 nilS).set 3 nilS
            have K9 := Lib.hid k9
            clear k3 k9 hb3
            go_wp2_with fail
            have r0 := K9.out.cell 0
            have r1 := K9.out.cell 1
            have r2 := K9.out.cell 2
            have r3 := K9.out.cell 3
            exact bodyPost_ret (v := .tuple #[.agg #[.slice Ax9 (mergeL lo ln nx).length cx9, nilS, nilS, nilS], .int .i64 0]) (by simp [results, Tryz.results18, go_sem, r0, r1, r2, r3]) rfl HF.out

end Go.Proofs.YthjfdfdgbpbanaaGreatDoor
