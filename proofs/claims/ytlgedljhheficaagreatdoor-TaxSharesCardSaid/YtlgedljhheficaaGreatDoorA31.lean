/- The contract of Meter.Charge. -/
import Derived.Test.YtlgedljhheficaaGreatDoorA30
namespace Go.Proofs.YtlgedljhheficaaGreatDoor
open Go.RowKit

section
variable {w w' : World} {g b cnt : Nat} {nm : ByteArray} {A : Option Addr} {n c : Nat} {brs : List (Int × Int)} {p : Int} {M : Int → Option (Int × Int)}

def argsB (a t : Int) : Bool := decide (1 ≤ a) && decide (a ≤ 1073741824) && decide (0 ≤ t) && decide (t ≤ 1099511627776)
/-- What Charge returns: the tax, the error. -/
def chargeR (nm : ByteArray) (brs : List (Int × Int)) (p : Int) (M : Int → Option (Int × Int)) (a s t : Int) : Int × Int :=
  if argsB a t = true then
    if t / p < ((M a).getD (0, 0)).1 then (0, 14)
    else if (moreR nm brs (sumM p M a t) s).2 = 0 then moreR nm brs (sumM p M a t) s else (0, (moreR nm brs (sumM p M a t) s).2)
  else (0, 1)
/-- What the map is behind it. -/
def chargeM (nm : ByteArray) (brs : List (Int × Int)) (p : Int) (M : Int → Option (Int × Int)) (a s t : Int) : Int → Option (Int × Int) :=
  if (chargeR nm brs p M a s t).2 = 0 then upd M a (t / p, sumM p M a t + s) else M
def ChargePost (w : World) (g b cnt : Nat) (nm : ByteArray) (A : Option Addr) (n c : Nat) (brs : List (Int × Int)) (p : Int) (M : Int → Option (Int × Int)) (a s t : Int) (e : Ending) (w' : World) : Prop :=
  e = .returned (.tuple #[.int .i64 (chargeR nm brs p M a s t).1, .int .i64 (chargeR nm brs p M a s t).2]) ∧ MeterAt w' g b (cnt + 1) nm A n c brs p (chargeM nm brs p M a s t) ∧ w.grownBy w' (some b)

theorem moreR_cases (nm : ByteArray) (brs : List (Int × Int)) (x y : Int) : ((moreR nm brs x y).2 = 0 ∧ 0 ≤ x ∧ x ≤ 1099511627776 ∧ 0 ≤ y ∧ y ≤ 1099511627776 ∧ x + y ≤ 1099511627776) ∨ ((moreR nm brs x y).2 != 0) = true := by
  unfold moreR
  split
  · split
    · split
      · split
        · rename_i h1 h2 h3
          have := inB_true h1
          have := inB_true h2
          have := inB_true h3
          left; simp; omega
        · right; rfl
      · right; rfl
    · right; rfl
  · right; simpa using (by assumption)

theorem field75 (x y : Int) (w : World) : (Instr.field 75 (.agg #[.int .i64 x, .int .i64 y]) 0).run Tryz.prog w = .ok (.int .i64 x) w := by kernel_rfl
theorem MeterAt.more (h : MeterAt w g b cnt nm A n c brs p M) : MeterAt w g b (cnt + 1) nm A n c brs p M := by
  refine ⟨h.bk, ?_, h.tax, h.p0, h.p1, h.wf⟩
  obtain ⟨D, ho, hD⟩ := h.map
  exact ⟨D, ho.mono (Nat.le_succ _), hD⟩
theorem div_bd {t p : Int} (t0 : 0 ≤ t) (p0 : 1 ≤ p) : 0 ≤ t / p ∧ t / p ≤ t := ⟨Int.ediv_nonneg t0 (by omega), Int.ediv_le_self p t0⟩
theorem sumM_bd (h : MeterAt w g b cnt nm A n c brs p M) (a t : Int) : 0 ≤ sumM p M a t ∧ sumM p M a t ≤ 1099511627776 := by
  unfold sumM
  split
  · split
    · rename_i v hv _
      have := h.wf _ _ hv
      omega
    · omega
  · omega
theorem first_bd (h : MeterAt w g b cnt nm A n c brs p M) (a : Int) : 0 ≤ ((M a).getD (0, 0)).1 ∧ ((M a).getD (0, 0)).1 ≤ 1099511627776 := by
  cases hM : M a with
  | none => simp
  | some v =>
    have := h.wf _ _ hM
    simp; omega

set_option maxRecDepth 100000 in
set_option maxHeartbeats 1000000 in
theorem charge_any (a s t : Int) (h : MeterAt w g b cnt nm A n c brs p M) (ha : In64 a) (ht : In64 t) (hc : cnt < 900) :
    Calls Tryz.prog 26 #[.pointer (some ⟨g, 0, none⟩), .int .i64 a, .int .i64 s, .int .i64 t] w (ChargePost w g b cnt nm A n c brs p M a s t) := by
  have H := Lib.hid h
  have c0 := h.c0
  have c1 := h.c1
  have c2 := h.c2
  have c3 := h.c3
  have p0 := h.p0
  have p1 := h.p1
  have hlt := h.bk.lt
  obtain ⟨a0, a1⟩ := ha
  obtain ⟨t0, t1⟩ := ht
  have fin0 : ∀ er : Int × Int, chargeR nm brs p M a s t = er → er.2 ≠ 0 → ∀ w', Below w.heap.size w w' → ChargePost w g b cnt nm A n c brs p M a s t (.returned (.tuple #[.int .i64 er.1, .int .i64 er.2])) w' := by
    intro er he h0 w' hb
    refine ⟨by rw [he], ?_, grown_of_below hb _⟩
    rw [chargeM, he, if_neg h0]
    exact (H.out.below hb).more
  have Fin := Lib.hid fin0
  clear fin0 h
  rcases (show argsB a t = false ∨ argsB a t = true by cases argsB a t <;> simp) with hB | hB
  · have he : chargeR nm brs p M a s t = (0, 1) := by rw [chargeR, if_neg (by rw [hB]; simp)]
    have F := Lib.hid (Fin.out _ he (by simp) w (Below.refl _ _))
    clear Fin he
    have hor : a < 1 ∨ (1 ≤ a ∧ 1073741824 < a) ∨ (1 ≤ a ∧ a ≤ 1073741824 ∧ t < 0) ∨ (1 ≤ a ∧ a ≤ 1073741824 ∧ 0 ≤ t ∧ 1099511627776 < t) := by
      simp [argsB] at hB
      omega
    clear hB
    rcases hor with h1 | ⟨h1, h2⟩ | ⟨h1, h2, h3⟩ | ⟨h1, h2, h3, h4⟩
    · go_enter Tryz.func26, Tryz.ntmps26
      go_wp2
      go_ret2
      exact F.out
    · go_enter Tryz.func26, Tryz.ntmps26
      go_wp2
      go_ret2
      exact F.out
    · go_enter Tryz.func26, Tryz.ntmps26
      go_wp2
      go_ret2
      exact F.out
    · go_enter Tryz.func26, Tryz.ntmps26
      go_wp2
      go_ret2
      exact F.out
  · have hb4 : 1 ≤ a ∧ a ≤ 1073741824 ∧ 0 ≤ t ∧ t ≤ 1099511627776 := by
      simp [argsB] at hB
      omega
    obtain ⟨h1, h2, h3, h4⟩ := hb4
    have e0 : (p == 0) = false := by simp; omega
    have e1 : ¬ p = 0 := by omega
    have e2 : t.tdiv p = t / p := Int.tdiv_eq_ediv_of_nonneg (by omega)
    have hd := div_bd h3 p0
    have hf := first_bd H.out a
    have hlook := H.out.map.look (a := a) ⟨by omega, by omega⟩
    have hsm := sumM_bd H.out a t
    have HS := Lib.hid (sumM_any a t H.out ⟨by omega, by omega⟩ ⟨by omega, by omega⟩)
    have Hch : Hid (chargeR nm brs p M a s t = if t / p < ((M a).getD (0, 0)).1 then (0, 14)
      else if (moreR nm brs (sumM p M a t) s).2 = 0 then moreR nm brs (sumM p M a t) s else (0, (moreR nm brs (sumM p M a t) s).2)) := by
      show chargeR nm brs p M a s t = _
      rw [chargeR, if_pos hB]
    clear hB
    obtain ⟨F1, hF1⟩ : ∃ F1, ((M a).getD (0, 0)).1 = F1 := ⟨_, rfl⟩
    obtain ⟨F2, hF2⟩ : ∃ F2, ((M a).getD (0, 0)).2 = F2 := ⟨_, rfl⟩
    rw [hF1] at hf Hch
    rw [hF1, hF2] at hlook
    clear hF1 hF2
    have hfld := field75 F1 F2 w
    by_cases hlate : t / p < F1
    · have he : chargeR nm brs p M a s t = (0, 14) := by rw [Hch.out, if_pos hlate]
      have F := Lib.hid (Fin.out _ he (by simp) w (Below.refl _ _))
      clear Fin he Hch HS hsm
      generalize t / p = T at *
      go_enter Tryz.func26, Tryz.ntmps26
      go_wp2
      go_ret2
      exact F.out
    · rw [if_neg hlate] at Hch
      obtain ⟨T, hT⟩ : ∃ T, t / p = T := ⟨_, rfl⟩
      have HT := Lib.hid hT
      rw [hT] at hlate e2 hd
      clear hT
      obtain ⟨sm, hsm'⟩ : ∃ sm, sumM p M a t = sm := ⟨_, rfl⟩
      have Hsm := Lib.hid hsm'
      rw [hsm'] at Hch hsm HS
      clear hsm'
      go_enter Tryz.func26, Tryz.ntmps26
      go_wp2_with fail
      (with_reducible refine HS.out.mono ?_)
      rintro e w1 ⟨rfl, hb1⟩
      have H1 := Lib.hid (H.out.below hb1)
      have B1 := Lib.hid hb1
      clear c0 c1 c2 c3 hlook hfld hb1
      have c0 := H1.out.c0
      have c1 := H1.out.c1
      have c3 := H1.out.c3
      go_wp2_with fail
      (with_reducible refine (More_any c sm s H1.out.tax).mono ?_)
      rintro e w2 ⟨rfl, hb2⟩
      have H2 := Lib.hid (H1.out.below hb2)
      have B2 := Lib.hid (B1.out.trans (hb2.mono B1.out.size))
      clear c0 c1 c3 hb2
      have c3 := H2.out.c3
      rcases moreR_cases nm brs sm s with ⟨hz, m0, m1, m2, m3, m4⟩ | hz
      · have he : chargeR nm brs p M a s t = moreR nm brs sm s := by rw [Hch.out, if_pos hz]
        have he2 : (chargeR nm brs p M a s t).2 = 0 := by rw [he, hz]
        obtain ⟨w3, hrun, hmap, hg⟩ := H2.out.map.update (a := a) ⟨by omega, by omega⟩ T (sm + s) (by omega)
        have hpost : ChargePost w g b cnt nm A n c brs p M a s t (.returned (.tuple #[.int .i64 (moreR nm brs sm s).1, .int .i64 0])) w3 := by
          refine ⟨by rw [he, hz], ?_, ?_⟩
          · rw [chargeM, if_pos he2, HT.out, Hsm.out]
            refine ⟨H2.out.bk.grown hg (fun e => H2.out.ne (Option.some.inj e)), hmap, H2.out.tax.grown H2.out.map hg, p0, p1, fun x v hx => ?_⟩
            unfold upd at hx
            split at hx
            · cases hx
              show 0 ≤ T ∧ T ≤ 1099511627776 ∧ 0 ≤ sm + s ∧ sm + s ≤ 1099511627776
              omega
            · exact H2.out.wf _ _ hx
          · exact ⟨hg.os.trans B2.out.os, hg.tape.trans B2.out.tape, hg.output.trans B2.out.output, Nat.le_trans B2.out.size hg.size, fun i hi hne => (hg.block i (Nat.lt_of_lt_of_le hi B2.out.size) hne).trans (B2.out.block i hi)⟩
        have HP := Lib.hid hpost
        clear he he2 hmap hg hpost Hch Fin
        rw [hz]
        generalize (moreR nm brs sm s).1 = mm at *
        clear hz
        go_wp2
        go_ret2
        exact HP.out
      · have hne : ¬ (moreR nm brs sm s).2 = 0 := by simpa using hz
        have he : chargeR nm brs p M a s t = (0, (moreR nm brs sm s).2) := by rw [Hch.out, if_neg hne]
        have F := Lib.hid (Fin.out _ he hne w2 B2.out)
        clear he hne Fin Hch
        generalize (moreR nm brs sm s).2 = me at *
        generalize (moreR nm brs sm s).1 = mm at *
        go_wp2
        go_ret2
        exact F.out
end

end Go.Proofs.YtlgedljhheficaaGreatDoor
