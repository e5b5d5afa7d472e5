/- slices.SortFunc leaves alone what is in order already (up to 12 elements), at the order of share.Split. -/
import Derived.Test.YtlgedljhheficaaGreatDoorA19
import Derived.StillTailTactics
namespace Go.Proofs.YtlgedljhheficaaGreatDoor
open Go.RowKit

/-- What the order of Split reads, and the indices that are to be sorted. -/
structure OrdAt (w : World) (bx gr gd n : Nat) (rs : List Int) : Prop where
  lbx : bx < w.heap.size
  lgr : gr < w.heap.size
  lgd : gd < w.heap.size
  len : n = rs.length
  small : n ≤ 12
  box : w.cell? ⟨bx, 0, none⟩ = some (.slice (some ⟨gr, 0, none⟩) n n)
  rem : ∀ k u, (u64s rs)[k]? = some u → w.cell? ⟨gr, k, none⟩ = some u
theorem OrdAt.below {w w' : World} {bx gr gd n : Nat} {rs : List Int} (h : OrdAt w bx gr gd n rs) (hb : Below w.heap.size w w') : OrdAt w' bx gr gd n rs :=
  ⟨Nat.lt_of_lt_of_le h.lbx hb.size, Nat.lt_of_lt_of_le h.lgr hb.size, Nat.lt_of_lt_of_le h.lgd hb.size, h.len, h.small, (hb.cell (p := ⟨bx, 0, none⟩) h.lbx).trans h.box, fun k u hu => (hb.cell (p := ⟨gr, k, none⟩) h.lgr).trans (h.rem k u hu)⟩

set_option maxRecDepth 100000 in
set_option maxHeartbeats 1000000 in
theorem isort_id {w : World} {bx gr gd n : Nat} {rs : List Int} (h : OrdAt w bx gr gd n rs) (hid : ∀ k : Nat, k < n → w.cell? ⟨gd, k, none⟩ = some (.int .i64 k)) (hord : ∀ k : Nat, k + 1 < n → 0 ≤ ordI rs (k + 1) k) :
    Calls Tryz.prog 135 #[.slice (some ⟨gd, 0, none⟩) n n, .int .i64 0, .int .i64 n, .func (.func 70) #[] #[.pointer (some ⟨bx, 0, none⟩)]] w fun e w' => e = .returned (.tuple #[]) ∧ Below w.heap.size w w' := by
  have hn := h.small
  have H := Lib.hid h
  have Hid_ := Lib.hid hid
  have Hord := Lib.hid hord
  have hgd := h.lgd
  clear h hid hord
  go_enter Tryz.func135, Tryz.ntmps135
  go_wp2_with fail
  go_loopw [8] (fun i wr => ∃ k : Nat, i = .int .i64 (k + 1) ∧ k ≤ n ∧ Below w.heap.size w wr) (fun i _ => n + 1 - (intOf i).toNat)
  case atStart => exact ⟨0, rfl, Nat.zero_le _, Below.refl _ _⟩
  case round =>
    obtain ⟨k, rfl, hk, hb⟩ := hrel
    by_cases hlt : k + 1 < n
    · have c0 : wr.cell? ⟨gd, k, none⟩ = some (.int .i64 k) := (hb.cell (p := ⟨gd, k, none⟩) hgd).trans (Hid_.out k (by omega))
      have c1 : wr.cell? ⟨gd, k + 1, none⟩ = some (.int .i64 ((k + 1 : Nat) : Int)) := (hb.cell (p := ⟨gd, k + 1, none⟩) hgd).trans (Hid_.out (k + 1) hlt)
      have ek : ((k + 1 : Nat) : Int) = (k : Int) + 1 := by omega
      have hcall0 := (fun W (hW : Below wr.heap.size wr W) => ord_any bx gr n rs (k + 1) k W ((H.out.below hb).below hW).len hlt (by omega) ((H.out.below hb).below hW).box ((H.out.below hb).below hW).rem)
      rw [ek] at hcall0 c1
      have hcall := Lib.hid hcall0
      clear hcall0 ek
      have ho := Hord.out k hlt
      generalize ordI rs (k + 1) k = R at *
      have a1 : IntKind.i64.wrap ((k : Int) + 1 - 1) = (k : Int) := IntWalk.i64_in _ (by omega) |>.trans (by omega)
      have a2 : ((k : Int) + 1).toNat = k + 1 := by omega
      have a3 : (0 : Int) < (k : Int) + 1 := by omega
      have a4 : decide (R < 0) = false := by simpa using ho
      have a8 : IntKind.i64.wrap (k : Int) = (k : Int) := IntWalk.i64_in _ (by omega)
      have a9 : k < n := by omega
      have a5 : decide ((0 : Int) < (k : Int) + 1) = true := decide_eq_true a3
      have a6 : (0 : Int) ≤ (k : Int) + 1 := by omega
      have a7 : ((k : Int) + 1 - 1).toNat = k := by omega
      have hsz := hb.size
      go_wp2_with fail
      refine wp_loop_rounds 1 ?_
      rw [rounds_succ]
      go_wp2_with fail
      go_still_tail 14, (by kernel_rfl)
      change wpList _ _ _ _ _ wr.drew
      have hwd : Below wr.heap.size wr wr.drew := (Below.refl _ wr).drew
      have hbd := hb.drew
      have hszd : w.heap.size ≤ wr.drew.heap.size := hsz
      generalize wr.drew = w2 at *
      go_wp2_with fail
      refine (hcall.out w2 hwd).mono ?_
      rintro e wA ⟨rfl, hbA⟩
      have GA := hbd.trans (hbA.mono hszd)
      clear a1 a2 a7 a8
      go_wp2
      go_roundw
      case rel => exact ⟨k + 1, by go_num, by omega, GA⟩
      case measure => simp [intOf]; omega
    · go_wp2
      go_end0
      exact ⟨rfl, hb⟩

set_option maxRecDepth 100000 in
set_option maxHeartbeats 1000000 in
theorem pdq_id {w : World} {bx gr gd n : Nat} {rs : List Int} (lim : Int) (h : OrdAt w bx gr gd n rs) (hid : ∀ k : Nat, k < n → w.cell? ⟨gd, k, none⟩ = some (.int .i64 k)) (hord : ∀ k : Nat, k + 1 < n → 0 ≤ ordI rs (k + 1) k) :
    Calls Tryz.prog 122 #[.slice (some ⟨gd, 0, none⟩) n n, .int .i64 0, .int .i64 n, .int .i64 lim, .func (.func 70) #[] #[.pointer (some ⟨bx, 0, none⟩)]] w fun e w' => e = .returned (.tuple #[]) ∧ Below w.heap.size w w' := by
  have hn := h.small
  have HI := Lib.hid (isort_id h hid hord)
  clear h hid hord
  go_enter Tryz.func122, Tryz.ntmps122
  go_wp2_with fail
  refine wp_loop_rounds 1 ?_
  rw [rounds_succ]
  go_wp2_with fail
  refine HI.out.mono ?_
  rintro e w1 ⟨rfl, hb1⟩
  go_wp2
  refine bodyPost_ret (results_none rfl _ _ _) rfl ?_
  exact ⟨rfl, hb1⟩

set_option maxRecDepth 100000 in
set_option maxHeartbeats 1000000 in
theorem sort_id {w : World} {bx gr gd n : Nat} {rs : List Int} (h : OrdAt w bx gr gd n rs) (hid : ∀ k : Nat, k < n → w.cell? ⟨gd, k, none⟩ = some (.int .i64 k)) (hord : ∀ k : Nat, k + 1 < n → 0 ≤ ordI rs (k + 1) k) :
    Calls Tryz.prog 69 #[.slice (some ⟨gd, 0, none⟩) n n, .func (.func 70) #[] #[.pointer (some ⟨bx, 0, none⟩)]] w fun e w' => e = .returned (.tuple #[]) ∧ Below w.heap.size w w' := by
  have hn := h.small
  have HI := Lib.hid (fun lim => pdq_id lim h hid hord)
  have HL := Lib.hid (Tryz.bits_Len n w (by omega) (by omega))
  clear h hid hord
  go_enter Tryz.func69, Tryz.ntmps69
  go_wp2_with fail
  refine HL.out.mono ?_
  rintro e w1 ⟨rfl, rfl⟩
  go_wp2_with fail
  refine (HI.out _).mono ?_
  rintro e w1 ⟨rfl, hb1⟩
  go_wp2
  go_end0
  exact ⟨rfl, hb1⟩

end Go.Proofs.YtlgedljhheficaaGreatDoor
