/- New and the reference's New on any catalogs answer alike. The reference's generator of renames: some renames. The law's renames: a copy. -/
import Derived.Test.YthjfdfdgbpbanaaGreatDoorV15
import Derived.Test.YthjfdfdgbpbanaaGreatDoorV17
import Derived.Test.YthjfdfdgbpbanaaGreatDoorV18
import Derived.Deep.CutBlock
import Derived.Deep.DeepCutAuto
import Derived.Deep.RegionHeld3
import Derived.Deep.AppendLies
import Derived.BigQuiet
import Derived.Maps.AppendAt
set_option linter.unusedVariables false
set_option linter.unusedSimpArgs false
open Go.RowKit
namespace Go.Proofs.YthjfdfdgbpbanaaGreatDoor
def newCE (a b : CatM) (rs : List Ren) : Int := if codeBoth a b ≠ 0 then codeBoth a b else newE a.items b.items rs
def newCL (a b : CatM) (rs : List Ren) : List Tr := if codeBoth a b ≠ 0 then [] else newL a.items b.items rs
def NewC (w : World) (a b : CatM) (rs : List Ren) (e : Ending) (w' : World) : Prop :=
 ∃ A c, e = .returned (.tuple #[.slice A (newCL a b rs).length c, .int .i64 (newCE a b rs)]) ∧ Row w' w'.heap.size A (tcells (newCL a b rs)) ∧ Below w.heap.size w w'
theorem NewC.bad {w w' : World} {a b : CatM} {rs : List Ren} {q : Int} (hq : codeBoth a b = q) (h : q ≠ 0) (hb : Below w.heap.size w w') : NewC w a b rs (.returned (.tuple #[.slice none 0 0, .int .i64 q])) w' := by
 have e1 : newCL a b rs = [] := by unfold newCL; rw [if_pos (by rw [hq]; exact h)]
 have e2 : newCE a b rs = q := by unfold newCE; rw [if_pos (by rw [hq]; exact h), hq]
 exact ⟨none, 0, by rw [e1, e2]; rfl, by rw [e1]; exact .inl rfl, hb⟩
theorem NewC.good {w w' : World} {a b : CatM} {rs : List Ren} {e : Ending} (hq : codeBoth a b = 0) (h : NewPost w a.items b.items rs e w') : NewC w a b rs e w' := by
 have e1 : newCL a b rs = newL a.items b.items rs := by unfold newCL; rw [if_neg (by rw [hq]; simp)]
 have e2 : newCE a b rs = newE a.items b.items rs := by unfold newCE; rw [if_neg (by rw [hq]; simp)]
 unfold NewC
 rw [e1, e2]
 exact h
theorem codeBoth_zero {a b : CatM} (h : codeBoth a b = 0) : codeC a = 0 ∧ codeC b = 0 := by
 unfold codeBoth at h
 by_cases e : codeC a ≠ 0
 ·rw [if_pos e] at h; exact absurd h e
 ·rw [if_neg e] at h; exact ⟨by omega, h⟩
theorem code_parts {m : CatM} (h : codeC m = 0) : limC m = true ∧ fitB m = true ∧ diffC m = true ∧ wfC m = true ∧ rgC m = true := by
 unfold codeC codeOf at h
 cases h1 : limC m
 ·rw [h1] at h; simp at h
 cases h2 : fitB m
 ·rw [h1, h2] at h; simp at h
 cases h3 : diffC m
 ·rw [h1, h2, h3] at h; simp at h
 cases h4 : wfC m
 ·rw [h1, h2, h3, h4] at h; simp at h
 cases h5 : rgC m
 ·rw [h1, h2, h3, h4, h5] at h; simp at h
 exact ⟨rfl, rfl, rfl, rfl, rfl⟩
theorem dist_cat {m : CatM} (h : codeC m = 0) : Dist m.items := by
 have := (code_parts h).2.2.1
 simp only [diffC, Bool.and_eq_true] at this
 exact dist_of this.1.1.1
set_option maxRecDepth 100000 in
set_option maxHeartbeats 1000000 in
theorem New_cat {w : World} {a b : CatM} {R : Sl} {rs : List Ren} (ha : a.Ok w) (hb : b.Ok w) (hr : RensV w R.A R.n rs) (hT : Tab w) :
 Calls Tryz.prog 12 #[a.val, b.val, .slice R.A R.n R.c] w (NewC w a b rs) := by
 by_cases hq : codeBoth a b = 0
 ·have := New_valid2 (ro := a.sr) (to_ := a.st) (xo := a.sx) (rx := b.sr) (tx := b.st) (xx := b.sx) (R := R) ha.items.itsR hb.items.itsR hr (fun W hW => by
   have h := both_cat (ha.below hW) (hb.below hW) (hT.below hW hT.1)
   rw [hq] at h
   exact h)
  exact this.mono fun e w' h => NewC.good hq h
 ·have X0 : Below w.heap.size w ((w.alloc (catSO a.si a.sr a.st a.sx)).alloc (catSO b.si b.sr b.st b.sx)) := ((Below.refl _ _).alloc (Nat.le_refl _) _).alloc (by simp) _
  have K := Lib.hid (both_cat (ha.below X0) (hb.below X0) (hT.below X0 hT.1))
  have HE : Hid (∀ w', Below w.heap.size w w' → NewC w a b rs (.returned (.tuple #[.slice none 0 0, .int .i64 (codeBoth a b)])) w') := fun w' h => NewC.bad rfl hq h
  have e1 : (codeBoth a b != 0) = true := by simpa using hq
  generalize codeBoth a b = q at *
  clear ha hb hr hT hq
  go_enter Tryz.func12, Tryz.ntmps12
  go_wp2_with fail
  (with_reducible refine K.out.mono ?_)
  rintro e w1 ⟨rfl, hb1⟩
  have HB := Lib.hid (X0.trans (hb1.mono (by simp; omega)))
  clear hb1
  go_wp2
  exact bodyPost_ret (v := .tuple #[.slice none 0 0, .int .i64 q]) (by simp [results, Tryz.results12, go_sem]) rfl (HE.out _ HB.out)
set_option maxRecDepth 100000 in
set_option maxHeartbeats 1000000 in
theorem rNew_cat {w : World} {a b : CatM} {R : Sl} {rs : List Ren} (ha : a.Ok w) (hb : b.Ok w) (hr : RensV w R.A R.n rs) :
 Calls Tryz.prog 14 #[a.val, b.val, .slice R.A R.n R.c] w (NewC w a b rs) := by
 by_cases hq : codeBoth a b = 0
 ·obtain ⟨c1, c2⟩ := codeBoth_zero hq
  have := rNew_valid (ro := a.sr) (to_ := a.st) (xo := a.sx) (rx := b.sr) (tx := b.st) (xx := b.sx) (R := R) ha.items.itsR hb.items.itsR hr (dist_cat c1) (dist_cat c2) (fun W hW => by
   have h := rboth_cat (ha.below hW) (hb.below hW)
   rw [hq] at h
   exact h)
  exact this.mono fun e w' h => NewC.good hq h
 ·have X0 : Below w.heap.size w ((w.alloc (catSO a.si a.sr a.st a.sx)).alloc (catSO b.si b.sr b.st b.sx)) := ((Below.refl _ _).alloc (Nat.le_refl _) _).alloc (by simp) _
  have K := Lib.hid (rboth_cat (ha.below X0) (hb.below X0))
  have HE : Hid (∀ w', Below w.heap.size w w' → NewC w a b rs (.returned (.tuple #[.slice none 0 0, .int .i64 (codeBoth a b)])) w') := fun w' h => NewC.bad rfl hq h
  have e1 : (codeBoth a b != 0) = true := by simpa using hq
  generalize codeBoth a b = q at *
  clear ha hb hr hq
  go_enter Tryz.func14, Tryz.ntmps14
  go_wp2_with fail
  (with_reducible refine K.out.mono ?_)
  rintro e w1 ⟨rfl, hb1⟩
  have HB := Lib.hid (X0.trans (hb1.mono (by simp; omega)))
  clear hb1
  go_wp2
  exact bodyPost_ret (v := .tuple #[.slice none 0 0, .int .i64 q]) (by simp [results, Tryz.results14, go_sem]) rfl (HE.out _ HB.out)
section
def Ren.Fits (r : Ren) : Prop := r.old.size ≤ 8192 ∧ r.new.size ≤ 8192
/-- A row of renames, and one in its box g. -/
structure YAt (V W : World) (v : Value) (n : Nat) (l : List Ren) (g : Nat) (r : Ren) : Prop where
 own : W.ownsRow V.heap.size 87 4 v n (rcells l)
 len : n = l.length
 bx : Bk W g 87 [.string r.old, .string r.new, .int .i64 r.num, .int .i64 r.den]
 ne : v.ownBlock ≠ some g
 ge : V.heap.size ≤ g
 bel : Below V.heap.size V W
 okl : ∀ x ∈ l, x.Fits
 okr : r.Fits
section
variable {V W W' : World} {v : Value} {n : Nat} {l : List Ren} {g : Nat} {r : Ren}
theorem YAt.below (h : YAt V W v n l g r) (hb : Below W.heap.size W W') : YAt V W' v n l g r :=
 ⟨h.own.kept (grown_of_below hb (some g)) (.inr h.ne), h.len, h.bx.below hb h.bx.lt, h.ne, h.ge, h.bel.trans (hb.mono h.bel.size), h.okl, h.okr⟩
theorem YAt.set (h : YAt V W v n l g r) (j : Nat) (u : Value) (r' : Ren) (hu : [Value.string r.old, .string r.new, .int .i64 r.num, .int .i64 r.den].set j u = [.string r'.old, .string r'.new, .int .i64 r'.num, .int .i64 r'.den]) (hr : r'.Fits) : YAt V (W.setCell ⟨g, j, none⟩ u) v n l g r' := by
 have hg := grown_setCell W g j u
 exact ⟨h.own.kept hg (.inr h.ne), h.len, by rw [← hu]; exact h.bx.set j _, h.ne, h.ge, h.bel.setCell h.ge _, h.okl, hr⟩
end
theorem info87 : (Tryz.prog.info? 87).map (fun i => (i.zero, i.size, i.bytes)) = some (some (.agg #[.string ⟨#[]⟩, .string ⟨#[]⟩, .int .i64 0, .int .i64 0]), 4, 48) := by kernel_rfl
theorem one4 (s t : ByteArray) (x y : Int) : ∀ u ∈ ([.string s, .string t, .int .i64 x, .int .i64 y] : List Value), u.oneCell' = true := by
 intro u hu
 simp only [List.mem_cons, List.not_mem_nil, or_false] at hu
 rcases hu with rfl | rfl | rfl | rfl <;> rfl
/-- Some renames. -/
def RensPost (w : World) (e : Ending) (w' : World) : Prop := ∃ A n c rs, e = .returned (.slice A n c) ∧ RensV w' A n rs ∧ n ≤ 4 ∧ Below w.heap.size w w'
set_option maxRecDepth 100000 in
set_option maxHeartbeats 4000000 in
theorem Renames_any {w : World} {io ro to_ xo ix rx tx xx : Sl} {lo ln : List It} {A : Option Addr} {n : Nat} (c : Nat) {zs : List Int} (a : Nat) (ha : a ≤ 1000) (ho : ItsR w io.A io.n lo) (hn : ItsR w ix.A ix.n ln) (h : IntsV w A n zs) :
 Calls Tryz.prog 11 #[catS io ro to_ xo, catS ix rx tx xx, .slice A n c, .int .i64 (a : Int)] w (RensPost w) := by
 obtain ⟨i0, hi, hz0, hz1, hz2⟩ := info_parts info87
 obtain ⟨Ao, no, co⟩ := io
 obtain ⟨Ax, nx, cx⟩ := ix
 dsimp only at *
 have so := ho.small
 have sn := hn.small
 have Hlo := Lib.hid ho.len
 have Hln := Lib.hid hn.len
 have X0 : Below w.heap.size w ((w.alloc (catSO ⟨Ao, no, co⟩ ro to_ xo)).alloc (catSO ⟨Ax, nx, cx⟩ rx tx xx)) := ((Below.refl _ _).alloc (Nat.le_refl _) _).alloc (by simp) _
 have kx := Bk.new (w.alloc (catSO ⟨Ao, no, co⟩ ro to_ xo)) 28 (catSL ⟨Ax, nx, cx⟩ rx tx xx)
 rw [World.size_alloc] at kx
 have HK1 : Hid (Bk ((w.alloc (catSO ⟨Ao, no, co⟩ ro to_ xo)).alloc (catSO ⟨Ax, nx, cx⟩ rx tx xx)) w.heap.size 28 (catSL ⟨Ao, no, co⟩ ro to_ xo)) := (Bk.new w 28 _).alloc _
 have HK2 := Lib.hid kx
 have HO := Lib.hid (ho.below X0)
 have HN := Lib.hid (hn.below X0)
 have HI := Lib.hid (h.below X0)
 have HX := Lib.hid X0
 clear ho hn h X0 kx
 go_enter Tryz.func11, Tryz.ntmps11
 go_wp2_with fail
 generalize hV : (w.alloc (catSO ⟨Ao, no, co⟩ ro to_ xo)).alloc (catSO ⟨Ax, nx, cx⟩ rx tx xx) = V at HK1 HK2 HO HN HI HX
 (try rw [hV])
 clear hV
 have KP : Hid (∀ (U : World) (i m : Int), Below V.heap.size V U → -9223372036854775808 ≤ i → i ≤ 9223372036854775807 → 1 ≤ m → m ≤ 9223372036854775807 → Calls Tryz.prog 35 #[.slice A n c, .int .i64 i, .int .i64 m] U fun e w' => e = .returned (.int .i64 (pick zs i m)) ∧ U = w') := fun U i m hU h1 h2 h3 h4 => (HI.out.below hU).pick c i m h1 h2 h3 h4
 go_loopw [9, 10] (fun v i wr => ∃ (k : Nat) (l : List Ren), k ≤ 4 ∧ i = .int .i64 k ∧ wr.ownsRow V.heap.size 87 4 v k (rcells l) ∧ k = l.length ∧ (∀ x ∈ l, x.Fits) ∧ Below V.heap.size V wr) (fun _ i _ => 4 - (intOf i).toNat)
 case atStart => exact ⟨0, [], by omega, rfl, World.ownsRow_nil _ _ _ _, rfl, by simp, Below.refl _ _⟩
 case round =>
  obtain ⟨k, l, hk, rfl, hown, hlen, hfit, hb⟩ := hrel
  have HOw := Lib.hid hown
  have HLen := Lib.hid hlen
  have HFit := Lib.hid hfit
  have HB := Lib.hid hb
  have hsz := hb.size
  clear hown hlen hfit hb
  have q0 := pick_lo zs (a : Int) 4 (by omega)
  have q1 := pick_hi zs (a : Int) 4 (by omega)
  go_wp2_with fail
  (with_reducible refine (KP.out _ _ _ HB.out (by omega) (by omega) (by omega) (by omega)).mono ?_)
  rintro e w' ⟨rfl, rfl⟩
  generalize pick zs (a : Int) 4 = P at *
  by_cases hlt : (k : Int) < P
  ·go_wp2_with fail
   (with_reducible refine (KP.out _ _ _ HB.out (by omega) (by omega) (by omega) (by omega)).mono ?_)
   rintro e w' ⟨rfl, rfl⟩
   have r0 := pick_lo zs ((a : Int) + 4 * (k : Int) + 1) 3 (by omega)
   have r1 := pick_hi zs ((a : Int) + 4 * (k : Int) + 1) 3 (by omega)
   generalize pick zs ((a : Int) + 4 * (k : Int) + 1) 3 = p1 at *
   go_wp2_with fail
   (with_reducible refine (KP.out _ _ _ HB.out (by omega) (by omega) (by omega) (by omega)).mono ?_)
   rintro e w' ⟨rfl, rfl⟩
   have r2 := pick_lo zs ((a : Int) + 4 * (k : Int) + 2) 3 (by omega)
   have r3 := pick_hi zs ((a : Int) + 4 * (k : Int) + 2) 3 (by omega)
   generalize pick zs ((a : Int) + 4 * (k : Int) + 2) 3 = p2 at *
   have HY : Hid (YAt V (wr.alloc (.cells #[.string ⟨#[110, 111, 116, 104, 105, 110, 103]⟩, .string ⟨#[110, 111, 116, 104, 105, 110, 103]⟩, .int .i64 (1 + p1), .int .i64 (1 + p2)] 87)) u9 k l wr.heap.size ⟨⟨#[110, 111, 116, 104, 105, 110, 103]⟩, ⟨#[110, 111, 116, 104, 105, 110, 103]⟩, 1 + p1, 1 + p2⟩) := by
    refine ⟨HOw.out.alloc _, HLen.out, Bk.new wr 87 _, fun e => ?_, hsz, HB.out.alloc hsz _, HFit.out, ⟨by show (7 : Nat) ≤ 8192; omega, by show (7 : Nat) ≤ 8192; omega⟩⟩
    have := HOw.out.lt _ e
    omega
   have b10 : (wr.alloc (.cells #[.string ⟨#[110, 111, 116, 104, 105, 110, 103]⟩, .string ⟨#[110, 111, 116, 104, 105, 110, 103]⟩, .int .i64 (1 + p1), .int .i64 (1 + p2)] 87)).cell? ⟨w.heap.size, 0, none⟩ = some (.slice Ao no co) := (HY.out.bel.cell (p := ⟨w.heap.size, 0, none⟩) HK1.out.lt).trans (HK1.out.cell 0)
   have hl1 : w.heap.size < wr.heap.size := Nat.lt_of_lt_of_le HK1.out.lt hsz
   go_upto_if 40 with fail
   obtain ⟨g, hg⟩ : ∃ g, wr.heap.size = g := ⟨_, rfl⟩
   generalize hW : wr.alloc (.cells #[.string ⟨#[110, 111, 116, 104, 105, 110, 103]⟩, .string ⟨#[110, 111, 116, 104, 105, 110, 103]⟩, .int .i64 (1 + p1), .int .i64 (1 + p2)] 87) = W1 at HY ⊢
   rw [hg] at HY ⊢
   clear hg hW b10 hl1
   generalize hr0 : (⟨⟨#[110, 111, 116, 104, 105, 110, 103]⟩, ⟨#[110, 111, 116, 104, 105, 110, 103]⟩, 1 + p1, 1 + p2⟩ : Ren) = r at HY
   clear hr0
   go_cut [10] (fun b wx => b = .int .i64 (k : Int) ∧ ∃ r, YAt V wx u9 k l g r)
   case first =>
    have b10 : W1.cell? ⟨w.heap.size, 0, none⟩ = some (.slice Ao no co) := (HY.out.bel.cell (p := ⟨w.heap.size, 0, none⟩) HK1.out.lt).trans (HK1.out.cell 0)
    have hl1 : w.heap.size < W1.heap.size := Nat.lt_of_lt_of_le HK1.out.lt HY.out.bel.size
    by_cases hno : 0 < no
    ·have r4 := pick_lo zs ((a : Int) + 4 * (k : Int) + 3) (no : Int) (by omega)
     have r5 := pick_hi zs ((a : Int) + 4 * (k : Int) + 3) (no : Int) (by omega)
     obtain ⟨j, hj⟩ : ∃ j : Nat, pick zs ((a : Int) + 4 * (k : Int) + 3) (no : Int) = j := ⟨_, (Int.toNat_of_nonneg r4).symm⟩
     have KQ : Hid (∀ U : World, Below V.heap.size V U → Calls Tryz.prog 35 #[.slice A n c, .int .i64 ((a : Int) + 4 * (k : Int) + 3), .int .i64 (no : Int)] U fun e w' => e = .returned (.int .i64 (j : Int)) ∧ U = w') := fun U hU => by
      have := KP.out U ((a : Int) + 4 * (k : Int) + 3) (no : Int) hU (by omega) (by omega) (by omega) (by omega)
      rw [hj] at this
      exact this
     rw [hj] at r5
     clear hj r4
     have hjn : j < no := by omega
     have hAt := HO.out.at_ j hjn
     (try dsimp only at hAt)
     obtain ⟨ba, oa, rfl, hba, p0, _⟩ := hAt
     have hsz8 := HO.out.name _ (itAt_mem (show j < lo.length by have := Hlo.out; omega))
     generalize (itAt lo j).name = s at *
     have HC : Hid (∀ U : World, Below V.heap.size V U → U.cell? ⟨w.heap.size, 0, none⟩ = some (.slice (some ⟨ba, oa, none⟩) no co) ∧ U.cell? ⟨ba, oa + j * 7, none⟩ = some (.string s)) := fun U hU => ⟨(hU.cell (p := ⟨w.heap.size, 0, none⟩) HK1.out.lt).trans (HK1.out.cell 0), (hU.cell (p := ⟨ba, _, none⟩) hba).trans p0⟩
     have x0 : W1.cell? ⟨g, 0, none⟩ = some (.string r.old) := HY.out.bx.cell 0
     have y0 := HY.out.bx.frozen 0
     have hg2 := HY.out.bx.lt
     have HY2 := Lib.hid ((HY.out.below (Below.refl _ _).drew).set 0 (.string s) ⟨s, r.new, r.num, r.den⟩ rfl ⟨hsz8, HY.out.okr.2⟩)
     have B9 := HY.out.bel.drew
     have B8 := HY2.out.bel
     have z1 : IntKind.i64.wrap (4 * (k : Int)) = 4 * (k : Int) := IntWalk.i64_in _ (by omega)
     have z2 : IntKind.i64.wrap ((a : Int) + 4 * (k : Int)) = (a : Int) + 4 * (k : Int) := IntWalk.i64_in _ (by omega)
     have z3 : IntKind.i64.wrap ((a : Int) + 4 * (k : Int) + 3) = (a : Int) + 4 * (k : Int) + 3 := IntWalk.i64_in _ (by omega)
     have j0 : (0 : Int) ≤ (j : Int) := by omega
     have j1 : (j : Int) < (no : Int) := by omega
     clear p0 b10
     have a1 : decide (0 < no) = true := decide_eq_true hno
     have b11 := (HC.out W1 HY.out.bel).1
     go_wp2_with fail
     clear b11
     go_region_held3 (fun U => U.cell? ⟨w.heap.size, 0, none⟩ = some (.slice (some ⟨ba, oa, none⟩) no co) ∧ U.cell? ⟨ba, oa + j * 7, none⟩ = some (.string s)) (first | exact HC.out _ B9 | exact HC.out _ B8)
      ((go_at_call 35; (with_reducible refine (KQ.out _ B9).mono ?_); rintro e w' ⟨rfl, rfl⟩))
     go_wp2
     go_meet
     exact ⟨rfl, _, HY2.out⟩
    ·have a1 : decide (0 < no) = false := decide_eq_false hno
     go_wp2
     go_meet
     exact ⟨rfl, _, HY.out⟩
   case rest =>
    obtain ⟨rfl, r', hY⟩ := hcut
    clear HY
    obtain ⟨W2, hW2⟩ : ∃ W2, wc = W2 := ⟨_, rfl⟩
    rw [hW2] at hY ⊢
    clear hW2
    have HY := Lib.hid hY
    clear hY
    clear r
    obtain ⟨r, hr⟩ : ∃ r, r' = r := ⟨_, rfl⟩
    rw [hr] at HY
    clear hr
    obtain ⟨W1, hW1⟩ : ∃ W1, W2 = W1 := ⟨_, rfl⟩
    rw [hW1] at HY ⊢
    clear hW1
    have b10 : W1.cell? ⟨w.heap.size + 1, 0, none⟩ = some (.slice Ax nx cx) := (HY.out.bel.cell (p := ⟨w.heap.size + 1, 0, none⟩) HK2.out.lt).trans (HK2.out.cell 0)
    have hl2 : w.heap.size + 1 < W1.heap.size := Nat.lt_of_lt_of_le HK2.out.lt HY.out.bel.size
    go_upto_if 60 with fail
    clear b10 hl2
    go_cut [10] (fun b wx => b = .int .i64 (k : Int) ∧ ∃ r, YAt V wx u9 k l g r)
    case first =>
     have b10 : W1.cell? ⟨w.heap.size + 1, 0, none⟩ = some (.slice Ax nx cx) := (HY.out.bel.cell (p := ⟨w.heap.size + 1, 0, none⟩) HK2.out.lt).trans (HK2.out.cell 0)
     have hl1 : w.heap.size + 1 < W1.heap.size := Nat.lt_of_lt_of_le HK2.out.lt HY.out.bel.size
     by_cases hno : 0 < nx
     ·have r4 := pick_lo zs ((a : Int) + 4 * (k : Int) + 4) (nx : Int) (by omega)
      have r5 := pick_hi zs ((a : Int) + 4 * (k : Int) + 4) (nx : Int) (by omega)
      obtain ⟨j, hj⟩ : ∃ j : Nat, pick zs ((a : Int) + 4 * (k : Int) + 4) (nx : Int) = j := ⟨_, (Int.toNat_of_nonneg r4).symm⟩
      have KQ : Hid (∀ U : World, Below V.heap.size V U → Calls Tryz.prog 35 #[.slice A n c, .int .i64 ((a : Int) + 4 * (k : Int) + 4), .int .i64 (nx : Int)] U fun e w' => e = .returned (.int .i64 (j : Int)) ∧ U = w') := fun U hU => by
       have := KP.out U ((a : Int) + 4 * (k : Int) + 4) (nx : Int) hU (by omega) (by omega) (by omega) (by omega)
       rw [hj] at this
       exact this
      rw [hj] at r5
      clear hj r4
      have hjn : j < nx := by omega
      have hAt := HN.out.at_ j hjn
      (try dsimp only at hAt)
      obtain ⟨ba, oa, rfl, hba, p0, _⟩ := hAt
      have hsz8 := HN.out.name _ (itAt_mem (show j < ln.length by have := Hln.out; omega))
      generalize (itAt ln j).name = s at *
      have HC : Hid (∀ U : World, Below V.heap.size V U → U.cell? ⟨w.heap.size + 1, 0, none⟩ = some (.slice (some ⟨ba, oa, none⟩) nx cx) ∧ U.cell? ⟨ba, oa + j * 7, none⟩ = some (.string s)) := fun U hU => ⟨(hU.cell (p := ⟨w.heap.size + 1, 0, none⟩) HK2.out.lt).trans (HK2.out.cell 0), (hU.cell (p := ⟨ba, _, none⟩) hba).trans p0⟩
      have x0 : W1.cell? ⟨g, 1, none⟩ = some (.string r.new) := HY.out.bx.cell 1
      have y0 := HY.out.bx.frozen 1
      have hg2 := HY.out.bx.lt
      have HY2 := Lib.hid ((HY.out.below (Below.refl _ _).drew).set 1 (.string s) ⟨r.old, s, r.num, r.den⟩ rfl ⟨HY.out.okr.1, hsz8⟩)
      have B9 := HY.out.bel.drew
      have B8 := HY2.out.bel
      have z1 : IntKind.i64.wrap (4 * (k : Int)) = 4 * (k : Int) := IntWalk.i64_in _ (by omega)
      have z2 : IntKind.i64.wrap ((a : Int) + 4 * (k : Int)) = (a : Int) + 4 * (k : Int) := IntWalk.i64_in _ (by omega)
      have z3 : IntKind.i64.wrap ((a : Int) + 4 * (k : Int) + 4) = (a : Int) + 4 * (k : Int) + 4 := IntWalk.i64_in _ (by omega)
      have j0 : (0 : Int) ≤ (j : Int) := by omega
      have j1 : (j : Int) < (nx : Int) := by omega
      clear p0 b10
      have a1 : decide (0 < nx) = true := decide_eq_true hno
      have b11 := (HC.out W1 HY.out.bel).1
      go_wp2_with fail
      clear b11
      go_region_held3 (fun U => U.cell? ⟨w.heap.size + 1, 0, none⟩ = some (.slice (some ⟨ba, oa, none⟩) nx cx) ∧ U.cell? ⟨ba, oa + j * 7, none⟩ = some (.string s)) (first | exact HC.out _ B9 | exact HC.out _ B8)
       ((go_at_call 35; (with_reducible refine (KQ.out _ B9).mono ?_); rintro e w' ⟨rfl, rfl⟩))
      go_wp2
      go_meet
      exact ⟨rfl, _, HY2.out⟩
     ·have a1 : decide (0 < nx) = false := decide_eq_false hno
      go_wp2
      go_meet
      exact ⟨rfl, _, HY.out⟩
    case rest =>
     obtain ⟨rfl, r', hY⟩ := hcut
     clear HY
     obtain ⟨W2, hW2⟩ : ∃ W2, wc = W2 := ⟨_, rfl⟩
     rw [hW2] at hY ⊢
     clear hW2
     have HY := Lib.hid hY
     clear hY
     clear r
     obtain ⟨r, hr⟩ : ∃ r, r' = r := ⟨_, rfl⟩
     rw [hr] at HY
     clear hr
     obtain ⟨W1, hW1⟩ : ∃ W1, W2 = W1 := ⟨_, rfl⟩
     rw [hW1] at HY ⊢
     clear hW1
     go_wp2_with fail
     (with_reducible refine (KP.out _ _ _ HY.out.bel (by omega) (by omega) (by omega) (by omega)).mono ?_)
     rintro e w' ⟨rfl, rfl⟩
     have s0 := pick_lo zs ((a : Int) + 4 * (k : Int) + 5) 12 (by omega)
     have s1 := pick_hi zs ((a : Int) + 4 * (k : Int) + 5) 12 (by omega)
     generalize pick zs ((a : Int) + 4 * (k : Int) + 5) 12 = t12 at *
     go_upto_if 85 with fail
     go_cut [12] (fun b wx => b = .int .i64 t12 ∧ ∃ r, YAt V wx u9 k l g r)
     case first =>
      have x0 : W1.cell? ⟨g, 2, none⟩ = some (.int .i64 r.num) := HY.out.bx.cell 2
      have y0 := HY.out.bx.frozen 2
      have hg2 := HY.out.bx.lt
      by_cases ht : t12 = 0
      ·subst ht
       go_wp2_with fail
       (with_reducible refine (KP.out _ _ _ HY.out.bel (by omega) (by omega) (by omega) (by omega)).mono ?_)
       rintro e w' ⟨rfl, rfl⟩
       have v0 := pick_lo zs ((a : Int) + 4 * (k : Int) + 6) 1200000 (by omega)
       have v1 := pick_hi zs ((a : Int) + 4 * (k : Int) + 6) 1200000 (by omega)
       generalize pick zs ((a : Int) + 4 * (k : Int) + 6) 1200000 = p at *
       have HY2 := Lib.hid (HY.out.set 2 (.int .i64 (p - 10)) ⟨r.old, r.new, p - 10, r.den⟩ rfl HY.out.okr)
       go_wp2
       go_meet
       exact ⟨rfl, _, HY2.out⟩
      ·have e1 : (t12 == 0) = false := by simpa using ht
       go_wp2
       go_meet
       exact ⟨rfl, _, HY.out⟩
     case rest =>
      obtain ⟨rfl, r', hY⟩ := hcut
      clear HY
      obtain ⟨W2, hW2⟩ : ∃ W2, wc = W2 := ⟨_, rfl⟩
      rw [hW2] at hY ⊢
      clear hW2
      have HY := Lib.hid hY
      clear hY
      clear r
      obtain ⟨r, hr⟩ : ∃ r, r' = r := ⟨_, rfl⟩
      rw [hr] at HY
      clear hr
      obtain ⟨W1, hW1⟩ : ∃ W1, W2 = W1 := ⟨_, rfl⟩
      rw [hW1] at HY ⊢
      clear hW1
      go_upto_if 96 with fail
      go_cut [12] (fun b wx => b = .int .i64 t12 ∧ ∃ r, YAt V wx u9 k l g r)
      case first =>
       have x0 : W1.cell? ⟨g, 0, none⟩ = some (.string r.old) := HY.out.bx.cell 0
       have y0 := HY.out.bx.frozen 0
       have hg2 := HY.out.bx.lt
       have HY2 := Lib.hid (HY.out.set 0 (.string ⟨#[122, 122]⟩) ⟨⟨#[122, 122]⟩, r.new, r.num, r.den⟩ rfl ⟨by show (2 : Nat) ≤ 8192; omega, HY.out.okr.2⟩)
       by_cases ht : t12 = 1
       ·subst ht
        go_wp2
        go_meet
        exact ⟨rfl, _, HY2.out⟩
       ·have e1 : (t12 == 1) = false := by simpa using ht
        go_wp2
        go_meet
        exact ⟨rfl, _, HY.out⟩
      case rest =>
       obtain ⟨rfl, r', hY⟩ := hcut
       clear HY
       obtain ⟨W2, hW2⟩ : ∃ W2, wc = W2 := ⟨_, rfl⟩
       rw [hW2] at hY ⊢
       clear hW2
       have HY := Lib.hid hY
       clear hY
       clear r
       obtain ⟨r, hr⟩ : ∃ r, r' = r := ⟨_, rfl⟩
       rw [hr] at HY
       clear hr
       obtain ⟨W1, hW1⟩ : ∃ W1, W2 = W1 := ⟨_, rfl⟩
       rw [hW1] at HY ⊢
       clear hW1
       go_upto_if 99 with fail
       go_cut [12] (fun b wx => b = .int .i64 t12 ∧ ∃ r, YAt V wx u9 k l g r)
       case first =>
        have x0 : W1.cell? ⟨g, 2, none⟩ = some (.int .i64 r.num) := HY.out.bx.cell 2
        have y0 := HY.out.bx.frozen 2
        have HY2 := Lib.hid (HY.out.set 2 (.int .i64 1) ⟨r.old, r.new, 1, r.den⟩ rfl HY.out.okr)
        have x1 : (W1.setCell ⟨g, 2, none⟩ (.int .i64 1)).cell? ⟨g, 3, none⟩ = some (.int .i64 r.den) := HY2.out.bx.cell 3
        have y1 := HY2.out.bx.frozen 3
        have HY3 := Lib.hid (HY2.out.set 3 (.int .i64 1) ⟨r.old, r.new, 1, 1⟩ rfl HY.out.okr)
        have hg2 := HY.out.bx.lt
        by_cases ht : 7 < t12
        ·go_wp2
         go_meet
         exact ⟨rfl, _, HY3.out⟩
        ·go_wp2
         go_meet
         exact ⟨rfl, _, HY.out⟩
       case rest =>
        obtain ⟨rfl, r', hY⟩ := hcut
        clear HY
        obtain ⟨W2, hW2⟩ : ∃ W2, wc = W2 := ⟨_, rfl⟩
        rw [hW2] at hY ⊢
        clear hW2
        have HY := Lib.hid hY
        clear hY
        clear r
        obtain ⟨r, hr⟩ : ∃ r, r' = r := ⟨_, rfl⟩
        rw [hr] at HY
        clear hr
        obtain ⟨W1, hW1⟩ : ∃ W1, W2 = W1 := ⟨_, rfl⟩
        rw [hW1] at HY ⊢
        clear hW1
        have x0 : W1.cell? ⟨g, 0, none⟩ = some (.string r.old) := HY.out.bx.cell 0
        have x1 : W1.cell? ⟨g, 1, none⟩ = some (.string r.new) := HY.out.bx.cell 1
        have x2 : W1.cell? ⟨g, 2, none⟩ = some (.int .i64 r.num) := HY.out.bx.cell 2
        have x3 : W1.cell? ⟨g, 3, none⟩ = some (.int .i64 r.den) := HY.out.bx.cell 3
        have hg2 := HY.out.bx.lt
        have hs8 := HY.out.bel.size
        go_wp2_with (at_builtin; refine wpList_append_own_at _ rfl _ _ 31 rfl V.heap.size 87 i0 (.agg #[.string ⟨#[]⟩, .string ⟨#[]⟩, .int .i64 0, .int .i64 0]) 4 48 Tryz.underlying31 hi hz0 hz1 hz2 rfl (by decide) _ k (rcells l) rfl (HY.out.own.alloc _) ⟨W1.heap.size, 0, none⟩ 1 1 [.string r.old, .string r.new, .int .i64 r.num, .int .i64 r.den] rfl rfl (new4 _ _ _ _ _ _) (one4 _ _ _ _) (by unfold maxLen; omega) (by omega) (by simp; omega) ?_)
        intro v' w9 hown' hgrow _ _
        have hb9 : Below V.heap.size V w9 := (HY.out.bel.alloc hs8 _).grown hgrow (by simp; omega) (row_base HY.out.own)
        have HO1 := Lib.hid hown'
        clear hown' hgrow
        go_wp2
        go_roundw
        case rel =>
         refine ⟨k + 1, l ++ [r], by omega, by go_num, by rw [rcells_snoc]; exact HO1.out, ?_, ?_, hb9⟩
         ·rw [List.length_append, ← HLen.out]; rfl
         ·intro x hx
          rcases List.mem_append.1 hx with h1 | h1
          ·exact HFit.out x h1
          ·rw [List.mem_singleton.1 h1]; exact HY.out.okr
        case measure => simp [intOf]; omega
  ·have hr : wr.ownsRow V.heap.size 87 4 u9 k (rcells l) := HOw.out
   obtain ⟨A', c', hv, hrow⟩ := row_of_owns hr
   rw [hv]
   have HRow := Lib.hid hrow
   clear hv hr hrow
   go_wp2
   go_ret
   refine ⟨A', k, c', l, rfl, ⟨HRow.out, HLen.out, by omega, fun j hj => ?_⟩, hk, HX.out.trans (HB.out.mono HX.out.size)⟩
   have hm : renAt l j ∈ l := by
    have hjl : j < l.length := by have := HLen.out; omega
    simp [renAt, hjl]
   exact ⟨size_max (HFit.out _ hm).1, size_max (HFit.out _ hm).2⟩
end
theorem info94 : (Tryz.prog.info? 94).map (fun i => (i.zero, i.size, i.bytes)) = some (some (.agg #[.string ⟨#[]⟩, .string ⟨#[]⟩, .int .i64 0, .int .i64 0]), 4, 48) := by kernel_rfl
def RenCopy (w : World) (n : Nat) (rs : List Ren) (e : Ending) (w' : World) : Prop := ∃ A c, e = .returned (.slice A n c) ∧ RensV w' A n rs ∧ Below w.heap.size w w'
theorem take_ren (l : List Ren) (k : Nat) (h : k < l.length) : l.take (k + 1) = l.take k ++ [renAt l k] := by
 rw [List.take_succ_eq_append_getElem h]
 simp [renAt, h]
set_option maxRecDepth 100000 in
set_option maxHeartbeats 2000000 in
theorem renames_any {w : World} {A : Option Addr} {n : Nat} (c : Nat) {rs : List Ren} (h : RensV w A n rs) :
 Calls Tryz.prog 13 #[.slice A n c] w (RenCopy w n rs) := by
 obtain ⟨i0, hi, hz0, hz1, hz2⟩ := info_parts info94
 have Hn := Lib.hid h.len
 have H := Lib.hid h
 have hs := h.small
 clear h
 go_enter Tryz.func13, Tryz.ntmps13
 go_wp2_with fail
 go_loopw [3, 4] (fun v i wr => ∃ k : Nat, k ≤ n ∧ i = .int .i64 k ∧ wr.ownsRow w.heap.size 94 4 v k (rcells (rs.take k)) ∧ Below w.heap.size w wr) (fun _ i _ => n - (intOf i).toNat)
 case atStart => exact ⟨0, Nat.zero_le _, rfl, World.ownsRow_nil _ _ _ _, Below.refl _ _⟩
 case round =>
  obtain ⟨k, hk, rfl, hown, hb⟩ := hrel
  by_cases hlt : k < n
  ·have hkl : k < rs.length := by have := Hn.out; omega
   obtain ⟨b, off, rfl, hbb, c0, c1, c2, c3⟩ := H.out.at_ k hlt
   have HT := Lib.hid (take_ren rs k hkl)
   have hsz := hb.size
   generalize renAt rs k = r at *
   obtain ⟨s, t, x, y⟩ := r
   dsimp only at *
   have HC : Hid (∀ U : World, Below w.heap.size w U → U.cell? ⟨b, off + k * 4, none⟩ = some (.string s) ∧ U.cell? ⟨b, off + k * 4 + 1, none⟩ = some (.string t) ∧ U.cell? ⟨b, off + k * 4 + 2, none⟩ = some (.int .i64 x) ∧ U.cell? ⟨b, off + k * 4 + 3, none⟩ = some (.int .i64 y)) :=
    fun U hU => ⟨(hU.cell (p := ⟨b, _, none⟩) hbb).trans c0, (hU.cell (p := ⟨b, _, none⟩) hbb).trans c1, (hU.cell (p := ⟨b, _, none⟩) hbb).trans c2, (hU.cell (p := ⟨b, _, none⟩) hbb).trans c3⟩
   have OWN : Hid ((wr.drew.alloc (.cells #[.string s, .string t, .int .i64 x, .int .i64 y] 94)).ownsRow w.heap.size 94 4 u3 k (rcells (rs.take k))) := (hown.drew).alloc _
   clear hown hkl c0 c1 c2 c3
   have C1 := Lib.hid (new4 wr.drew 94 (.string s) (.string t) (.int .i64 x) (.int .i64 y))
   have k0 : (0 : Int) ≤ (k : Int) := by omega
   have k1 : (k : Int) < (n : Int) := by omega
   have B1 : Below w.heap.size w (wr.drew.alloc (.cells #[.string s, .string t, .int .i64 x, .int .i64 y] 94)) := hb.drew.alloc hsz _
   have C3 : Hid (k + 1 ≤ maxLen) := by show k + 1 ≤ maxLen; unfold maxLen; omega
   have C5 : Hid (w.heap.size ≤ (wr.drew.alloc (.cells #[.string s, .string t, .int .i64 x, .int .i64 y] 94)).heap.size) := by show w.heap.size ≤ _; simp; omega
   have C6 : Hid ((wr.drew.alloc (.cells #[.string s, .string t, .int .i64 x, .int .i64 y] 94)).heap.size = wr.heap.size + 1) := by show _ = _; simp
   go_wp2_with fail
   go_region_held3 (fun U => U.cell? ⟨b, off + k * 4, none⟩ = some (.string s) ∧ U.cell? ⟨b, off + k * 4 + 1, none⟩ = some (.string t) ∧ U.cell? ⟨b, off + k * 4 + 2, none⟩ = some (.int .i64 x) ∧ U.cell? ⟨b, off + k * 4 + 3, none⟩ = some (.int .i64 y)) (first | exact HC.out _ hb.drew | exact HC.out _ B1 | exact HC.out _ BN)
    ((refine step_append_lies _ (by rfl) (.tmp 11) (.tmp 33) 37 (by rfl) w.heap.size 94 i0 (.agg #[.string ⟨#[]⟩, .string ⟨#[]⟩, .int .i64 0, .int .i64 0]) 4 48 Tryz.underlying37 hi hz0 hz1 hz2 rfl (by decide) _ k (rcells (rs.take k)) (by rfl) OWN.out ⟨wr.heap.size, 0, none⟩ 1 1 [.string s, .string t, .int .i64 x, .int .i64 y] (by rfl) rfl C1.out (one4 s t x y) (by omega) C3.out (by omega) C5.out (wr.heap.size + 1) C6.out ?_; intro g' cap w3 hown hgr hat hlt3; have BN := B1.grown hgr C5.out (row_base OWN.out); have HO1 := Lib.hid hown; clear hown hgr hat))
   go_wp2
   go_roundw
   case rel => exact ⟨k + 1, by omega, by go_num, by rw [HT.out, rcells_snoc]; exact HO1.out, BN⟩
   case measure => simp [intOf]; omega
  ·obtain rfl : n = k := by omega
   rw [List.take_of_length_le (by have := Hn.out; omega)] at hown
   obtain ⟨A', c', hv, hrow⟩ := row_of_owns hown
   rw [hv]
   have HRow := Lib.hid hrow
   clear hv hown hrow
   go_wp2
   go_ret
   exact ⟨A', c', rfl, ⟨HRow.out, Hn.out, hs, H.out.size⟩, hb⟩
end Go.Proofs.YthjfdfdgbpbanaaGreatDoor
