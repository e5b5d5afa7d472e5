/- Arguments: a slice of integers, opened; the table of kinds from the row's list; what a row's end wants. The reference's both. -/
import Derived.Test.YthjfdfdgbpbanaaGreatDoorV1
import Derived.Test.YthjfdfdgbpbanaaGreatDoorV11
import Derived.Test.YthjfdfdgbpbanaaGreatDoorV14
import Derived.Test.YthjfdfdgbpbanaaGreatDoorCards
import Derived.Test.YthjfdfdgbpbanaaGreatDoorTie
import Derived.WalkKit
import Derived.ProofKit
import Derived.OpenShut
import Derived.Deep.DeepHandedRow
import Derived.Lib.LaidTab
set_option linter.unusedVariables false
set_option linter.unusedSimpArgs false
open Go.RowKit
namespace Go.Proofs.YthjfdfdgbpbanaaGreatDoor
section
open Go.ChangeAt Go.ChangeShapes Go.WideShapes
theorem ownOff : ownKnob Tryz.prog.godebug = none := by kernel_rfl
theorem laidOutAll : laidOutB Tryz.prog = true := by kernel_rfl
theorem gKinds : Tryz.prog.globalNamed "worldmint/lexer.kinds" = some 0 := by kernel_rfl
theorem cellsInt : Tryz.prog.cellsOf 3 = 1 := by kernel_rfl
theorem hrec22 : Tryz.prog.readableRec 22 = true := by kernel_rfl
theorem hlt22 : 22 < Tryz.prog.types.size := of_decide_eq_true (by kernel_rfl)
theorem ints_opened {H : Type} {enc : TypeId × Value → H} {W : World} {A : Option Addr} {n c : Nat} {d : DataW H} {p : List MemPlace} (h : DataW.Trod enc Tryz.prog W 0 (fun _ => true) true 22 (.slice A n c) d p) : ∃ zs, IntsV W A n zs := by
 obtain ⟨fuel, hf⟩ := h
 rcases open_ints Tryz.underlying22 Tryz.underlying3 cellsInt hf with ⟨hcs, hx⟩ | ⟨a, len, cap, zs, hcs, _, hl, hm, hz, hx, hcell, hwz⟩
 ·change [Value.slice A n c] = _ at hcs
  obtain ⟨rfl, rfl, rfl⟩ : A = none ∧ n = 0 ∧ c = 0 := by simpa using hcs
  exact ⟨[], .inl rfl, rfl, fun z hz => by cases hz⟩
 ·change [Value.slice A n c] = _ at hcs
  obtain ⟨rfl, rfl, rfl⟩ : A = some a ∧ n = len ∧ c = cap := by simpa using hcs
  rw [if_pos rfl] at hz
  refine ⟨zs.take n, ?_, by simp; omega, fun z hz' => ?_⟩
  ·by_cases h0 : n = 0
   ·left; simp [ints, h0]
   ·right
    have hc0 := hcell 0 (by omega)
    have ha : a.add 0 = a := by simp [Addr.add]
    rw [ha] at hc0
    obtain ⟨b, off, sp⟩ := a
    cases sp with
    | some s => simp [World.cell?] at hc0; split at hc0 <;> simp at hc0
    | none =>
      have hb : b < W.heap.size := by
       rcases Nat.lt_or_ge b W.heap.size with h | h
       ·exact h
       ·simp [World.cell?, Array.getElem?_eq_none h] at hc0
      refine ⟨b, off, rfl, hb, fun j u hu => ?_⟩
      have hj : j < n ∧ j < zs.length := by
       have := (List.getElem?_eq_some_iff.1 hu).1
       simp [ints] at this; omega
      have hcj := hcell j hj.2
      have e1 : (⟨b, off, none⟩ : Addr).add j = ⟨b, off + j, none⟩ := by
       unfold Addr.add; split
       ·subst_vars; rfl
       ·rfl
      rw [e1] at hcj
      rw [hcj, ← hu]
      simp [ints, hj.1, hj.2]
  ·have := hwz z (List.mem_of_mem_take hz')
   have := bounds_i64 this
   omega
theorem kindsType : (Tryz.prog.globals[0]?).map (·.type) = some 245 := by kernel_rfl
theorem kindsU : Tryz.prog.underlying 245 = some (.array 128 5) := by kernel_rfl
theorem u8U : Tryz.prog.underlying 5 = some (.int .u8) := by kernel_rfl
theorem u8C : Tryz.prog.cellsOf 5 = 1 := by kernel_rfl
theorem kindsC : Tryz.prog.cellsOf 245 = 128 := by kernel_rfl
set_option maxRecDepth 100000 in
theorem table_of {W : World} (h : laidMetH Tryz.prog [("worldmint/lexer.kinds", Rows.laid_worldmint_lexer_kinds)] W) : Tab W := by
 have ht : Lib.TabIs Tryz.prog W "worldmint/lexer.kinds" .u8 kindL := Lib.tabIs_of_head (rest := []) gKinds kindsType kindsU u8U u8C kindsC h
 have hc : ∀ i, i < 128 → W.cell? ⟨0, i, none⟩ = some (.int .u8 (kindOf i)) := fun i hi => by
  have := ht.cell gKinds i hi
  simpa [kindOf] using this
 refine ⟨?_, hc⟩
 have := hc 0 (by omega)
 rcases Nat.lt_or_ge 0 W.heap.size with h | h
 ·exact h
 ·simp [World.cell?, Array.getElem?_eq_none h] at this
/-- A world for the witness: the settled one, the table holding what its initialiser lays. -/
noncomputable def laidWorld (os : Os) : World :=
 { World.holding Tryz.prog os ⟨#[], #[], []⟩ with heap := (World.holding Tryz.prog os ⟨#[], #[], []⟩).heap.modify 0 fun
  | .cells _ t frozen => .cells (kindL.map (Value.int .u8)).toArray t frozen
  | o => o }
end
set_option maxRecDepth 100000 in
set_option maxHeartbeats 1000000 in
theorem rboth_cat {w : World} {m m' : CatM} (h : m.Ok w) (h' : m'.Ok w) : Calls Tryz.prog 46 #[m.val, m'.val] w fun e w' => e = .returned (.int .i64 (codeBoth m m')) ∧ Below w.heap.size w w' := by
 have HV : Hid (codeBoth m m' = if codeC m ≠ 0 then codeC m else codeC m') := rfl
 generalize codeBoth m m' = R at *
 have L0 : catSL m.si m.sr m.st m.sx = catSL m.si m.sr m.st m.sx := rfl
 have hb0 : Below w.heap.size w ((w.alloc (catSO m.si m.sr m.st m.sx)).alloc (catSO m'.si m'.sr m'.st m'.sx)) := ((Below.refl _ _).alloc (Nat.le_refl _) _).alloc (by simp) _
 have K0 := Lib.hid (rvalid_cat (h.below hb0))
 have H' := Lib.hid h'
 have HC : Hid (∃ q, codeC m = q) := ⟨_, rfl⟩
 generalize codeC m = q at *
 clear h h' HC L0
 go_enter Tryz.func46, Tryz.ntmps46
 go_wp2_with fail
 (with_reducible refine K0.out.mono ?_)
 rintro e w1 ⟨rfl, hb1⟩
 have kx := Bk.new (w.alloc (catSO m.si m.sr m.st m.sx)) 28 (catSL m'.si m'.sr m'.st m'.sx)
 rw [World.size_alloc] at kx
 have k1 : Bk w1 (w.heap.size + 1) 28 (catSL m'.si m'.sr m'.st m'.sx) := kx.below hb1 (by simp)
 have G1 : Below w.heap.size w w1 := hb0.trans (hb1.mono (by simp; omega))
 have s0 : w1.cell? ⟨w.heap.size + 1, 0, none⟩ = some (.slice m'.si.A m'.si.n m'.si.c) := k1.cell 0
 have s1 : w1.cell? ⟨w.heap.size + 1, 1, none⟩ = some (.slice m'.sr.A m'.sr.n m'.sr.c) := k1.cell 1
 have s2 : w1.cell? ⟨w.heap.size + 1, 2, none⟩ = some (.slice m'.st.A m'.st.n m'.st.c) := k1.cell 2
 have s3 : w1.cell? ⟨w.heap.size + 1, 3, none⟩ = some (.slice m'.sx.A m'.sx.n m'.sx.c) := k1.cell 3
 clear kx hb1 hb0 K0
 by_cases hq : q = 0
 ·subst hq
  go_wp2_with fail
  (with_reducible refine (rvalid_cat (H'.out.below G1)).mono ?_)
  rintro e w2 ⟨rfl, hb2⟩
  go_wp2
  go_ret
  exact ⟨by rw [HV.out]; rfl, G1.trans (hb2.mono G1.size)⟩
 ·have e1 : (q != 0) = true := by simpa using hq
  have HQ : Hid (R = q) := by show R = q; rw [HV.out, if_pos hq]
  clear hq HV
  go_wp2
  go_ret
  exact ⟨by rw [HQ.out]; rfl, G1⟩
end Go.Proofs.YthjfdfdgbpbanaaGreatDoor
