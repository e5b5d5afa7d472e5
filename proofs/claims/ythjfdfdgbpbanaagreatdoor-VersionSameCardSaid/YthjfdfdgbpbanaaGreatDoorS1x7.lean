/- catalog.wellFormed on any catalog. catalog.inRange and Valid on any catalog. -/
import Derived.Test.YthjfdfdgbpbanaaGreatDoorS1x6
set_option linter.unusedVariables false
set_option linter.unusedSimpArgs false
open Go.RowKit
namespace Go.Proofs.YthjfdfdgbpbanaaGreatDoor
/-- A rule's form, for n items. -/
def wfR (n : Nat) (r : RuM) : Bool := sortB n r.take && sortB n r.give && sortB n r.back && ruFormed r && contB r.take r.back
def wfT (n : Nat) (t : TbM) : Bool := decide (0 < t.rows.length) && (t.rows.all fun r => sortB n r.give)
def wfX (t : TxM) : Bool := formedB t.brs
def wfC (m : CatM) : Bool := m.items.all itFormedB && m.rules.all (wfR m.items.length) && m.tables.all (wfT m.items.length) && m.taxes.all wfX
/-- The function 'sorted' in its box gs, over the items at gc. -/
structure SortedAt (w : World) (gs : Nat) (ni : Nat) : Prop where
 ex : ∃ gc Ai ci, gs < w.heap.size ∧ gc < w.heap.size ∧ w.cell? ⟨gs, 0, none⟩ = some (.func (.func 138) #[] #[.pointer (some ⟨gc, 0, none⟩)]) ∧ w.cell? ⟨gc, 0, none⟩ = some (.slice Ai ni ci)
theorem SortedAt.below {w w' : World} {gs ni : Nat} (h : SortedAt w gs ni) (hb : Below w.heap.size w w') : SortedAt w' gs ni := by
 obtain ⟨gc, Ai, ci, h1, h2, h3, h4⟩ := h.ex
 exact ⟨gc, Ai, ci, Nat.lt_of_lt_of_le h1 hb.size, Nat.lt_of_lt_of_le h2 hb.size, (hb.cell (p := ⟨gs, 0, none⟩) h1).trans h3, (hb.cell (p := ⟨gc, 0, none⟩) h2).trans h4⟩
theorem ent138 : ∀ (args : Array Value) (W : World), (callFunc 138 args).run Tryz.prog W = .ok (.enter 138 args) W := enter_of Tryz.func138 (by kernel_rfl) rfl
theorem ent140 : ∀ (args : Array Value) (W : World), (callFunc 140 args).run Tryz.prog W = .ok (.enter 140 args) W := enter_of Tryz.func140 (by kernel_rfl) rfl
theorem ent143 : ∀ (args : Array Value) (W : World), (callFunc 143 args).run Tryz.prog W = .ok (.enter 143 args) W := enter_of Tryz.func143 (by kernel_rfl) rfl
theorem ent145 : ∀ (args : Array Value) (W : World), (callFunc 145 args).run Tryz.prog W = .ok (.enter 145 args) W := enter_of Tryz.func145 (by kernel_rfl) rfl
theorem ent146 : ∀ (args : Array Value) (W : World), (callFunc 146 args).run Tryz.prog W = .ok (.enter 146 args) W := enter_of Tryz.func146 (by kernel_rfl) rfl
set_option maxRecDepth 100000 in
set_option maxHeartbeats 2000000 in
theorem wf_ru (t : RuM) (w : World) (h : t.Ok w) {gs ni : Nat} (hs : SortedAt w gs ni) : Calls Tryz.prog 140 #[t.val, .pointer (some ⟨gs, 0, none⟩)] w fun e w' => e = .returned (.bool (wfR ni t)) ∧ Below w.heap.size w w' := by
 obtain ⟨gc, Ai, ci, g1, g2, g3, g4⟩ := hs.ex
 obtain ⟨nm, sp, le, ti, ch, of_, tk, gv, bk, ⟨At, nt, ct⟩, ⟨Ag, ng, cg⟩, ⟨Ab, nb, cb⟩⟩ := t
 have X0 : Below w.heap.size w (w.alloc (.cells #[.string nm, .bool sp, .int .i64 le, .int .i64 ti, .int .i64 ch, .int .i64 of_, .slice At nt ct, .slice Ag ng cg, .slice Ab nb cb] 103)) := (Below.refl _ _).alloc (Nat.le_refl _) _
 have G0 := Below.refl (w.alloc (.cells #[.string nm, .bool sp, .int .i64 le, .int .i64 ti, .int .i64 ch, .int .i64 of_, .slice At nt ct, .slice Ag ng cg, .slice Ab nb cb] 103)).heap.size (w.alloc (.cells #[.string nm, .bool sp, .int .i64 le, .int .i64 ti, .int .i64 ch, .int .i64 of_, .slice At nt ct, .slice Ag ng cg, .slice Ab nb cb] 103))
 have K0 : Hid (∀ W, Below (w.alloc (.cells #[.string nm, .bool sp, .int .i64 le, .int .i64 ti, .int .i64 ch, .int .i64 of_, .slice At nt ct, .slice Ag ng cg, .slice Ab nb cb] 103)).heap.size (w.alloc (.cells #[.string nm, .bool sp, .int .i64 le, .int .i64 ti, .int .i64 ch, .int .i64 of_, .slice At nt ct, .slice Ag ng cg, .slice Ab nb cb] 103)) W → Calls Tryz.prog 138 #[.slice At nt ct, .pointer (some ⟨gc, 0, none⟩)] W fun e w' => e = .returned (.bool (sortB ni tk)) ∧ Below W.heap.size W w') := fun W hW => sorted_any (s := ⟨At, nt, ct⟩) ((h.take.below X0).below hW) (Nat.lt_of_lt_of_le (Nat.lt_of_lt_of_le g2 X0.size) hW.size) ((hW.cell (p := ⟨gc, 0, none⟩) (Nat.lt_of_lt_of_le g2 X0.size)).trans ((X0.cell (p := ⟨gc, 0, none⟩) g2).trans g4))
 have K1 : Hid (∀ W, Below (w.alloc (.cells #[.string nm, .bool sp, .int .i64 le, .int .i64 ti, .int .i64 ch, .int .i64 of_, .slice At nt ct, .slice Ag ng cg, .slice Ab nb cb] 103)).heap.size (w.alloc (.cells #[.string nm, .bool sp, .int .i64 le, .int .i64 ti, .int .i64 ch, .int .i64 of_, .slice At nt ct, .slice Ag ng cg, .slice Ab nb cb] 103)) W → Calls Tryz.prog 138 #[.slice Ag ng cg, .pointer (some ⟨gc, 0, none⟩)] W fun e w' => e = .returned (.bool (sortB ni gv)) ∧ Below W.heap.size W w') := fun W hW => sorted_any (s := ⟨Ag, ng, cg⟩) ((h.give.below X0).below hW) (Nat.lt_of_lt_of_le (Nat.lt_of_lt_of_le g2 X0.size) hW.size) ((hW.cell (p := ⟨gc, 0, none⟩) (Nat.lt_of_lt_of_le g2 X0.size)).trans ((X0.cell (p := ⟨gc, 0, none⟩) g2).trans g4))
 have K2 : Hid (∀ W, Below (w.alloc (.cells #[.string nm, .bool sp, .int .i64 le, .int .i64 ti, .int .i64 ch, .int .i64 of_, .slice At nt ct, .slice Ag ng cg, .slice Ab nb cb] 103)).heap.size (w.alloc (.cells #[.string nm, .bool sp, .int .i64 le, .int .i64 ti, .int .i64 ch, .int .i64 of_, .slice At nt ct, .slice Ag ng cg, .slice Ab nb cb] 103)) W → Calls Tryz.prog 138 #[.slice Ab nb cb, .pointer (some ⟨gc, 0, none⟩)] W fun e w' => e = .returned (.bool (sortB ni bk)) ∧ Below W.heap.size W w') := fun W hW => sorted_any (s := ⟨Ab, nb, cb⟩) ((h.back.below X0).below hW) (Nat.lt_of_lt_of_le (Nat.lt_of_lt_of_le g2 X0.size) hW.size) ((hW.cell (p := ⟨gc, 0, none⟩) (Nat.lt_of_lt_of_le g2 X0.size)).trans ((X0.cell (p := ⟨gc, 0, none⟩) g2).trans g4))
 have K3 : Hid (∀ W, Below (w.alloc (.cells #[.string nm, .bool sp, .int .i64 le, .int .i64 ti, .int .i64 ch, .int .i64 of_, .slice At nt ct, .slice Ag ng cg, .slice Ab nb cb] 103)).heap.size (w.alloc (.cells #[.string nm, .bool sp, .int .i64 le, .int .i64 ti, .int .i64 ch, .int .i64 of_, .slice At nt ct, .slice Ag ng cg, .slice Ab nb cb] 103)) W → Calls Tryz.prog 141 #[.agg #[.string nm, .bool sp, .int .i64 le, .int .i64 ti, .int .i64 ch, .int .i64 of_, .slice At nt ct, .slice Ag ng cg, .slice Ab nb cb]] W fun e w' => e = .returned (.bool (ruFormed ⟨nm, sp, le, ti, ch, of_, tk, gv, bk, ⟨At, nt, ct⟩, ⟨Ag, ng, cg⟩, ⟨Ab, nb, cb⟩⟩)) ∧ Below W.heap.size W w') := fun W hW => formed_ru ⟨nm, sp, le, ti, ch, of_, tk, gv, bk, ⟨At, nt, ct⟩, ⟨Ag, ng, cg⟩, ⟨Ab, nb, cb⟩⟩ W ((h.keep (.below X0)).keep (.below hW))
 have K4 : Hid (∀ W, Below (w.alloc (.cells #[.string nm, .bool sp, .int .i64 le, .int .i64 ti, .int .i64 ch, .int .i64 of_, .slice At nt ct, .slice Ag ng cg, .slice Ab nb cb] 103)).heap.size (w.alloc (.cells #[.string nm, .bool sp, .int .i64 le, .int .i64 ti, .int .i64 ch, .int .i64 of_, .slice At nt ct, .slice Ag ng cg, .slice Ab nb cb] 103)) W → Calls Tryz.prog 142 #[.slice At nt ct, .slice Ab nb cb] W fun e w' => e = .returned (.bool (contB tk bk)) ∧ Below W.heap.size W w') := fun W hW => contains_any (st := ⟨At, nt, ct⟩) (sb := ⟨Ab, nb, cb⟩) ((h.take.below X0).below hW) ((h.back.below X0).below hW)
 have C : Hid (∀ W, Below (w.alloc (.cells #[.string nm, .bool sp, .int .i64 le, .int .i64 ti, .int .i64 ch, .int .i64 of_, .slice At nt ct, .slice Ag ng cg, .slice Ab nb cb] 103)).heap.size (w.alloc (.cells #[.string nm, .bool sp, .int .i64 le, .int .i64 ti, .int .i64 ch, .int .i64 of_, .slice At nt ct, .slice Ag ng cg, .slice Ab nb cb] 103)) W → W.cell? ⟨gs, 0, none⟩ = some (.func (.func 138) #[] #[.pointer (some ⟨gc, 0, none⟩)])) := fun W hW => (hW.cell (p := ⟨gs, 0, none⟩) (Nat.lt_of_lt_of_le g1 X0.size)).trans ((X0.cell (p := ⟨gs, 0, none⟩) g1).trans g3)
 have B0 : Hid (∀ W, Below (w.alloc (.cells #[.string nm, .bool sp, .int .i64 le, .int .i64 ti, .int .i64 ch, .int .i64 of_, .slice At nt ct, .slice Ag ng cg, .slice Ab nb cb] 103)).heap.size (w.alloc (.cells #[.string nm, .bool sp, .int .i64 le, .int .i64 ti, .int .i64 ch, .int .i64 of_, .slice At nt ct, .slice Ag ng cg, .slice Ab nb cb] 103)) W → W.cell? ⟨w.heap.size, 0, none⟩ = some (.string nm)) := fun W hW => (hW.cell (p := ⟨w.heap.size, 0, none⟩) (by simp)).trans ((Bk.new w 103 [.string nm, .bool sp, .int .i64 le, .int .i64 ti, .int .i64 ch, .int .i64 of_, .slice At nt ct, .slice Ag ng cg, .slice Ab nb cb]).cell 0)
 have B1 : Hid (∀ W, Below (w.alloc (.cells #[.string nm, .bool sp, .int .i64 le, .int .i64 ti, .int .i64 ch, .int .i64 of_, .slice At nt ct, .slice Ag ng cg, .slice Ab nb cb] 103)).heap.size (w.alloc (.cells #[.string nm, .bool sp, .int .i64 le, .int .i64 ti, .int .i64 ch, .int .i64 of_, .slice At nt ct, .slice Ag ng cg, .slice Ab nb cb] 103)) W → W.cell? ⟨w.heap.size, 1, none⟩ = some (.bool sp)) := fun W hW => (hW.cell (p := ⟨w.heap.size, 1, none⟩) (by simp)).trans ((Bk.new w 103 [.string nm, .bool sp, .int .i64 le, .int .i64 ti, .int .i64 ch, .int .i64 of_, .slice At nt ct, .slice Ag ng cg, .slice Ab nb cb]).cell 1)
 have B2 : Hid (∀ W, Below (w.alloc (.cells #[.string nm, .bool sp, .int .i64 le, .int .i64 ti, .int .i64 ch, .int .i64 of_, .slice At nt ct, .slice Ag ng cg, .slice Ab nb cb] 103)).heap.size (w.alloc (.cells #[.string nm, .bool sp, .int .i64 le, .int .i64 ti, .int .i64 ch, .int .i64 of_, .slice At nt ct, .slice Ag ng cg, .slice Ab nb cb] 103)) W → W.cell? ⟨w.heap.size, 2, none⟩ = some (.int .i64 le)) := fun W hW => (hW.cell (p := ⟨w.heap.size, 2, none⟩) (by simp)).trans ((Bk.new w 103 [.string nm, .bool sp, .int .i64 le, .int .i64 ti, .int .i64 ch, .int .i64 of_, .slice At nt ct, .slice Ag ng cg, .slice Ab nb cb]).cell 2)
 have B3 : Hid (∀ W, Below (w.alloc (.cells #[.string nm, .bool sp, .int .i64 le, .int .i64 ti, .int .i64 ch, .int .i64 of_, .slice At nt ct, .slice Ag ng cg, .slice Ab nb cb] 103)).heap.size (w.alloc (.cells #[.string nm, .bool sp, .int .i64 le, .int .i64 ti, .int .i64 ch, .int .i64 of_, .slice At nt ct, .slice Ag ng cg, .slice Ab nb cb] 103)) W → W.cell? ⟨w.heap.size, 3, none⟩ = some (.int .i64 ti)) := fun W hW => (hW.cell (p := ⟨w.heap.size, 3, none⟩) (by simp)).trans ((Bk.new w 103 [.string nm, .bool sp, .int .i64 le, .int .i64 ti, .int .i64 ch, .int .i64 of_, .slice At nt ct, .slice Ag ng cg, .slice Ab nb cb]).cell 3)
 have B4 : Hid (∀ W, Below (w.alloc (.cells #[.string nm, .bool sp, .int .i64 le, .int .i64 ti, .int .i64 ch, .int .i64 of_, .slice At nt ct, .slice Ag ng cg, .slice Ab nb cb] 103)).heap.size (w.alloc (.cells #[.string nm, .bool sp, .int .i64 le, .int .i64 ti, .int .i64 ch, .int .i64 of_, .slice At nt ct, .slice Ag ng cg, .slice Ab nb cb] 103)) W → W.cell? ⟨w.heap.size, 4, none⟩ = some (.int .i64 ch)) := fun W hW => (hW.cell (p := ⟨w.heap.size, 4, none⟩) (by simp)).trans ((Bk.new w 103 [.string nm, .bool sp, .int .i64 le, .int .i64 ti, .int .i64 ch, .int .i64 of_, .slice At nt ct, .slice Ag ng cg, .slice Ab nb cb]).cell 4)
 have B5 : Hid (∀ W, Below (w.alloc (.cells #[.string nm, .bool sp, .int .i64 le, .int .i64 ti, .int .i64 ch, .int .i64 of_, .slice At nt ct, .slice Ag ng cg, .slice Ab nb cb] 103)).heap.size (w.alloc (.cells #[.string nm, .bool sp, .int .i64 le, .int .i64 ti, .int .i64 ch, .int .i64 of_, .slice At nt ct, .slice Ag ng cg, .slice Ab nb cb] 103)) W → W.cell? ⟨w.heap.size, 5, none⟩ = some (.int .i64 of_)) := fun W hW => (hW.cell (p := ⟨w.heap.size, 5, none⟩) (by simp)).trans ((Bk.new w 103 [.string nm, .bool sp, .int .i64 le, .int .i64 ti, .int .i64 ch, .int .i64 of_, .slice At nt ct, .slice Ag ng cg, .slice Ab nb cb]).cell 5)
 have B6 : Hid (∀ W, Below (w.alloc (.cells #[.string nm, .bool sp, .int .i64 le, .int .i64 ti, .int .i64 ch, .int .i64 of_, .slice At nt ct, .slice Ag ng cg, .slice Ab nb cb] 103)).heap.size (w.alloc (.cells #[.string nm, .bool sp, .int .i64 le, .int .i64 ti, .int .i64 ch, .int .i64 of_, .slice At nt ct, .slice Ag ng cg, .slice Ab nb cb] 103)) W → W.cell? ⟨w.heap.size, 6, none⟩ = some (.slice At nt ct)) := fun W hW => (hW.cell (p := ⟨w.heap.size, 6, none⟩) (by simp)).trans ((Bk.new w 103 [.string nm, .bool sp, .int .i64 le, .int .i64 ti, .int .i64 ch, .int .i64 of_, .slice At nt ct, .slice Ag ng cg, .slice Ab nb cb]).cell 6)
 have B7 : Hid (∀ W, Below (w.alloc (.cells #[.string nm, .bool sp, .int .i64 le, .int .i64 ti, .int .i64 ch, .int .i64 of_, .slice At nt ct, .slice Ag ng cg, .slice Ab nb cb] 103)).heap.size (w.alloc (.cells #[.string nm, .bool sp, .int .i64 le, .int .i64 ti, .int .i64 ch, .int .i64 of_, .slice At nt ct, .slice Ag ng cg, .slice Ab nb cb] 103)) W → W.cell? ⟨w.heap.size, 7, none⟩ = some (.slice Ag ng cg)) := fun W hW => (hW.cell (p := ⟨w.heap.size, 7, none⟩) (by simp)).trans ((Bk.new w 103 [.string nm, .bool sp, .int .i64 le, .int .i64 ti, .int .i64 ch, .int .i64 of_, .slice At nt ct, .slice Ag ng cg, .slice Ab nb cb]).cell 7)
 have B8 : Hid (∀ W, Below (w.alloc (.cells #[.string nm, .bool sp, .int .i64 le, .int .i64 ti, .int .i64 ch, .int .i64 of_, .slice At nt ct, .slice Ag ng cg, .slice Ab nb cb] 103)).heap.size (w.alloc (.cells #[.string nm, .bool sp, .int .i64 le, .int .i64 ti, .int .i64 ch, .int .i64 of_, .slice At nt ct, .slice Ag ng cg, .slice Ab nb cb] 103)) W → W.cell? ⟨w.heap.size, 8, none⟩ = some (.slice Ab nb cb)) := fun W hW => (hW.cell (p := ⟨w.heap.size, 8, none⟩) (by simp)).trans ((Bk.new w 103 [.string nm, .bool sp, .int .i64 le, .int .i64 ti, .int .i64 ch, .int .i64 of_, .slice At nt ct, .slice Ag ng cg, .slice Ab nb cb]).cell 8)
 have HV : Hid (wfR ni ⟨nm, sp, le, ti, ch, of_, tk, gv, bk, ⟨At, nt, ct⟩, ⟨Ag, ng, cg⟩, ⟨Ab, nb, cb⟩⟩ = (sortB ni tk && sortB ni gv && sortB ni bk && ruFormed ⟨nm, sp, le, ti, ch, of_, tk, gv, bk, ⟨At, nt, ct⟩, ⟨Ag, ng, cg⟩, ⟨Ab, nb, cb⟩⟩ && contB tk bk)) := rfl
 generalize wfR ni ⟨nm, sp, le, ti, ch, of_, tk, gv, bk, ⟨At, nt, ct⟩, ⟨Ag, ng, cg⟩, ⟨Ab, nb, cb⟩⟩ = R at *
 generalize ruFormed ⟨nm, sp, le, ti, ch, of_, tk, gv, bk, ⟨At, nt, ct⟩, ⟨Ag, ng, cg⟩, ⟨Ab, nb, cb⟩⟩ = q3 at *
 generalize sortB ni tk = q0 at *
 generalize sortB ni gv = q1 at *
 generalize sortB ni bk = q2 at *
 generalize contB tk bk = q4 at *
 have ce := ent138
 clear h
 go_enter Tryz.func140, Tryz.ntmps140
 go_wp2_with fail
 (with_reducible refine (K0.out _ G0).mono ?_)
 rintro e w1 ⟨rfl, hb1⟩
 have G1 := G0.trans (hb1.mono G0.size)
 have X1 := X0.trans (hb1.mono X0.size)
 have z1 := G1.size
 simp only [World.size_alloc] at z1
 have s1_0 := C.out _ G1
 have s1_1 := B0.out _ G1
 have s1_2 := B1.out _ G1
 have s1_3 := B2.out _ G1
 have s1_4 := B3.out _ G1
 have s1_5 := B4.out _ G1
 have s1_6 := B5.out _ G1
 have s1_7 := B6.out _ G1
 have s1_8 := B7.out _ G1
 have s1_9 := B8.out _ G1
 clear hb1
 cases q0
 ·go_wp2
  go_ret
  exact ⟨by rw [HV.out]; rfl, X1⟩
 ·skip
  go_wp2_with fail
  (with_reducible refine (K1.out _ G1).mono ?_)
  rintro e w2 ⟨rfl, hb2⟩
  have G2 := G1.trans (hb2.mono G1.size)
  have X2 := X1.trans (hb2.mono X1.size)
  have z2 := G2.size
  simp only [World.size_alloc] at z2
  clear s1_0
  have s2_0 := C.out _ G2
  clear s1_1
  have s2_1 := B0.out _ G2
  clear s1_2
  have s2_2 := B1.out _ G2
  clear s1_3
  have s2_3 := B2.out _ G2
  clear s1_4
  have s2_4 := B3.out _ G2
  clear s1_5
  have s2_5 := B4.out _ G2
  clear s1_6
  have s2_6 := B5.out _ G2
  clear s1_7
  have s2_7 := B6.out _ G2
  clear s1_8
  have s2_8 := B7.out _ G2
  clear s1_9
  have s2_9 := B8.out _ G2
  clear hb2
  cases q1
  ·go_wp2
   go_ret
   exact ⟨by rw [HV.out]; rfl, X2⟩
  ·skip
   go_wp2_with fail
   (with_reducible refine (K2.out _ G2).mono ?_)
   rintro e w3 ⟨rfl, hb3⟩
   have G3 := G2.trans (hb3.mono G2.size)
   have X3 := X2.trans (hb3.mono X2.size)
   have z3 := G3.size
   simp only [World.size_alloc] at z3
   clear s2_0
   have s3_0 := C.out _ G3
   clear s2_1
   have s3_1 := B0.out _ G3
   clear s2_2
   have s3_2 := B1.out _ G3
   clear s2_3
   have s3_3 := B2.out _ G3
   clear s2_4
   have s3_4 := B3.out _ G3
   clear s2_5
   have s3_5 := B4.out _ G3
   clear s2_6
   have s3_6 := B5.out _ G3
   clear s2_7
   have s3_7 := B6.out _ G3
   clear s2_8
   have s3_8 := B7.out _ G3
   clear s2_9
   have s3_9 := B8.out _ G3
   clear hb3
   cases q2
   ·go_wp2
    go_ret
    exact ⟨by rw [HV.out]; rfl, X3⟩
   ·skip
    go_wp2_with fail
    (with_reducible refine (K3.out _ G3).mono ?_)
    rintro e w4 ⟨rfl, hb4⟩
    have G4 := G3.trans (hb4.mono G3.size)
    have X4 := X3.trans (hb4.mono X3.size)
    have z4 := G4.size
    simp only [World.size_alloc] at z4
    clear s3_0
    have s4_0 := C.out _ G4
    clear s3_1
    have s4_1 := B0.out _ G4
    clear s3_2
    have s4_2 := B1.out _ G4
    clear s3_3
    have s4_3 := B2.out _ G4
    clear s3_4
    have s4_4 := B3.out _ G4
    clear s3_5
    have s4_5 := B4.out _ G4
    clear s3_6
    have s4_6 := B5.out _ G4
    clear s3_7
    have s4_7 := B6.out _ G4
    clear s3_8
    have s4_8 := B7.out _ G4
    clear s3_9
    have s4_9 := B8.out _ G4
    clear hb4
    cases q3
    ·go_wp2
     go_ret
     exact ⟨by rw [HV.out]; rfl, X4⟩
    ·skip
     go_wp2_with fail
     (with_reducible refine (K4.out _ G4).mono ?_)
     rintro e w5 ⟨rfl, hb5⟩
     have G5 := G4.trans (hb5.mono G4.size)
     have X5 := X4.trans (hb5.mono X4.size)
     have z5 := G5.size
     simp only [World.size_alloc] at z5
     clear s4_0
     have s5_0 := C.out _ G5
     clear s4_1
     have s5_1 := B0.out _ G5
     clear s4_2
     have s5_2 := B1.out _ G5
     clear s4_3
     have s5_3 := B2.out _ G5
     clear s4_4
     have s5_4 := B3.out _ G5
     clear s4_5
     have s5_5 := B4.out _ G5
     clear s4_6
     have s5_6 := B5.out _ G5
     clear s4_7
     have s5_7 := B6.out _ G5
     clear s4_8
     have s5_8 := B7.out _ G5
     clear s4_9
     have s5_9 := B8.out _ G5
     clear hb5
     cases q4
     ·go_wp2
      go_ret
      exact ⟨by rw [HV.out]; rfl, X5⟩
     ·go_wp2
      go_ret
      exact ⟨by rw [HV.out]; rfl, X5⟩
set_option maxHeartbeats 1000000 in
theorem wf_rw (t : RwM) (w : World) (h : t.Ok w) {gs ni : Nat} (hs : SortedAt w gs ni) : Calls Tryz.prog 145 #[t.val, .pointer (some ⟨gs, 0, none⟩)] w fun e w' => e = .returned (.bool (sortB ni t.give)) ∧ Below w.heap.size w w' := by
 obtain ⟨gc, Ai, ci, g1, g2, g3, g4⟩ := hs.ex
 obtain ⟨x, gv, ⟨Ag, ng, cg⟩⟩ := t
 have X0 : Below w.heap.size w (w.alloc (.cells #[.int .i64 x, .slice Ag ng cg] 109)) := (Below.refl _ _).alloc (Nat.le_refl _) _
 have hp : PrV w 136 ⟨Ag, ng, cg⟩ gv := h
 have K0 := Lib.hid (sorted_any (hp.below X0) (Nat.lt_of_lt_of_le g2 X0.size) ((X0.cell (p := ⟨gc, 0, none⟩) g2).trans g4))
 dsimp only at K0 ⊢
 generalize sortB ni gv = q at *
 have ce := ent138
 clear h hp
 go_enter Tryz.func145, Tryz.ntmps145
 go_wp2_with fail
 refine K0.out.mono ?_
 rintro e w1 ⟨rfl, hb1⟩
 go_wp2
 go_ret
 exact ⟨rfl, X0.trans (hb1.mono (by simp))⟩
theorem ev145 {w : World} {s : Sl} {l : List RwM} (h : RowsV w s l) {gs ni : Nat} (hs : SortedAt w gs ni) : Calls Tryz.prog 144 #[.slice s.A s.n s.c, .func (.func 145) #[] #[.pointer (some ⟨gs, 0, none⟩)]] w fun e w' => e = .returned (.bool (l.all fun r => sortB ni r.give)) ∧ Below w.heap.size w w' := by
 refine every_rw 145 #[.pointer (some ⟨gs, 0, none⟩)] ent145 (fun r => sortB ni r.give) h ?_
 intro t U ht hU
 exact wf_rw t U (PrV.below (h.each t ht) hU) (hs.below hU)
set_option maxHeartbeats 1000000 in
theorem wf_tb (t : TbM) (w : World) (h : t.Ok w) {gs ni : Nat} (hs : SortedAt w gs ni) : Calls Tryz.prog 143 #[t.val, .pointer (some ⟨gs, 0, none⟩)] w fun e w' => e = .returned (.bool (wfT ni t)) ∧ Below w.heap.size w w' := by
 have hl := h.rows.len
 have hsm := h.rows.small
 obtain ⟨nm, rows, ⟨A, n, c⟩⟩ := t
 dsimp only at hl hsm
 have X0 : Below w.heap.size w (w.alloc (.cells #[.string nm, .slice A n c] 107)) := (Below.refl _ _).alloc (Nat.le_refl _) _
 have HV : Hid (wfT ni ⟨nm, rows, ⟨A, n, c⟩⟩ = (decide (0 < n) && (rows.all fun r => sortB ni r.give))) := by show wfT ni _ = _; rw [hl]; rfl
 have K0 := Lib.hid (ev145 (h.rows.below X0) (hs.below X0))
 dsimp only at K0
 generalize wfT ni ⟨nm, rows, ⟨A, n, c⟩⟩ = R at *
 generalize (rows.all fun r => sortB ni r.give) = q at *
 clear h hl hs
 by_cases a : 0 < n
 ·have a1 : decide (0 < n) = true := decide_eq_true a
  have a2 : decide ((0 : Int) < (n : Int)) = true := decide_eq_true (by omega)
  rw [a1] at HV
  go_enter Tryz.func143, Tryz.ntmps143
  go_wp2_with fail
  refine K0.out.mono ?_
  rintro e w1 ⟨rfl, hb1⟩
  go_wp2
  go_ret
  exact ⟨by rw [HV.out]; rfl, X0.trans (hb1.mono (by simp))⟩
 ·have a1 : decide (0 < n) = false := decide_eq_false a
  have a2 : decide ((0 : Int) < (n : Int)) = false := decide_eq_false (by omega)
  rw [a1] at HV
  go_enter Tryz.func143, Tryz.ntmps143
  go_wp2
  go_ret
  exact ⟨by rw [HV.out]; rfl, X0⟩
theorem wf_tx (t : TxM) (w : World) (h : t.Ok w) : Calls Tryz.prog 146 #[t.val] w fun e w' => e = .returned (.bool (wfX t)) ∧ Below w.heap.size w w' :=
 tax_formed t.name t.sb.A t.sb.n t.sb.c t.brs w h.brs.row.row h.brs.len (by have := h.brs.small; omega)
theorem ev140 {w : World} {s : Sl} {l : List RuM} (h : RulesV w s l) {gs ni : Nat} (hs : SortedAt w gs ni) : Calls Tryz.prog 118 #[.slice s.A s.n s.c, .func (.func 140) #[] #[.pointer (some ⟨gs, 0, none⟩)]] w fun e w' => e = .returned (.bool (l.all (wfR ni))) ∧ Below w.heap.size w w' := by
 refine every_ru 140 #[.pointer (some ⟨gs, 0, none⟩)] ent140 (wfR ni) h ?_
 intro t U ht hU
 exact wf_ru t U ((h.each t ht).keep (.below hU)) (hs.below hU)
theorem ev143 {w : World} {s : Sl} {l : List TbM} (h : TablesV w s l) {gs ni : Nat} (hs : SortedAt w gs ni) : Calls Tryz.prog 120 #[.slice s.A s.n s.c, .func (.func 143) #[] #[.pointer (some ⟨gs, 0, none⟩)]] w fun e w' => e = .returned (.bool (l.all (wfT ni))) ∧ Below w.heap.size w w' := by
 refine every_tb 143 #[.pointer (some ⟨gs, 0, none⟩)] ent143 (wfT ni) h ?_
 intro t U ht hU
 exact wf_tb t U ⟨(h.each t ht).rows.below hU, (h.each t ht).name⟩ (hs.below hU)
theorem ev146 {w : World} {s : Sl} {l : List TxM} (h : TaxesV w s l) : Calls Tryz.prog 122 #[.slice s.A s.n s.c, .func (.func 146) #[] #[]] w fun e w' => e = .returned (.bool (l.all wfX)) ∧ Below w.heap.size w w' := by
 refine every_tx 146 #[] ent146 wfX h ?_
 intro t U ht hU
 rw [app_nil]
 exact wf_tx t U ⟨(h.each t ht).brs.below hU, (h.each t ht).name⟩
set_option maxRecDepth 100000 in
set_option maxHeartbeats 2000000 in
theorem wfC_any {w : World} {m : CatM} (h : m.Ok w) : Calls Tryz.prog 103 #[m.val] w fun e w' => e = .returned (.bool (wfC m)) ∧ Below w.heap.size w w' := by
 have hl := h.items.len
 obtain ⟨items, rules, tables, taxes, ⟨Ai, ni, ci⟩, ⟨Ar, nr, cr⟩, ⟨At, nt, ct⟩, ⟨Ax, nx, cx⟩⟩ := m
 dsimp only at hl
 have X0 : Below w.heap.size w ((w.alloc (.cells #[.slice Ai ni ci, .slice Ar nr cr, .slice At nt ct, .slice Ax nx cx] 28)).alloc (.cells #[.func (.func 138) #[] #[.pointer (some ⟨w.heap.size, 0, none⟩)]] 197)) := ((Below.refl _ _).alloc (Nat.le_refl _) _).alloc (by simp) _
 have G0 := Below.refl ((w.alloc (.cells #[.slice Ai ni ci, .slice Ar nr cr, .slice At nt ct, .slice Ax nx cx] 28)).alloc (.cells #[.func (.func 138) #[] #[.pointer (some ⟨w.heap.size, 0, none⟩)]] 197)).heap.size ((w.alloc (.cells #[.slice Ai ni ci, .slice Ar nr cr, .slice At nt ct, .slice Ax nx cx] 28)).alloc (.cells #[.func (.func 138) #[] #[.pointer (some ⟨w.heap.size, 0, none⟩)]] 197))
 have HS : SortedAt ((w.alloc (.cells #[.slice Ai ni ci, .slice Ar nr cr, .slice At nt ct, .slice Ax nx cx] 28)).alloc (.cells #[.func (.func 138) #[] #[.pointer (some ⟨w.heap.size, 0, none⟩)]] 197)) (w.heap.size + 1) ni := by
  refine ⟨w.heap.size, Ai, ci, by simp, by simp; omega, ?_, ((Bk.new w 28 [.slice Ai ni ci, .slice Ar nr cr, .slice At nt ct, .slice Ax nx cx]).alloc _).cell 0⟩
  have := (Bk.new (w.alloc (.cells #[.slice Ai ni ci, .slice Ar nr cr, .slice At nt ct, .slice Ax nx cx] 28)) 197 [.func (.func 138) #[] #[.pointer (some ⟨w.heap.size, 0, none⟩)]]).cell 0
  rw [World.size_alloc] at this
  exact this
 have K0 : Hid (∀ W, Below ((w.alloc (.cells #[.slice Ai ni ci, .slice Ar nr cr, .slice At nt ct, .slice Ax nx cx] 28)).alloc (.cells #[.func (.func 138) #[] #[.pointer (some ⟨w.heap.size, 0, none⟩)]] 197)).heap.size ((w.alloc (.cells #[.slice Ai ni ci, .slice Ar nr cr, .slice At nt ct, .slice Ax nx cx] 28)).alloc (.cells #[.func (.func 138) #[] #[.pointer (some ⟨w.heap.size, 0, none⟩)]] 197)) W → Calls Tryz.prog 124 #[.slice Ai ni ci, .func (.func 139) #[] #[]] W fun e w' => e = .returned (.bool (items.all itFormedB)) ∧ Below W.heap.size W w') := fun W hW => ev139 (s := ⟨Ai, ni, ci⟩) ((h.items.below X0).below hW)
 have K1 : Hid (∀ W, Below ((w.alloc (.cells #[.slice Ai ni ci, .slice Ar nr cr, .slice At nt ct, .slice Ax nx cx] 28)).alloc (.cells #[.func (.func 138) #[] #[.pointer (some ⟨w.heap.size, 0, none⟩)]] 197)).heap.size ((w.alloc (.cells #[.slice Ai ni ci, .slice Ar nr cr, .slice At nt ct, .slice Ax nx cx] 28)).alloc (.cells #[.func (.func 138) #[] #[.pointer (some ⟨w.heap.size, 0, none⟩)]] 197)) W → Calls Tryz.prog 118 #[.slice Ar nr cr, .func (.func 140) #[] #[.pointer (some ⟨w.heap.size + 1, 0, none⟩)]] W fun e w' => e = .returned (.bool (rules.all (wfR ni))) ∧ Below W.heap.size W w') := fun W hW => ev140 (s := ⟨Ar, nr, cr⟩) ((h.rules.below X0).below hW) (HS.below hW)
 have K2 : Hid (∀ W, Below ((w.alloc (.cells #[.slice Ai ni ci, .slice Ar nr cr, .slice At nt ct, .slice Ax nx cx] 28)).alloc (.cells #[.func (.func 138) #[] #[.pointer (some ⟨w.heap.size, 0, none⟩)]] 197)).heap.size ((w.alloc (.cells #[.slice Ai ni ci, .slice Ar nr cr, .slice At nt ct, .slice Ax nx cx] 28)).alloc (.cells #[.func (.func 138) #[] #[.pointer (some ⟨w.heap.size, 0, none⟩)]] 197)) W → Calls Tryz.prog 120 #[.slice At nt ct, .func (.func 143) #[] #[.pointer (some ⟨w.heap.size + 1, 0, none⟩)]] W fun e w' => e = .returned (.bool (tables.all (wfT ni))) ∧ Below W.heap.size W w') := fun W hW => ev143 (s := ⟨At, nt, ct⟩) ((h.tables.below X0).below hW) (HS.below hW)
 have K3 : Hid (∀ W, Below ((w.alloc (.cells #[.slice Ai ni ci, .slice Ar nr cr, .slice At nt ct, .slice Ax nx cx] 28)).alloc (.cells #[.func (.func 138) #[] #[.pointer (some ⟨w.heap.size, 0, none⟩)]] 197)).heap.size ((w.alloc (.cells #[.slice Ai ni ci, .slice Ar nr cr, .slice At nt ct, .slice Ax nx cx] 28)).alloc (.cells #[.func (.func 138) #[] #[.pointer (some ⟨w.heap.size, 0, none⟩)]] 197)) W → Calls Tryz.prog 122 #[.slice Ax nx cx, .func (.func 146) #[] #[]] W fun e w' => e = .returned (.bool (taxes.all wfX)) ∧ Below W.heap.size W w') := fun W hW => ev146 (s := ⟨Ax, nx, cx⟩) ((h.taxes.below X0).below hW)
 have B0 : Hid (∀ W, Below ((w.alloc (.cells #[.slice Ai ni ci, .slice Ar nr cr, .slice At nt ct, .slice Ax nx cx] 28)).alloc (.cells #[.func (.func 138) #[] #[.pointer (some ⟨w.heap.size, 0, none⟩)]] 197)).heap.size ((w.alloc (.cells #[.slice Ai ni ci, .slice Ar nr cr, .slice At nt ct, .slice Ax nx cx] 28)).alloc (.cells #[.func (.func 138) #[] #[.pointer (some ⟨w.heap.size, 0, none⟩)]] 197)) W → W.cell? ⟨w.heap.size, 0, none⟩ = some (.slice Ai ni ci)) := fun W hW => (hW.cell (p := ⟨w.heap.size, 0, none⟩) (by simp; omega)).trans (((Bk.new w 28 [.slice Ai ni ci, .slice Ar nr cr, .slice At nt ct, .slice Ax nx cx]).alloc _).cell 0)
 have B1 : Hid (∀ W, Below ((w.alloc (.cells #[.slice Ai ni ci, .slice Ar nr cr, .slice At nt ct, .slice Ax nx cx] 28)).alloc (.cells #[.func (.func 138) #[] #[.pointer (some ⟨w.heap.size, 0, none⟩)]] 197)).heap.size ((w.alloc (.cells #[.slice Ai ni ci, .slice Ar nr cr, .slice At nt ct, .slice Ax nx cx] 28)).alloc (.cells #[.func (.func 138) #[] #[.pointer (some ⟨w.heap.size, 0, none⟩)]] 197)) W → W.cell? ⟨w.heap.size, 1, none⟩ = some (.slice Ar nr cr)) := fun W hW => (hW.cell (p := ⟨w.heap.size, 1, none⟩) (by simp; omega)).trans (((Bk.new w 28 [.slice Ai ni ci, .slice Ar nr cr, .slice At nt ct, .slice Ax nx cx]).alloc _).cell 1)
 have B2 : Hid (∀ W, Below ((w.alloc (.cells #[.slice Ai ni ci, .slice Ar nr cr, .slice At nt ct, .slice Ax nx cx] 28)).alloc (.cells #[.func (.func 138) #[] #[.pointer (some ⟨w.heap.size, 0, none⟩)]] 197)).heap.size ((w.alloc (.cells #[.slice Ai ni ci, .slice Ar nr cr, .slice At nt ct, .slice Ax nx cx] 28)).alloc (.cells #[.func (.func 138) #[] #[.pointer (some ⟨w.heap.size, 0, none⟩)]] 197)) W → W.cell? ⟨w.heap.size, 2, none⟩ = some (.slice At nt ct)) := fun W hW => (hW.cell (p := ⟨w.heap.size, 2, none⟩) (by simp; omega)).trans (((Bk.new w 28 [.slice Ai ni ci, .slice Ar nr cr, .slice At nt ct, .slice Ax nx cx]).alloc _).cell 2)
 have B3 : Hid (∀ W, Below ((w.alloc (.cells #[.slice Ai ni ci, .slice Ar nr cr, .slice At nt ct, .slice Ax nx cx] 28)).alloc (.cells #[.func (.func 138) #[] #[.pointer (some ⟨w.heap.size, 0, none⟩)]] 197)).heap.size ((w.alloc (.cells #[.slice Ai ni ci, .slice Ar nr cr, .slice At nt ct, .slice Ax nx cx] 28)).alloc (.cells #[.func (.func 138) #[] #[.pointer (some ⟨w.heap.size, 0, none⟩)]] 197)) W → W.cell? ⟨w.heap.size, 3, none⟩ = some (.slice Ax nx cx)) := fun W hW => (hW.cell (p := ⟨w.heap.size, 3, none⟩) (by simp; omega)).trans (((Bk.new w 28 [.slice Ai ni ci, .slice Ar nr cr, .slice At nt ct, .slice Ax nx cx]).alloc _).cell 3)
 have HV : Hid (wfC ⟨items, rules, tables, taxes, ⟨Ai, ni, ci⟩, ⟨Ar, nr, cr⟩, ⟨At, nt, ct⟩, ⟨Ax, nx, cx⟩⟩ = (items.all itFormedB && rules.all (wfR ni) && tables.all (wfT ni) && taxes.all wfX)) := by show wfC _ = _; rw [hl]; rfl
 generalize wfC ⟨items, rules, tables, taxes, ⟨Ai, ni, ci⟩, ⟨Ar, nr, cr⟩, ⟨At, nt, ct⟩, ⟨Ax, nx, cx⟩⟩ = R at *
 generalize items.all itFormedB = q0 at *
 generalize rules.all (wfR ni) = q1 at *
 generalize tables.all (wfT ni) = q2 at *
 generalize taxes.all wfX = q3 at *
 clear h HS hl
 go_enter Tryz.func103, Tryz.ntmps103
 go_wp2_with fail
 (with_reducible refine (K0.out _ G0).mono ?_)
 rintro e w1 ⟨rfl, hb1⟩
 have G1 := G0.trans (hb1.mono G0.size)
 have X1 := X0.trans (hb1.mono X0.size)
 have z1 := G1.size
 simp only [World.size_alloc] at z1
 have s1_0 := B0.out _ G1
 have s1_1 := B1.out _ G1
 have s1_2 := B2.out _ G1
 have s1_3 := B3.out _ G1
 clear hb1
 cases q0
 ·go_wp2
  go_ret
  exact ⟨by rw [HV.out]; rfl, X1⟩
 ·skip
  go_wp2_with fail
  (with_reducible refine (K1.out _ G1).mono ?_)
  rintro e w2 ⟨rfl, hb2⟩
  have G2 := G1.trans (hb2.mono G1.size)
  have X2 := X1.trans (hb2.mono X1.size)
  have z2 := G2.size
  simp only [World.size_alloc] at z2
  clear s1_0
  have s2_0 := B0.out _ G2
  clear s1_1
  have s2_1 := B1.out _ G2
  clear s1_2
  have s2_2 := B2.out _ G2
  clear s1_3
  have s2_3 := B3.out _ G2
  clear hb2
  cases q1
  ·go_wp2
   go_ret
   exact ⟨by rw [HV.out]; rfl, X2⟩
  ·skip
   go_wp2_with fail
   (with_reducible refine (K2.out _ G2).mono ?_)
   rintro e w3 ⟨rfl, hb3⟩
   have G3 := G2.trans (hb3.mono G2.size)
   have X3 := X2.trans (hb3.mono X2.size)
   have z3 := G3.size
   simp only [World.size_alloc] at z3
   clear s2_0
   have s3_0 := B0.out _ G3
   clear s2_1
   have s3_1 := B1.out _ G3
   clear s2_2
   have s3_2 := B2.out _ G3
   clear s2_3
   have s3_3 := B3.out _ G3
   clear hb3
   cases q2
   ·go_wp2
    go_ret
    exact ⟨by rw [HV.out]; rfl, X3⟩
   ·skip
    go_wp2_with fail
    (with_reducible refine (K3.out _ G3).mono ?_)
    rintro e w4 ⟨rfl, hb4⟩
    have G4 := G3.trans (hb4.mono G3.size)
    have X4 := X3.trans (hb4.mono X3.size)
    have z4 := G4.size
    simp only [World.size_alloc] at z4
    clear s3_0
    have s4_0 := B0.out _ G4
    clear s3_1
    have s4_1 := B1.out _ G4
    clear s3_2
    have s4_2 := B2.out _ G4
    clear s3_3
    have s4_3 := B3.out _ G4
    clear hb4
    cases q3
    ·go_wp2
     go_ret
     exact ⟨by rw [HV.out]; rfl, X4⟩
    ·go_wp2
     go_ret
     exact ⟨by rw [HV.out]; rfl, X4⟩
def rgR (r : RuM) : Bool := r.take.all unitP && r.give.all unitP && r.back.all unitP && ruRange r
def rgT (t : TbM) : Bool := t.rows.all wtP && (t.rows.all fun r => r.give.all unitP)
def rgX (t : TxM) : Bool := t.brs.all txP
def rgC (m : CatM) : Bool := m.items.all itRangeB && m.rules.all rgR && m.tables.all rgT && m.taxes.all rgX
/-- The function 'units' in its box gs. -/
def UnitsAt (w : World) (gs : Nat) : Prop := gs < w.heap.size ∧ w.cell? ⟨gs, 0, none⟩ = some (.func (.func 147) #[] #[])
theorem UnitsAt.below {w w' : World} {gs : Nat} (h : UnitsAt w gs) (hb : Below w.heap.size w w') : UnitsAt w' gs := ⟨Nat.lt_of_lt_of_le h.1 hb.size, (hb.cell (p := ⟨gs, 0, none⟩) h.1).trans h.2⟩
theorem ent147 : ∀ (args : Array Value) (W : World), (callFunc 147 args).run Tryz.prog W = .ok (.enter 147 args) W := enter_of Tryz.func147 (by kernel_rfl) rfl
theorem ent151 : ∀ (args : Array Value) (W : World), (callFunc 151 args).run Tryz.prog W = .ok (.enter 151 args) W := enter_of Tryz.func151 (by kernel_rfl) rfl
theorem ent153 : ∀ (args : Array Value) (W : World), (callFunc 153 args).run Tryz.prog W = .ok (.enter 153 args) W := enter_of Tryz.func153 (by kernel_rfl) rfl
theorem ent155 : ∀ (args : Array Value) (W : World), (callFunc 155 args).run Tryz.prog W = .ok (.enter 155 args) W := enter_of Tryz.func155 (by kernel_rfl) rfl
theorem ent156 : ∀ (args : Array Value) (W : World), (callFunc 156 args).run Tryz.prog W = .ok (.enter 156 args) W := enter_of Tryz.func156 (by kernel_rfl) rfl
set_option maxRecDepth 100000 in
set_option maxHeartbeats 2000000 in
theorem rg_ru (t : RuM) (w : World) (h : t.Ok w) {gs : Nat} (hs : UnitsAt w gs) : Calls Tryz.prog 151 #[t.val, .pointer (some ⟨gs, 0, none⟩)] w fun e w' => e = .returned (.bool (rgR t)) ∧ Below w.heap.size w w' := by
 have g1 := hs.1
 have g3 := hs.2
 obtain ⟨nm, sp, le, ti, ch, of_, tk, gv, bk, ⟨At, nt, ct⟩, ⟨Ag, ng, cg⟩, ⟨Ab, nb, cb⟩⟩ := t
 have X0 : Below w.heap.size w (w.alloc (.cells #[.string nm, .bool sp, .int .i64 le, .int .i64 ti, .int .i64 ch, .int .i64 of_, .slice At nt ct, .slice Ag ng cg, .slice Ab nb cb] 103)) := (Below.refl _ _).alloc (Nat.le_refl _) _
 have G0 := Below.refl (w.alloc (.cells #[.string nm, .bool sp, .int .i64 le, .int .i64 ti, .int .i64 ch, .int .i64 of_, .slice At nt ct, .slice Ag ng cg, .slice Ab nb cb] 103)).heap.size (w.alloc (.cells #[.string nm, .bool sp, .int .i64 le, .int .i64 ti, .int .i64 ch, .int .i64 of_, .slice At nt ct, .slice Ag ng cg, .slice Ab nb cb] 103))
 have K0 : Hid (∀ W, Below (w.alloc (.cells #[.string nm, .bool sp, .int .i64 le, .int .i64 ti, .int .i64 ch, .int .i64 of_, .slice At nt ct, .slice Ag ng cg, .slice Ab nb cb] 103)).heap.size (w.alloc (.cells #[.string nm, .bool sp, .int .i64 le, .int .i64 ti, .int .i64 ch, .int .i64 of_, .slice At nt ct, .slice Ag ng cg, .slice Ab nb cb] 103)) W → Calls Tryz.prog 147 #[.slice At nt ct] W fun e w' => e = .returned (.bool (tk.all unitP)) ∧ Below W.heap.size W w') := fun W hW => units_am (s := ⟨At, nt, ct⟩) ((h.take.below X0).below hW)
 have K1 : Hid (∀ W, Below (w.alloc (.cells #[.string nm, .bool sp, .int .i64 le, .int .i64 ti, .int .i64 ch, .int .i64 of_, .slice At nt ct, .slice Ag ng cg, .slice Ab nb cb] 103)).heap.size (w.alloc (.cells #[.string nm, .bool sp, .int .i64 le, .int .i64 ti, .int .i64 ch, .int .i64 of_, .slice At nt ct, .slice Ag ng cg, .slice Ab nb cb] 103)) W → Calls Tryz.prog 147 #[.slice Ag ng cg] W fun e w' => e = .returned (.bool (gv.all unitP)) ∧ Below W.heap.size W w') := fun W hW => units_am (s := ⟨Ag, ng, cg⟩) ((h.give.below X0).below hW)
 have K2 : Hid (∀ W, Below (w.alloc (.cells #[.string nm, .bool sp, .int .i64 le, .int .i64 ti, .int .i64 ch, .int .i64 of_, .slice At nt ct, .slice Ag ng cg, .slice Ab nb cb] 103)).heap.size (w.alloc (.cells #[.string nm, .bool sp, .int .i64 le, .int .i64 ti, .int .i64 ch, .int .i64 of_, .slice At nt ct, .slice Ag ng cg, .slice Ab nb cb] 103)) W → Calls Tryz.prog 147 #[.slice Ab nb cb] W fun e w' => e = .returned (.bool (bk.all unitP)) ∧ Below W.heap.size W w') := fun W hW => units_am (s := ⟨Ab, nb, cb⟩) ((h.back.below X0).below hW)
 have K3 : Hid (∀ W, Below (w.alloc (.cells #[.string nm, .bool sp, .int .i64 le, .int .i64 ti, .int .i64 ch, .int .i64 of_, .slice At nt ct, .slice Ag ng cg, .slice Ab nb cb] 103)).heap.size (w.alloc (.cells #[.string nm, .bool sp, .int .i64 le, .int .i64 ti, .int .i64 ch, .int .i64 of_, .slice At nt ct, .slice Ag ng cg, .slice Ab nb cb] 103)) W → Calls Tryz.prog 152 #[.agg #[.string nm, .bool sp, .int .i64 le, .int .i64 ti, .int .i64 ch, .int .i64 of_, .slice At nt ct, .slice Ag ng cg, .slice Ab nb cb]] W fun e w' => e = .returned (.bool (ruRange ⟨nm, sp, le, ti, ch, of_, tk, gv, bk, ⟨At, nt, ct⟩, ⟨Ag, ng, cg⟩, ⟨Ab, nb, cb⟩⟩)) ∧ Below W.heap.size W w') := fun W hW => range_ru ⟨nm, sp, le, ti, ch, of_, tk, gv, bk, ⟨At, nt, ct⟩, ⟨Ag, ng, cg⟩, ⟨Ab, nb, cb⟩⟩ W
 have C : Hid (∀ W, Below (w.alloc (.cells #[.string nm, .bool sp, .int .i64 le, .int .i64 ti, .int .i64 ch, .int .i64 of_, .slice At nt ct, .slice Ag ng cg, .slice Ab nb cb] 103)).heap.size (w.alloc (.cells #[.string nm, .bool sp, .int .i64 le, .int .i64 ti, .int .i64 ch, .int .i64 of_, .slice At nt ct, .slice Ag ng cg, .slice Ab nb cb] 103)) W → W.cell? ⟨gs, 0, none⟩ = some (.func (.func 147) #[] #[])) := fun W hW => ((hs.below X0).below hW).2
 have B0 : Hid (∀ W, Below (w.alloc (.cells #[.string nm, .bool sp, .int .i64 le, .int .i64 ti, .int .i64 ch, .int .i64 of_, .slice At nt ct, .slice Ag ng cg, .slice Ab nb cb] 103)).heap.size (w.alloc (.cells #[.string nm, .bool sp, .int .i64 le, .int .i64 ti, .int .i64 ch, .int .i64 of_, .slice At nt ct, .slice Ag ng cg, .slice Ab nb cb] 103)) W → W.cell? ⟨w.heap.size, 0, none⟩ = some (.string nm)) := fun W hW => (hW.cell (p := ⟨w.heap.size, 0, none⟩) (by simp)).trans ((Bk.new w 103 [.string nm, .bool sp, .int .i64 le, .int .i64 ti, .int .i64 ch, .int .i64 of_, .slice At nt ct, .slice Ag ng cg, .slice Ab nb cb]).cell 0)
 have B1 : Hid (∀ W, Below (w.alloc (.cells #[.string nm, .bool sp, .int .i64 le, .int .i64 ti, .int .i64 ch, .int .i64 of_, .slice At nt ct, .slice Ag ng cg, .slice Ab nb cb] 103)).heap.size (w.alloc (.cells #[.string nm, .bool sp, .int .i64 le, .int .i64 ti, .int .i64 ch, .int .i64 of_, .slice At nt ct, .slice Ag ng cg, .slice Ab nb cb] 103)) W → W.cell? ⟨w.heap.size, 1, none⟩ = some (.bool sp)) := fun W hW => (hW.cell (p := ⟨w.heap.size, 1, none⟩) (by simp)).trans ((Bk.new w 103 [.string nm, .bool sp, .int .i64 le, .int .i64 ti, .int .i64 ch, .int .i64 of_, .slice At nt ct, .slice Ag ng cg, .slice Ab nb cb]).cell 1)
 have B2 : Hid (∀ W, Below (w.alloc (.cells #[.string nm, .bool sp, .int .i64 le, .int .i64 ti, .int .i64 ch, .int .i64 of_, .slice At nt ct, .slice Ag ng cg, .slice Ab nb cb] 103)).heap.size (w.alloc (.cells #[.string nm, .bool sp, .int .i64 le, .int .i64 ti, .int .i64 ch, .int .i64 of_, .slice At nt ct, .slice Ag ng cg, .slice Ab nb cb] 103)) W → W.cell? ⟨w.heap.size, 2, none⟩ = some (.int .i64 le)) := fun W hW => (hW.cell (p := ⟨w.heap.size, 2, none⟩) (by simp)).trans ((Bk.new w 103 [.string nm, .bool sp, .int .i64 le, .int .i64 ti, .int .i64 ch, .int .i64 of_, .slice At nt ct, .slice Ag ng cg, .slice Ab nb cb]).cell 2)
 have B3 : Hid (∀ W, Below (w.alloc (.cells #[.string nm, .bool sp, .int .i64 le, .int .i64 ti, .int .i64 ch, .int .i64 of_, .slice At nt ct, .slice Ag ng cg, .slice Ab nb cb] 103)).heap.size (w.alloc (.cells #[.string nm, .bool sp, .int .i64 le, .int .i64 ti, .int .i64 ch, .int .i64 of_, .slice At nt ct, .slice Ag ng cg, .slice Ab nb cb] 103)) W → W.cell? ⟨w.heap.size, 3, none⟩ = some (.int .i64 ti)) := fun W hW => (hW.cell (p := ⟨w.heap.size, 3, none⟩) (by simp)).trans ((Bk.new w 103 [.string nm, .bool sp, .int .i64 le, .int .i64 ti, .int .i64 ch, .int .i64 of_, .slice At nt ct, .slice Ag ng cg, .slice Ab nb cb]).cell 3)
 have B4 : Hid (∀ W, Below (w.alloc (.cells #[.string nm, .bool sp, .int .i64 le, .int .i64 ti, .int .i64 ch, .int .i64 of_, .slice At nt ct, .slice Ag ng cg, .slice Ab nb cb] 103)).heap.size (w.alloc (.cells #[.string nm, .bool sp, .int .i64 le, .int .i64 ti, .int .i64 ch, .int .i64 of_, .slice At nt ct, .slice Ag ng cg, .slice Ab nb cb] 103)) W → W.cell? ⟨w.heap.size, 4, none⟩ = some (.int .i64 ch)) := fun W hW => (hW.cell (p := ⟨w.heap.size, 4, none⟩) (by simp)).trans ((Bk.new w 103 [.string nm, .bool sp, .int .i64 le, .int .i64 ti, .int .i64 ch, .int .i64 of_, .slice At nt ct, .slice Ag ng cg, .slice Ab nb cb]).cell 4)
 have B5 : Hid (∀ W, Below (w.alloc (.cells #[.string nm, .bool sp, .int .i64 le, .int .i64 ti, .int .i64 ch, .int .i64 of_, .slice At nt ct, .slice Ag ng cg, .slice Ab nb cb] 103)).heap.size (w.alloc (.cells #[.string nm, .bool sp, .int .i64 le, .int .i64 ti, .int .i64 ch, .int .i64 of_, .slice At nt ct, .slice Ag ng cg, .slice Ab nb cb] 103)) W → W.cell? ⟨w.heap.size, 5, none⟩ = some (.int .i64 of_)) := fun W hW => (hW.cell (p := ⟨w.heap.size, 5, none⟩) (by simp)).trans ((Bk.new w 103 [.string nm, .bool sp, .int .i64 le, .int .i64 ti, .int .i64 ch, .int .i64 of_, .slice At nt ct, .slice Ag ng cg, .slice Ab nb cb]).cell 5)
 have B6 : Hid (∀ W, Below (w.alloc (.cells #[.string nm, .bool sp, .int .i64 le, .int .i64 ti, .int .i64 ch, .int .i64 of_, .slice At nt ct, .slice Ag ng cg, .slice Ab nb cb] 103)).heap.size (w.alloc (.cells #[.string nm, .bool sp, .int .i64 le, .int .i64 ti, .int .i64 ch, .int .i64 of_, .slice At nt ct, .slice Ag ng cg, .slice Ab nb cb] 103)) W → W.cell? ⟨w.heap.size, 6, none⟩ = some (.slice At nt ct)) := fun W hW => (hW.cell (p := ⟨w.heap.size, 6, none⟩) (by simp)).trans ((Bk.new w 103 [.string nm, .bool sp, .int .i64 le, .int .i64 ti, .int .i64 ch, .int .i64 of_, .slice At nt ct, .slice Ag ng cg, .slice Ab nb cb]).cell 6)
 have B7 : Hid (∀ W, Below (w.alloc (.cells #[.string nm, .bool sp, .int .i64 le, .int .i64 ti, .int .i64 ch, .int .i64 of_, .slice At nt ct, .slice Ag ng cg, .slice Ab nb cb] 103)).heap.size (w.alloc (.cells #[.string nm, .bool sp, .int .i64 le, .int .i64 ti, .int .i64 ch, .int .i64 of_, .slice At nt ct, .slice Ag ng cg, .slice Ab nb cb] 103)) W → W.cell? ⟨w.heap.size, 7, none⟩ = some (.slice Ag ng cg)) := fun W hW => (hW.cell (p := ⟨w.heap.size, 7, none⟩) (by simp)).trans ((Bk.new w 103 [.string nm, .bool sp, .int .i64 le, .int .i64 ti, .int .i64 ch, .int .i64 of_, .slice At nt ct, .slice Ag ng cg, .slice Ab nb cb]).cell 7)
 have B8 : Hid (∀ W, Below (w.alloc (.cells #[.string nm, .bool sp, .int .i64 le, .int .i64 ti, .int .i64 ch, .int .i64 of_, .slice At nt ct, .slice Ag ng cg, .slice Ab nb cb] 103)).heap.size (w.alloc (.cells #[.string nm, .bool sp, .int .i64 le, .int .i64 ti, .int .i64 ch, .int .i64 of_, .slice At nt ct, .slice Ag ng cg, .slice Ab nb cb] 103)) W → W.cell? ⟨w.heap.size, 8, none⟩ = some (.slice Ab nb cb)) := fun W hW => (hW.cell (p := ⟨w.heap.size, 8, none⟩) (by simp)).trans ((Bk.new w 103 [.string nm, .bool sp, .int .i64 le, .int .i64 ti, .int .i64 ch, .int .i64 of_, .slice At nt ct, .slice Ag ng cg, .slice Ab nb cb]).cell 8)
 have HV : Hid (rgR ⟨nm, sp, le, ti, ch, of_, tk, gv, bk, ⟨At, nt, ct⟩, ⟨Ag, ng, cg⟩, ⟨Ab, nb, cb⟩⟩ = (tk.all unitP && gv.all unitP && bk.all unitP && ruRange ⟨nm, sp, le, ti, ch, of_, tk, gv, bk, ⟨At, nt, ct⟩, ⟨Ag, ng, cg⟩, ⟨Ab, nb, cb⟩⟩)) := rfl
 generalize rgR ⟨nm, sp, le, ti, ch, of_, tk, gv, bk, ⟨At, nt, ct⟩, ⟨Ag, ng, cg⟩, ⟨Ab, nb, cb⟩⟩ = R at *
 generalize ruRange ⟨nm, sp, le, ti, ch, of_, tk, gv, bk, ⟨At, nt, ct⟩, ⟨Ag, ng, cg⟩, ⟨Ab, nb, cb⟩⟩ = q3 at *
 generalize tk.all unitP = q0 at *
 generalize gv.all unitP = q1 at *
 generalize bk.all unitP = q2 at *
 have ce := ent147
 clear h hs
 go_enter Tryz.func151, Tryz.ntmps151
 go_wp2_with fail
 (with_reducible refine (K0.out _ G0).mono ?_)
 rintro e w1 ⟨rfl, hb1⟩
 have G1 := G0.trans (hb1.mono G0.size)
 have X1 := X0.trans (hb1.mono X0.size)
 have z1 := G1.size
 simp only [World.size_alloc] at z1
 have s1_0 := C.out _ G1
 have s1_1 := B0.out _ G1
 have s1_2 := B1.out _ G1
 have s1_3 := B2.out _ G1
 have s1_4 := B3.out _ G1
 have s1_5 := B4.out _ G1
 have s1_6 := B5.out _ G1
 have s1_7 := B6.out _ G1
 have s1_8 := B7.out _ G1
 have s1_9 := B8.out _ G1
 clear hb1
 cases q0
 ·go_wp2
  go_ret
  exact ⟨by rw [HV.out]; rfl, X1⟩
 ·skip
  go_wp2_with fail
  (with_reducible refine (K1.out _ G1).mono ?_)
  rintro e w2 ⟨rfl, hb2⟩
  have G2 := G1.trans (hb2.mono G1.size)
  have X2 := X1.trans (hb2.mono X1.size)
  have z2 := G2.size
  simp only [World.size_alloc] at z2
  clear s1_0
  have s2_0 := C.out _ G2
  clear s1_1
  have s2_1 := B0.out _ G2
  clear s1_2
  have s2_2 := B1.out _ G2
  clear s1_3
  have s2_3 := B2.out _ G2
  clear s1_4
  have s2_4 := B3.out _ G2
  clear s1_5
  have s2_5 := B4.out _ G2
  clear s1_6
  have s2_6 := B5.out _ G2
  clear s1_7
  have s2_7 := B6.out _ G2
  clear s1_8
  have s2_8 := B7.out _ G2
  clear s1_9
  have s2_9 := B8.out _ G2
  clear hb2
  cases q1
  ·go_wp2
   go_ret
   exact ⟨by rw [HV.out]; rfl, X2⟩
  ·skip
   go_wp2_with fail
   (with_reducible refine (K2.out _ G2).mono ?_)
   rintro e w3 ⟨rfl, hb3⟩
   have G3 := G2.trans (hb3.mono G2.size)
   have X3 := X2.trans (hb3.mono X2.size)
   have z3 := G3.size
   simp only [World.size_alloc] at z3
   clear s2_0
   have s3_0 := C.out _ G3
   clear s2_1
   have s3_1 := B0.out _ G3
   clear s2_2
   have s3_2 := B1.out _ G3
   clear s2_3
   have s3_3 := B2.out _ G3
   clear s2_4
   have s3_4 := B3.out _ G3
   clear s2_5
   have s3_5 := B4.out _ G3
   clear s2_6
   have s3_6 := B5.out _ G3
   clear s2_7
   have s3_7 := B6.out _ G3
   clear s2_8
   have s3_8 := B7.out _ G3
   clear s2_9
   have s3_9 := B8.out _ G3
   clear hb3
   cases q2
   ·go_wp2
    go_ret
    exact ⟨by rw [HV.out]; rfl, X3⟩
   ·skip
    go_wp2_with fail
    (with_reducible refine (K3.out _ G3).mono ?_)
    rintro e w4 ⟨rfl, hb4⟩
    have G4 := G3.trans (hb4.mono G3.size)
    have X4 := X3.trans (hb4.mono X3.size)
    have z4 := G4.size
    simp only [World.size_alloc] at z4
    clear s3_0
    have s4_0 := C.out _ G4
    clear s3_1
    have s4_1 := B0.out _ G4
    clear s3_2
    have s4_2 := B1.out _ G4
    clear s3_3
    have s4_3 := B2.out _ G4
    clear s3_4
    have s4_4 := B3.out _ G4
    clear s3_5
    have s4_5 := B4.out _ G4
    clear s3_6
    have s4_6 := B5.out _ G4
    clear s3_7
    have s4_7 := B6.out _ G4
    clear s3_8
    have s4_8 := B7.out _ G4
    clear s3_9
    have s4_9 := B8.out _ G4
    clear hb4
    cases q3
    ·go_wp2
     go_ret
     exact ⟨by rw [HV.out]; rfl, X4⟩
    ·go_wp2
     go_ret
     exact ⟨by rw [HV.out]; rfl, X4⟩
set_option maxHeartbeats 1000000 in
theorem rg_rw (t : RwM) (w : World) (h : t.Ok w) {gs : Nat} (hs : UnitsAt w gs) : Calls Tryz.prog 155 #[t.val, .pointer (some ⟨gs, 0, none⟩)] w fun e w' => e = .returned (.bool (t.give.all unitP)) ∧ Below w.heap.size w w' := by
 have g1 := hs.1
 have g3 := hs.2
 obtain ⟨x, gv, ⟨Ag, ng, cg⟩⟩ := t
 have X0 : Below w.heap.size w (w.alloc (.cells #[.int .i64 x, .slice Ag ng cg] 109)) := (Below.refl _ _).alloc (Nat.le_refl _) _
 have hp : PrV w 136 ⟨Ag, ng, cg⟩ gv := h
 have K0 := Lib.hid (units_am (hp.below X0))
 dsimp only at K0 ⊢
 generalize gv.all unitP = q at *
 have ce := ent147
 clear h hp hs
 go_enter Tryz.func155, Tryz.ntmps155
 go_wp2_with fail
 refine K0.out.mono ?_
 rintro e w1 ⟨rfl, hb1⟩
 go_wp2
 go_ret
 exact ⟨rfl, X0.trans (hb1.mono (by simp))⟩
theorem ev155 {w : World} {s : Sl} {l : List RwM} (h : RowsV w s l) {gs : Nat} (hs : UnitsAt w gs) : Calls Tryz.prog 144 #[.slice s.A s.n s.c, .func (.func 155) #[] #[.pointer (some ⟨gs, 0, none⟩)]] w fun e w' => e = .returned (.bool (l.all fun r => r.give.all unitP)) ∧ Below w.heap.size w w' := by
 refine every_rw 155 #[.pointer (some ⟨gs, 0, none⟩)] ent155 (fun r => r.give.all unitP) h ?_
 intro t U ht hU
 exact rg_rw t U (PrV.below (h.each t ht) hU) (hs.below hU)
set_option maxHeartbeats 1000000 in
theorem rg_tb (t : TbM) (w : World) (h : t.Ok w) {gs : Nat} (hs : UnitsAt w gs) : Calls Tryz.prog 153 #[t.val, .pointer (some ⟨gs, 0, none⟩)] w fun e w' => e = .returned (.bool (rgT t)) ∧ Below w.heap.size w w' := by
 obtain ⟨nm, rows, ⟨A, n, c⟩⟩ := t
 have X0 : Below w.heap.size w (w.alloc (.cells #[.string nm, .slice A n c] 107)) := (Below.refl _ _).alloc (Nat.le_refl _) _
 have G0 := Below.refl (w.alloc (.cells #[.string nm, .slice A n c] 107)).heap.size (w.alloc (.cells #[.string nm, .slice A n c] 107))
 have K0 : Hid (∀ W, Below (w.alloc (.cells #[.string nm, .slice A n c] 107)).heap.size (w.alloc (.cells #[.string nm, .slice A n c] 107)) W → Calls Tryz.prog 154 #[.agg #[.string nm, .slice A n c]] W fun e w' => e = .returned (.bool (rows.all wtP)) ∧ Below W.heap.size W w') := fun W hW => weights_tb ⟨nm, rows, ⟨A, n, c⟩⟩ W ⟨(h.rows.below X0).below hW, h.name⟩
 have K1 : Hid (∀ W, Below (w.alloc (.cells #[.string nm, .slice A n c] 107)).heap.size (w.alloc (.cells #[.string nm, .slice A n c] 107)) W → Calls Tryz.prog 144 #[.slice A n c, .func (.func 155) #[] #[.pointer (some ⟨gs, 0, none⟩)]] W fun e w' => e = .returned (.bool (rows.all fun r => r.give.all unitP)) ∧ Below W.heap.size W w') := fun W hW => ev155 (s := ⟨A, n, c⟩) ((h.rows.below X0).below hW) ((hs.below X0).below hW)
 have B0 : Hid (∀ W, Below (w.alloc (.cells #[.string nm, .slice A n c] 107)).heap.size (w.alloc (.cells #[.string nm, .slice A n c] 107)) W → W.cell? ⟨w.heap.size, 0, none⟩ = some (.string nm)) := fun W hW => (hW.cell (p := ⟨w.heap.size, 0, none⟩) (by simp)).trans ((Bk.new w 107 [.string nm, .slice A n c]).cell 0)
 have B1 : Hid (∀ W, Below (w.alloc (.cells #[.string nm, .slice A n c] 107)).heap.size (w.alloc (.cells #[.string nm, .slice A n c] 107)) W → W.cell? ⟨w.heap.size, 1, none⟩ = some (.slice A n c)) := fun W hW => (hW.cell (p := ⟨w.heap.size, 1, none⟩) (by simp)).trans ((Bk.new w 107 [.string nm, .slice A n c]).cell 1)
 have HV : Hid (rgT ⟨nm, rows, ⟨A, n, c⟩⟩ = (rows.all wtP && (rows.all fun r => r.give.all unitP))) := rfl
 generalize rgT ⟨nm, rows, ⟨A, n, c⟩⟩ = R at *
 generalize (rows.all fun r => r.give.all unitP) = q1 at *
 generalize rows.all wtP = q0 at *
 clear h hs
 go_enter Tryz.func153, Tryz.ntmps153
 go_wp2_with fail
 (with_reducible refine (K0.out _ G0).mono ?_)
 rintro e w1 ⟨rfl, hb1⟩
 have G1 := G0.trans (hb1.mono G0.size)
 have X1 := X0.trans (hb1.mono X0.size)
 have z1 := G1.size
 simp only [World.size_alloc] at z1
 have s1_0 := B0.out _ G1
 have s1_1 := B1.out _ G1
 clear hb1
 cases q0
 ·go_wp2
  go_ret
  exact ⟨by rw [HV.out]; rfl, X1⟩
 ·skip
  go_wp2_with fail
  (with_reducible refine (K1.out _ G1).mono ?_)
  rintro e w2 ⟨rfl, hb2⟩
  have G2 := G1.trans (hb2.mono G1.size)
  have X2 := X1.trans (hb2.mono X1.size)
  have z2 := G2.size
  simp only [World.size_alloc] at z2
  clear s1_0
  have s2_0 := B0.out _ G2
  clear s1_1
  have s2_1 := B1.out _ G2
  clear hb2
  cases q1
  ·go_wp2
   go_ret
   exact ⟨by rw [HV.out]; rfl, X2⟩
  ·go_wp2
   go_ret
   exact ⟨by rw [HV.out]; rfl, X2⟩
theorem ev151 {w : World} {s : Sl} {l : List RuM} (h : RulesV w s l) {gs : Nat} (hs : UnitsAt w gs) : Calls Tryz.prog 118 #[.slice s.A s.n s.c, .func (.func 151) #[] #[.pointer (some ⟨gs, 0, none⟩)]] w fun e w' => e = .returned (.bool (l.all rgR)) ∧ Below w.heap.size w w' := by
 refine every_ru 151 #[.pointer (some ⟨gs, 0, none⟩)] ent151 rgR h ?_
 intro t U ht hU
 exact rg_ru t U ((h.each t ht).keep (.below hU)) (hs.below hU)
theorem ev153 {w : World} {s : Sl} {l : List TbM} (h : TablesV w s l) {gs : Nat} (hs : UnitsAt w gs) : Calls Tryz.prog 120 #[.slice s.A s.n s.c, .func (.func 153) #[] #[.pointer (some ⟨gs, 0, none⟩)]] w fun e w' => e = .returned (.bool (l.all rgT)) ∧ Below w.heap.size w w' := by
 refine every_tb 153 #[.pointer (some ⟨gs, 0, none⟩)] ent153 rgT h ?_
 intro t U ht hU
 exact rg_tb t U ⟨(h.each t ht).rows.below hU, (h.each t ht).name⟩ (hs.below hU)
theorem ev156 {w : World} {s : Sl} {l : List TxM} (h : TaxesV w s l) : Calls Tryz.prog 122 #[.slice s.A s.n s.c, .func (.func 156) #[] #[]] w fun e w' => e = .returned (.bool (l.all rgX)) ∧ Below w.heap.size w w' := by
 refine every_tx 156 #[] ent156 rgX h ?_
 intro t U ht hU
 rw [app_nil]
 exact range_tx t U ⟨(h.each t ht).brs.below hU, (h.each t ht).name⟩
set_option maxRecDepth 100000 in
set_option maxHeartbeats 2000000 in
theorem rgC_any {w : World} {m : CatM} (h : m.Ok w) : Calls Tryz.prog 104 #[m.val] w fun e w' => e = .returned (.bool (rgC m)) ∧ Below w.heap.size w w' := by
 obtain ⟨items, rules, tables, taxes, ⟨Ai, ni, ci⟩, ⟨Ar, nr, cr⟩, ⟨At, nt, ct⟩, ⟨Ax, nx, cx⟩⟩ := m
 have X0 : Below w.heap.size w ((w.alloc (.cells #[.slice Ai ni ci, .slice Ar nr cr, .slice At nt ct, .slice Ax nx cx] 28)).alloc (.cells #[.func (.func 147) #[] #[]] 197)) := ((Below.refl _ _).alloc (Nat.le_refl _) _).alloc (by simp) _
 have G0 := Below.refl ((w.alloc (.cells #[.slice Ai ni ci, .slice Ar nr cr, .slice At nt ct, .slice Ax nx cx] 28)).alloc (.cells #[.func (.func 147) #[] #[]] 197)).heap.size ((w.alloc (.cells #[.slice Ai ni ci, .slice Ar nr cr, .slice At nt ct, .slice Ax nx cx] 28)).alloc (.cells #[.func (.func 147) #[] #[]] 197))
 have HS : UnitsAt ((w.alloc (.cells #[.slice Ai ni ci, .slice Ar nr cr, .slice At nt ct, .slice Ax nx cx] 28)).alloc (.cells #[.func (.func 147) #[] #[]] 197)) (w.heap.size + 1) := by
  have := (Bk.new (w.alloc (.cells #[.slice Ai ni ci, .slice Ar nr cr, .slice At nt ct, .slice Ax nx cx] 28)) 197 [.func (.func 147) #[] #[]]).cell 0
  rw [World.size_alloc] at this
  exact ⟨by simp, this⟩
 have K0 : Hid (∀ W, Below ((w.alloc (.cells #[.slice Ai ni ci, .slice Ar nr cr, .slice At nt ct, .slice Ax nx cx] 28)).alloc (.cells #[.func (.func 147) #[] #[]] 197)).heap.size ((w.alloc (.cells #[.slice Ai ni ci, .slice Ar nr cr, .slice At nt ct, .slice Ax nx cx] 28)).alloc (.cells #[.func (.func 147) #[] #[]] 197)) W → Calls Tryz.prog 124 #[.slice Ai ni ci, .func (.func 150) #[] #[]] W fun e w' => e = .returned (.bool (items.all itRangeB)) ∧ Below W.heap.size W w') := fun W hW => ev150 (s := ⟨Ai, ni, ci⟩) ((h.items.below X0).below hW)
 have K1 : Hid (∀ W, Below ((w.alloc (.cells #[.slice Ai ni ci, .slice Ar nr cr, .slice At nt ct, .slice Ax nx cx] 28)).alloc (.cells #[.func (.func 147) #[] #[]] 197)).heap.size ((w.alloc (.cells #[.slice Ai ni ci, .slice Ar nr cr, .slice At nt ct, .slice Ax nx cx] 28)).alloc (.cells #[.func (.func 147) #[] #[]] 197)) W → Calls Tryz.prog 118 #[.slice Ar nr cr, .func (.func 151) #[] #[.pointer (some ⟨w.heap.size + 1, 0, none⟩)]] W fun e w' => e = .returned (.bool (rules.all rgR)) ∧ Below W.heap.size W w') := fun W hW => ev151 (s := ⟨Ar, nr, cr⟩) ((h.rules.below X0).below hW) (HS.below hW)
 have K2 : Hid (∀ W, Below ((w.alloc (.cells #[.slice Ai ni ci, .slice Ar nr cr, .slice At nt ct, .slice Ax nx cx] 28)).alloc (.cells #[.func (.func 147) #[] #[]] 197)).heap.size ((w.alloc (.cells #[.slice Ai ni ci, .slice Ar nr cr, .slice At nt ct, .slice Ax nx cx] 28)).alloc (.cells #[.func (.func 147) #[] #[]] 197)) W → Calls Tryz.prog 120 #[.slice At nt ct, .func (.func 153) #[] #[.pointer (some ⟨w.heap.size + 1, 0, none⟩)]] W fun e w' => e = .returned (.bool (tables.all rgT)) ∧ Below W.heap.size W w') := fun W hW => ev153 (s := ⟨At, nt, ct⟩) ((h.tables.below X0).below hW) (HS.below hW)
 have K3 : Hid (∀ W, Below ((w.alloc (.cells #[.slice Ai ni ci, .slice Ar nr cr, .slice At nt ct, .slice Ax nx cx] 28)).alloc (.cells #[.func (.func 147) #[] #[]] 197)).heap.size ((w.alloc (.cells #[.slice Ai ni ci, .slice Ar nr cr, .slice At nt ct, .slice Ax nx cx] 28)).alloc (.cells #[.func (.func 147) #[] #[]] 197)) W → Calls Tryz.prog 122 #[.slice Ax nx cx, .func (.func 156) #[] #[]] W fun e w' => e = .returned (.bool (taxes.all rgX)) ∧ Below W.heap.size W w') := fun W hW => ev156 (s := ⟨Ax, nx, cx⟩) ((h.taxes.below X0).below hW)
 have B0 : Hid (∀ W, Below ((w.alloc (.cells #[.slice Ai ni ci, .slice Ar nr cr, .slice At nt ct, .slice Ax nx cx] 28)).alloc (.cells #[.func (.func 147) #[] #[]] 197)).heap.size ((w.alloc (.cells #[.slice Ai ni ci, .slice Ar nr cr, .slice At nt ct, .slice Ax nx cx] 28)).alloc (.cells #[.func (.func 147) #[] #[]] 197)) W → W.cell? ⟨w.heap.size, 0, none⟩ = some (.slice Ai ni ci)) := fun W hW => (hW.cell (p := ⟨w.heap.size, 0, none⟩) (by simp; omega)).trans (((Bk.new w 28 [.slice Ai ni ci, .slice Ar nr cr, .slice At nt ct, .slice Ax nx cx]).alloc _).cell 0)
 have B1 : Hid (∀ W, Below ((w.alloc (.cells #[.slice Ai ni ci, .slice Ar nr cr, .slice At nt ct, .slice Ax nx cx] 28)).alloc (.cells #[.func (.func 147) #[] #[]] 197)).heap.size ((w.alloc (.cells #[.slice Ai ni ci, .slice Ar nr cr, .slice At nt ct, .slice Ax nx cx] 28)).alloc (.cells #[.func (.func 147) #[] #[]] 197)) W → W.cell? ⟨w.heap.size, 1, none⟩ = some (.slice Ar nr cr)) := fun W hW => (hW.cell (p := ⟨w.heap.size, 1, none⟩) (by simp; omega)).trans (((Bk.new w 28 [.slice Ai ni ci, .slice Ar nr cr, .slice At nt ct, .slice Ax nx cx]).alloc _).cell 1)
 have B2 : Hid (∀ W, Below ((w.alloc (.cells #[.slice Ai ni ci, .slice Ar nr cr, .slice At nt ct, .slice Ax nx cx] 28)).alloc (.cells #[.func (.func 147) #[] #[]] 197)).heap.size ((w.alloc (.cells #[.slice Ai ni ci, .slice Ar nr cr, .slice At nt ct, .slice Ax nx cx] 28)).alloc (.cells #[.func (.func 147) #[] #[]] 197)) W → W.cell? ⟨w.heap.size, 2, none⟩ = some (.slice At nt ct)) := fun W hW => (hW.cell (p := ⟨w.heap.size, 2, none⟩) (by simp; omega)).trans (((Bk.new w 28 [.slice Ai ni ci, .slice Ar nr cr, .slice At nt ct, .slice Ax nx cx]).alloc _).cell 2)
 have B3 : Hid (∀ W, Below ((w.alloc (.cells #[.slice Ai ni ci, .slice Ar nr cr, .slice At nt ct, .slice Ax nx cx] 28)).alloc (.cells #[.func (.func 147) #[] #[]] 197)).heap.size ((w.alloc (.cells #[.slice Ai ni ci, .slice Ar nr cr, .slice At nt ct, .slice Ax nx cx] 28)).alloc (.cells #[.func (.func 147) #[] #[]] 197)) W → W.cell? ⟨w.heap.size, 3, none⟩ = some (.slice Ax nx cx)) := fun W hW => (hW.cell (p := ⟨w.heap.size, 3, none⟩) (by simp; omega)).trans (((Bk.new w 28 [.slice Ai ni ci, .slice Ar nr cr, .slice At nt ct, .slice Ax nx cx]).alloc _).cell 3)
 have HV : Hid (rgC ⟨items, rules, tables, taxes, ⟨Ai, ni, ci⟩, ⟨Ar, nr, cr⟩, ⟨At, nt, ct⟩, ⟨Ax, nx, cx⟩⟩ = (items.all itRangeB && rules.all rgR && tables.all rgT && taxes.all rgX)) := rfl
 generalize rgC ⟨items, rules, tables, taxes, ⟨Ai, ni, ci⟩, ⟨Ar, nr, cr⟩, ⟨At, nt, ct⟩, ⟨Ax, nx, cx⟩⟩ = R at *
 generalize items.all itRangeB = q0 at *
 generalize rules.all rgR = q1 at *
 generalize tables.all rgT = q2 at *
 generalize taxes.all rgX = q3 at *
 clear h HS
 go_enter Tryz.func104, Tryz.ntmps104
 go_wp2_with fail
 (with_reducible refine (K0.out _ G0).mono ?_)
 rintro e w1 ⟨rfl, hb1⟩
 have G1 := G0.trans (hb1.mono G0.size)
 have X1 := X0.trans (hb1.mono X0.size)
 have z1 := G1.size
 simp only [World.size_alloc] at z1
 have s1_0 := B0.out _ G1
 have s1_1 := B1.out _ G1
 have s1_2 := B2.out _ G1
 have s1_3 := B3.out _ G1
 clear hb1
 cases q0
 ·go_wp2
  go_ret
  exact ⟨by rw [HV.out]; rfl, X1⟩
 ·skip
  go_wp2_with fail
  (with_reducible refine (K1.out _ G1).mono ?_)
  rintro e w2 ⟨rfl, hb2⟩
  have G2 := G1.trans (hb2.mono G1.size)
  have X2 := X1.trans (hb2.mono X1.size)
  have z2 := G2.size
  simp only [World.size_alloc] at z2
  clear s1_0
  have s2_0 := B0.out _ G2
  clear s1_1
  have s2_1 := B1.out _ G2
  clear s1_2
  have s2_2 := B2.out _ G2
  clear s1_3
  have s2_3 := B3.out _ G2
  clear hb2
  cases q1
  ·go_wp2
   go_ret
   exact ⟨by rw [HV.out]; rfl, X2⟩
  ·skip
   go_wp2_with fail
   (with_reducible refine (K2.out _ G2).mono ?_)
   rintro e w3 ⟨rfl, hb3⟩
   have G3 := G2.trans (hb3.mono G2.size)
   have X3 := X2.trans (hb3.mono X2.size)
   have z3 := G3.size
   simp only [World.size_alloc] at z3
   clear s2_0
   have s3_0 := B0.out _ G3
   clear s2_1
   have s3_1 := B1.out _ G3
   clear s2_2
   have s3_2 := B2.out _ G3
   clear s2_3
   have s3_3 := B3.out _ G3
   clear hb3
   cases q2
   ·go_wp2
    go_ret
    exact ⟨by rw [HV.out]; rfl, X3⟩
   ·skip
    go_wp2_with fail
    (with_reducible refine (K3.out _ G3).mono ?_)
    rintro e w4 ⟨rfl, hb4⟩
    have G4 := G3.trans (hb4.mono G3.size)
    have X4 := X3.trans (hb4.mono X3.size)
    have z4 := G4.size
    simp only [World.size_alloc] at z4
    clear s3_0
    have s4_0 := B0.out _ G4
    clear s3_1
    have s4_1 := B1.out _ G4
    clear s3_2
    have s4_2 := B2.out _ G4
    clear s3_3
    have s4_3 := B3.out _ G4
    clear hb4
    cases q3
    ·go_wp2
     go_ret
     exact ⟨by rw [HV.out]; rfl, X4⟩
    ·go_wp2
     go_ret
     exact ⟨by rw [HV.out]; rfl, X4⟩
/-- The error of a catalog. -/
def codeOf (a b c d e : Bool) : Int := if a = false then 4 else if b = false then 6 else if c = false then 8 else if d = false then 1 else if e = false then 5 else 0
def codeC (m : CatM) : Int := codeOf (limC m) (fitB m) (diffC m) (wfC m) (rgC m)
set_option maxRecDepth 100000 in
set_option maxHeartbeats 2000000 in
theorem valid_cat {w : World} {m : CatM} (h : m.Ok w) (hT : Tab w) : Calls Tryz.prog 80 #[m.val] w fun e w' => e = .returned (.int .i64 (codeC m)) ∧ Below w.heap.size w w' := by
 obtain ⟨items, rules, tables, taxes, ⟨Ai, ni, ci⟩, ⟨Ar, nr, cr⟩, ⟨At, nt, ct⟩, ⟨Ax, nx, cx⟩⟩ := m
 have X0 : Below w.heap.size w (w.alloc (.cells #[.slice Ai ni ci, .slice Ar nr cr, .slice At nt ct, .slice Ax nx cx] 28)) := (Below.refl _ _).alloc (Nat.le_refl _) _
 have G0 := Below.refl (w.alloc (.cells #[.slice Ai ni ci, .slice Ar nr cr, .slice At nt ct, .slice Ax nx cx] 28)).heap.size (w.alloc (.cells #[.slice Ai ni ci, .slice Ar nr cr, .slice At nt ct, .slice Ax nx cx] 28))
 have K0 : Hid (∀ W, Below (w.alloc (.cells #[.slice Ai ni ci, .slice Ar nr cr, .slice At nt ct, .slice Ax nx cx] 28)).heap.size (w.alloc (.cells #[.slice Ai ni ci, .slice Ar nr cr, .slice At nt ct, .slice Ax nx cx] 28)) W → Calls Tryz.prog 100 #[.agg #[.slice Ai ni ci, .slice Ar nr cr, .slice At nt ct, .slice Ax nx cx]] W fun e w' => e = .returned (.bool (limC ⟨items, rules, tables, taxes, ⟨Ai, ni, ci⟩, ⟨Ar, nr, cr⟩, ⟨At, nt, ct⟩, ⟨Ax, nx, cx⟩⟩)) ∧ Below W.heap.size W w') := fun W hW => limC_any (m := ⟨items, rules, tables, taxes, ⟨Ai, ni, ci⟩, ⟨Ar, nr, cr⟩, ⟨At, nt, ct⟩, ⟨Ax, nx, cx⟩⟩) ((h.below X0).below hW)
 have K1 : Hid (∀ W, Below (w.alloc (.cells #[.slice Ai ni ci, .slice Ar nr cr, .slice At nt ct, .slice Ax nx cx] 28)).heap.size (w.alloc (.cells #[.slice Ai ni ci, .slice Ar nr cr, .slice At nt ct, .slice Ax nx cx] 28)) W → Calls Tryz.prog 101 #[.agg #[.slice Ai ni ci, .slice Ar nr cr, .slice At nt ct, .slice Ax nx cx]] W fun e w' => e = .returned (.bool (fitB ⟨items, rules, tables, taxes, ⟨Ai, ni, ci⟩, ⟨Ar, nr, cr⟩, ⟨At, nt, ct⟩, ⟨Ax, nx, cx⟩⟩)) ∧ Below W.heap.size W w') := fun W hW => fitC_any (m := ⟨items, rules, tables, taxes, ⟨Ai, ni, ci⟩, ⟨Ar, nr, cr⟩, ⟨At, nt, ct⟩, ⟨Ax, nx, cx⟩⟩) ((h.below X0).below hW) ((hT.below X0 hT.1).below hW (by simp))
 have K2 : Hid (∀ W, Below (w.alloc (.cells #[.slice Ai ni ci, .slice Ar nr cr, .slice At nt ct, .slice Ax nx cx] 28)).heap.size (w.alloc (.cells #[.slice Ai ni ci, .slice Ar nr cr, .slice At nt ct, .slice Ax nx cx] 28)) W → Calls Tryz.prog 102 #[.agg #[.slice Ai ni ci, .slice Ar nr cr, .slice At nt ct, .slice Ax nx cx]] W fun e w' => e = .returned (.bool (diffC ⟨items, rules, tables, taxes, ⟨Ai, ni, ci⟩, ⟨Ar, nr, cr⟩, ⟨At, nt, ct⟩, ⟨Ax, nx, cx⟩⟩)) ∧ Below W.heap.size W w') := fun W hW => diffC_any (m := ⟨items, rules, tables, taxes, ⟨Ai, ni, ci⟩, ⟨Ar, nr, cr⟩, ⟨At, nt, ct⟩, ⟨Ax, nx, cx⟩⟩) ((h.below X0).below hW)
 have K3 : Hid (∀ W, Below (w.alloc (.cells #[.slice Ai ni ci, .slice Ar nr cr, .slice At nt ct, .slice Ax nx cx] 28)).heap.size (w.alloc (.cells #[.slice Ai ni ci, .slice Ar nr cr, .slice At nt ct, .slice Ax nx cx] 28)) W → Calls Tryz.prog 103 #[.agg #[.slice Ai ni ci, .slice Ar nr cr, .slice At nt ct, .slice Ax nx cx]] W fun e w' => e = .returned (.bool (wfC ⟨items, rules, tables, taxes, ⟨Ai, ni, ci⟩, ⟨Ar, nr, cr⟩, ⟨At, nt, ct⟩, ⟨Ax, nx, cx⟩⟩)) ∧ Below W.heap.size W w') := fun W hW => wfC_any (m := ⟨items, rules, tables, taxes, ⟨Ai, ni, ci⟩, ⟨Ar, nr, cr⟩, ⟨At, nt, ct⟩, ⟨Ax, nx, cx⟩⟩) ((h.below X0).below hW)
 have K4 : Hid (∀ W, Below (w.alloc (.cells #[.slice Ai ni ci, .slice Ar nr cr, .slice At nt ct, .slice Ax nx cx] 28)).heap.size (w.alloc (.cells #[.slice Ai ni ci, .slice Ar nr cr, .slice At nt ct, .slice Ax nx cx] 28)) W → Calls Tryz.prog 104 #[.agg #[.slice Ai ni ci, .slice Ar nr cr, .slice At nt ct, .slice Ax nx cx]] W fun e w' => e = .returned (.bool (rgC ⟨items, rules, tables, taxes, ⟨Ai, ni, ci⟩, ⟨Ar, nr, cr⟩, ⟨At, nt, ct⟩, ⟨Ax, nx, cx⟩⟩)) ∧ Below W.heap.size W w') := fun W hW => rgC_any (m := ⟨items, rules, tables, taxes, ⟨Ai, ni, ci⟩, ⟨Ar, nr, cr⟩, ⟨At, nt, ct⟩, ⟨Ax, nx, cx⟩⟩) ((h.below X0).below hW)
 have B0 : Hid (∀ W, Below (w.alloc (.cells #[.slice Ai ni ci, .slice Ar nr cr, .slice At nt ct, .slice Ax nx cx] 28)).heap.size (w.alloc (.cells #[.slice Ai ni ci, .slice Ar nr cr, .slice At nt ct, .slice Ax nx cx] 28)) W → W.cell? ⟨w.heap.size, 0, none⟩ = some (.slice Ai ni ci)) := fun W hW => (hW.cell (p := ⟨w.heap.size, 0, none⟩) (by simp)).trans ((Bk.new w 28 [.slice Ai ni ci, .slice Ar nr cr, .slice At nt ct, .slice Ax nx cx]).cell 0)
 have B1 : Hid (∀ W, Below (w.alloc (.cells #[.slice Ai ni ci, .slice Ar nr cr, .slice At nt ct, .slice Ax nx cx] 28)).heap.size (w.alloc (.cells #[.slice Ai ni ci, .slice Ar nr cr, .slice At nt ct, .slice Ax nx cx] 28)) W → W.cell? ⟨w.heap.size, 1, none⟩ = some (.slice Ar nr cr)) := fun W hW => (hW.cell (p := ⟨w.heap.size, 1, none⟩) (by simp)).trans ((Bk.new w 28 [.slice Ai ni ci, .slice Ar nr cr, .slice At nt ct, .slice Ax nx cx]).cell 1)
 have B2 : Hid (∀ W, Below (w.alloc (.cells #[.slice Ai ni ci, .slice Ar nr cr, .slice At nt ct, .slice Ax nx cx] 28)).heap.size (w.alloc (.cells #[.slice Ai ni ci, .slice Ar nr cr, .slice At nt ct, .slice Ax nx cx] 28)) W → W.cell? ⟨w.heap.size, 2, none⟩ = some (.slice At nt ct)) := fun W hW => (hW.cell (p := ⟨w.heap.size, 2, none⟩) (by simp)).trans ((Bk.new w 28 [.slice Ai ni ci, .slice Ar nr cr, .slice At nt ct, .slice Ax nx cx]).cell 2)
 have B3 : Hid (∀ W, Below (w.alloc (.cells #[.slice Ai ni ci, .slice Ar nr cr, .slice At nt ct, .slice Ax nx cx] 28)).heap.size (w.alloc (.cells #[.slice Ai ni ci, .slice Ar nr cr, .slice At nt ct, .slice Ax nx cx] 28)) W → W.cell? ⟨w.heap.size, 3, none⟩ = some (.slice Ax nx cx)) := fun W hW => (hW.cell (p := ⟨w.heap.size, 3, none⟩) (by simp)).trans ((Bk.new w 28 [.slice Ai ni ci, .slice Ar nr cr, .slice At nt ct, .slice Ax nx cx]).cell 3)
 have HV : Hid (codeC ⟨items, rules, tables, taxes, ⟨Ai, ni, ci⟩, ⟨Ar, nr, cr⟩, ⟨At, nt, ct⟩, ⟨Ax, nx, cx⟩⟩ = codeOf (limC ⟨items, rules, tables, taxes, ⟨Ai, ni, ci⟩, ⟨Ar, nr, cr⟩, ⟨At, nt, ct⟩, ⟨Ax, nx, cx⟩⟩) (fitB ⟨items, rules, tables, taxes, ⟨Ai, ni, ci⟩, ⟨Ar, nr, cr⟩, ⟨At, nt, ct⟩, ⟨Ax, nx, cx⟩⟩) (diffC ⟨items, rules, tables, taxes, ⟨Ai, ni, ci⟩, ⟨Ar, nr, cr⟩, ⟨At, nt, ct⟩, ⟨Ax, nx, cx⟩⟩) (wfC ⟨items, rules, tables, taxes, ⟨Ai, ni, ci⟩, ⟨Ar, nr, cr⟩, ⟨At, nt, ct⟩, ⟨Ax, nx, cx⟩⟩) (rgC ⟨items, rules, tables, taxes, ⟨Ai, ni, ci⟩, ⟨Ar, nr, cr⟩, ⟨At, nt, ct⟩, ⟨Ax, nx, cx⟩⟩)) := rfl
 generalize codeC ⟨items, rules, tables, taxes, ⟨Ai, ni, ci⟩, ⟨Ar, nr, cr⟩, ⟨At, nt, ct⟩, ⟨Ax, nx, cx⟩⟩ = R at *
 generalize limC ⟨items, rules, tables, taxes, ⟨Ai, ni, ci⟩, ⟨Ar, nr, cr⟩, ⟨At, nt, ct⟩, ⟨Ax, nx, cx⟩⟩ = q0 at *
 generalize fitB ⟨items, rules, tables, taxes, ⟨Ai, ni, ci⟩, ⟨Ar, nr, cr⟩, ⟨At, nt, ct⟩, ⟨Ax, nx, cx⟩⟩ = q1 at *
 generalize diffC ⟨items, rules, tables, taxes, ⟨Ai, ni, ci⟩, ⟨Ar, nr, cr⟩, ⟨At, nt, ct⟩, ⟨Ax, nx, cx⟩⟩ = q2 at *
 generalize wfC ⟨items, rules, tables, taxes, ⟨Ai, ni, ci⟩, ⟨Ar, nr, cr⟩, ⟨At, nt, ct⟩, ⟨Ax, nx, cx⟩⟩ = q3 at *
 generalize rgC ⟨items, rules, tables, taxes, ⟨Ai, ni, ci⟩, ⟨Ar, nr, cr⟩, ⟨At, nt, ct⟩, ⟨Ax, nx, cx⟩⟩ = q4 at *
 clear h hT
 go_enter Tryz.func80, Tryz.ntmps80
 go_wp2_with fail
 (with_reducible refine (K0.out _ G0).mono ?_)
 rintro e w1 ⟨rfl, hb1⟩
 have G1 := G0.trans (hb1.mono G0.size)
 have X1 := X0.trans (hb1.mono X0.size)
 have s1_0 := B0.out _ G1
 have s1_1 := B1.out _ G1
 have s1_2 := B2.out _ G1
 have s1_3 := B3.out _ G1
 clear hb1
 cases q0
 ·go_wp2
  go_ret
  exact ⟨by rw [HV.out]; rfl, X1⟩
 ·skip
  go_wp2_with fail
  (with_reducible refine (K1.out _ G1).mono ?_)
  rintro e w2 ⟨rfl, hb2⟩
  have G2 := G1.trans (hb2.mono G1.size)
  have X2 := X1.trans (hb2.mono X1.size)
  clear s1_0
  have s2_0 := B0.out _ G2
  clear s1_1
  have s2_1 := B1.out _ G2
  clear s1_2
  have s2_2 := B2.out _ G2
  clear s1_3
  have s2_3 := B3.out _ G2
  clear hb2
  cases q1
  ·go_wp2
   go_ret
   exact ⟨by rw [HV.out]; rfl, X2⟩
  ·skip
   go_wp2_with fail
   (with_reducible refine (K2.out _ G2).mono ?_)
   rintro e w3 ⟨rfl, hb3⟩
   have G3 := G2.trans (hb3.mono G2.size)
   have X3 := X2.trans (hb3.mono X2.size)
   clear s2_0
   have s3_0 := B0.out _ G3
   clear s2_1
   have s3_1 := B1.out _ G3
   clear s2_2
   have s3_2 := B2.out _ G3
   clear s2_3
   have s3_3 := B3.out _ G3
   clear hb3
   cases q2
   ·go_wp2
    go_ret
    exact ⟨by rw [HV.out]; rfl, X3⟩
   ·skip
    go_wp2_with fail
    (with_reducible refine (K3.out _ G3).mono ?_)
    rintro e w4 ⟨rfl, hb4⟩
    have G4 := G3.trans (hb4.mono G3.size)
    have X4 := X3.trans (hb4.mono X3.size)
    clear s3_0
    have s4_0 := B0.out _ G4
    clear s3_1
    have s4_1 := B1.out _ G4
    clear s3_2
    have s4_2 := B2.out _ G4
    clear s3_3
    have s4_3 := B3.out _ G4
    clear hb4
    cases q3
    ·go_wp2
     go_ret
     exact ⟨by rw [HV.out]; rfl, X4⟩
    ·skip
     go_wp2_with fail
     (with_reducible refine (K4.out _ G4).mono ?_)
     rintro e w5 ⟨rfl, hb5⟩
     have G5 := G4.trans (hb5.mono G4.size)
     have X5 := X4.trans (hb5.mono X4.size)
     clear s4_0
     have s5_0 := B0.out _ G5
     clear s4_1
     have s5_1 := B1.out _ G5
     clear s4_2
     have s5_2 := B2.out _ G5
     clear s4_3
     have s5_3 := B3.out _ G5
     clear hb5
     cases q4
     ·go_wp2
      go_ret
      exact ⟨by rw [HV.out]; rfl, X5⟩
     ·go_wp2
      go_ret
      exact ⟨by rw [HV.out]; rfl, X5⟩
def codeBoth (a b : CatM) : Int := if codeC a ≠ 0 then codeC a else codeC b
set_option maxRecDepth 100000 in
set_option maxHeartbeats 1000000 in
theorem both_cat {w : World} {m m' : CatM} (h : m.Ok w) (h' : m'.Ok w) (hT : Tab w) : Calls Tryz.prog 43 #[m.val, m'.val] w fun e w' => e = .returned (.int .i64 (codeBoth m m')) ∧ Below w.heap.size w w' := by
 have HV : Hid (codeBoth m m' = if codeC m ≠ 0 then codeC m else codeC m') := rfl
 generalize codeBoth m m' = R at *
 have L0 : catSL m.si m.sr m.st m.sx = catSL m.si m.sr m.st m.sx := rfl
 have hb0 : Below w.heap.size w ((w.alloc (catSO m.si m.sr m.st m.sx)).alloc (catSO m'.si m'.sr m'.st m'.sx)) := ((Below.refl _ _).alloc (Nat.le_refl _) _).alloc (by simp) _
 have K0 := Lib.hid (valid_cat (h.below hb0) (hT.below hb0 hT.1))
 have H' := Lib.hid h'
 have HT := Lib.hid hT
 have hT1 := hT.1
 have HC : Hid (∃ q, codeC m = q) := ⟨_, rfl⟩
 generalize codeC m = q at *
 clear h h' hT HC L0
 go_enter Tryz.func43, Tryz.ntmps43
 go_wp2_with fail
 (with_reducible refine K0.out.mono ?_)
 rintro e w1 ⟨rfl, hb1⟩
 have kx := Bk.new (w.alloc (catSO m.si m.sr m.st m.sx)) 28 (catSL m'.si m'.sr m'.st m'.sx)
 rw [World.size_alloc] at kx
 have k1 : Bk w1 (w.heap.size + 1) 28 (catSL m'.si m'.sr m'.st m'.sx) := kx.below hb1 (by simp)
 have G1 : Below w.heap.size w w1 := hb0.trans (hb1.mono (by simp; omega))
 have s0 : w1.cell? ⟨w.heap.size + 1, 0, none⟩ = some (.slice m'.si.A m'.si.n m'.si.c) := k1.cell 0
 have s1 : w1.cell? ⟨w.heap.size + 1, 1, none⟩ = some (.slice m'.sr.A m'.sr.n m'.sr.c) := k1.cell 1
 have s2 : w1.cell? ⟨w.heap.size + 1, 2, none⟩ = some (.slice m'.st.A m'.st.n m'.st.c) := k1.cell 2
 have s3 : w1.cell? ⟨w.heap.size + 1, 3, none⟩ = some (.slice m'.sx.A m'.sx.n m'.sx.c) := k1.cell 3
 clear kx hb1 hb0 K0
 by_cases hq : q = 0
 ·subst hq
  go_wp2_with fail
  (with_reducible refine (valid_cat (H'.out.below G1) (HT.out.below G1 hT1)).mono ?_)
  rintro e w2 ⟨rfl, hb2⟩
  go_wp2
  go_ret
  exact ⟨by rw [HV.out]; rfl, G1.trans (hb2.mono G1.size)⟩
 ·have e1 : (q != 0) = true := by simpa using hq
  have HQ : Hid (R = q) := by show R = q; rw [HV.out, if_pos hq]
  clear hq HV
  go_wp2
  go_ret
  exact ⟨by rw [HQ.out]; rfl, G1⟩
end Go.Proofs.YthjfdfdgbpbanaaGreatDoor
