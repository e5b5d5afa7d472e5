/- catalog.inRange and Valid on any catalog. The reference's lists on any catalog. -/
import Derived.Test.YthjfdfdgbpbanaaGreatDoorV8
import Derived.Deep.RegionHeld3
import Derived.Deep.AppendLies
set_option linter.unusedVariables false
set_option linter.unusedSimpArgs false
open Go.RowKit
namespace Go.Proofs.YthjfdfdgbpbanaaGreatDoor
def rgR (r : RuM) : Bool := r.take.all unitP && r.give.all unitP && r.back.all unitP && ruRange r
def rgT (t : TbM) : Bool := t.rows.all wtP && (t.rows.all fun r => r.give.all unitP)
def rgX (t : TxM) : Bool := t.brs.all txP
def rgC (m : CatM) : Bool := m.items.all itRangeB && m.rules.all rgR && m.tables.all rgT && m.taxes.all rgX
/-- The function 'units' in its box gs. -/
def UnitsAt (w : World) (gs : Nat) : Prop := gs < w.heap.size ∧ w.cell? ⟨gs, 0, none⟩ = some (.func (.func 147) #[] #[])
theorem UnitsAt.below {w w' : World} {gs : Nat} (h : UnitsAt w gs) (hb : Below w.heap.size w w') : UnitsAt w' gs := ⟨Nat.lt_of_lt_of_le h.1 hb.size, (hb.cell (p := ⟨gs, 0, none⟩) h.1).trans h.2⟩
theorem ent147 : ∀ (args : Array Value) (W : World), (callFunc 147 args).run Tryz.prog W = .ok (.enter 147 args) W := enter_of Tryz.func147 (by kernel_rfl) rfl
theorem ent151 : ∀ (args : Array Value) (W : World), (callFunc 151 args).run Tryz.prog W = .ok (.enter 151 args) W := enter_of Tryz.func151 (by kernel_rfl) rfl
theorem ent153 : ∀ (args : Array Value) (W : World), (callFunc 153 args).run Tryz.prog W = .ok (.enter 153 args) W := enter_of Tryz.func153 (by kernel_rfl) rfl
theorem ent155 : ∀ (args : Array Value) (W : World), (callFunc 155 args).run Tryz.prog W = .ok (.enter 155 args) W := enter_of Tryz.func155 (by kernel_rfl) rfl
theorem ent156 : ∀ (args : Array Value) (W : World), (callFunc 156 args).run Tryz.prog W = .ok (.enter 156 args) W := enter_of Tryz.func156 (by kernel_rfl) rfl
set_option maxRecDepth 100000 in
set_option maxHeartbeats 2000000 in
theorem rg_ru (t : RuM) (w : World) (h : t.Ok w) {gs : Nat} (hs : UnitsAt w gs) : Calls Tryz.prog 151 #[t.val, .pointer (some ⟨gs, 0, none⟩)] w fun e w' => e = .returned (.bool (rgR t)) ∧ Below w.heap.size w w' := by
 have g1 := hs.1
 have g3 := hs.2
 obtain ⟨nm, sp, le, ti, ch, of_, tk, gv, bk, ⟨At, nt, ct⟩, ⟨Ag, ng, cg⟩, ⟨Ab, nb, cb⟩⟩ := t
 have X0 : Below w.heap.size w (w.alloc (.cells #[.string nm, .bool sp, .int .i64 le, .int .i64 ti, .int .i64 ch, .int .i64 of_, .slice At nt ct, .slice Ag ng cg, .slice Ab nb cb] 103)) := (Below.refl _ _).alloc (Nat.le_refl _) _
 have G0 := Below.refl (w.alloc (.cells #[.string nm, .bool sp, .int .i64 le, .int .i64 ti, .int .i64 ch, .int .i64 of_, .slice At nt ct, .slice Ag ng cg, .slice Ab nb cb] 103)).heap.size (w.alloc (.cells #[.string nm, .bool sp, .int .i64 le, .int .i64 ti, .int .i64 ch, .int .i64 of_, .slice At nt ct, .slice Ag ng cg, .slice Ab nb cb] 103))
 have K0 : Hid (∀ W, Below (w.alloc (.cells #[.string nm, .bool sp, .int .i64 le, .int .i64 ti, .int .i64 ch, .int .i64 of_, .slice At nt ct, .slice Ag ng cg, .slice Ab nb cb] 103)).heap.size (w.alloc (.cells #[.string nm, .bool sp, .int .i64 le, .int .i64 ti, .int .i64 ch, .int .i64 of_, .slice At nt ct, .slice Ag ng cg, .slice Ab nb cb] 103)) W → Calls Tryz.prog 147 #[.slice At nt ct] W fun e w' => e = .returned (.bool (tk.all unitP)) ∧ Below W.heap.size W w') := fun W hW => units_am (s := ⟨At, nt, ct⟩) ((h.take.below X0).below hW)
 have K1 : Hid (∀ W, Below (w.alloc (.cells #[.string nm, .bool sp, .int .i64 le, .int .i64 ti, .int .i64 ch, .int .i64 of_, .slice At nt ct, .slice Ag ng cg, .slice Ab nb cb] 103)).heap.size (w.alloc (.cells #[.string nm, .bool sp, .int .i64 le, .int .i64 ti, .int .i64 ch, .int .i64 of_, .slice At nt ct, .slice Ag ng cg, .slice Ab nb cb] 103)) W → Calls Tryz.prog 147 #[.slice Ag ng cg] W fun e w' => e = .returned (.bool (gv.all unitP)) ∧ Below W.heap.size W w') := fun W hW => units_am (s := ⟨Ag, ng, cg⟩) ((h.give.below X0).below hW)
 have K2 : Hid (∀ W, Below (w.alloc (.cells #[.string nm, .bool sp, .int .i64 le, .int .i64 ti, .int .i64 ch, .int .i64 of_, .slice At nt ct, .slice Ag ng cg, .slice Ab nb cb] 103)).heap.size (w.alloc (.cells #[.string nm, .bool sp, .int .i64 le, .int .i64 ti, .int .i64 ch, .int .i64 of_, .slice At nt ct, .slice Ag ng cg, .slice Ab nb cb] 103)) W → Calls Tryz.prog 147 #[.slice Ab nb cb] W fun e w' => e = .returned (.bool (bk.all unitP)) ∧ Below W.heap.size W w') := fun W hW => units_am (s := ⟨Ab, nb, cb⟩) ((h.back.below X0).below hW)
 have K3 : Hid (∀ W, Below (w.alloc (.cells #[.string nm, .bool sp, .int .i64 le, .int .i64 ti, .int .i64 ch, .int .i64 of_, .slice At nt ct, .slice Ag ng cg, .slice Ab nb cb] 103)).heap.size (w.alloc (.cells #[.string nm, .bool sp, .int .i64 le, .int .i64 ti, .int .i64 ch, .int .i64 of_, .slice At nt ct, .slice Ag ng cg, .slice Ab nb cb] 103)) W → Calls Tryz.prog 152 #[.agg #[.string nm, .bool sp, .int .i64 le, .int .i64 ti, .int .i64 ch, .int .i64 of_, .slice At nt ct, .slice Ag ng cg, .slice Ab nb cb]] W fun e w' => e = .returned (.bool (ruRange ⟨nm, sp, le, ti, ch, of_, tk, gv, bk, ⟨At, nt, ct⟩, ⟨Ag, ng, cg⟩, ⟨Ab, nb, cb⟩⟩)) ∧ Below W.heap.size W w') := fun W hW => range_ru ⟨nm, sp, le, ti, ch, of_, tk, gv, bk, ⟨At, nt, ct⟩, ⟨Ag, ng, cg⟩, ⟨Ab, nb, cb⟩⟩ W
 have C : Hid (∀ W, Below (w.alloc (.cells #[.string nm, .bool sp, .int .i64 le, .int .i64 ti, .int .i64 ch, .int .i64 of_, .slice At nt ct, .slice Ag ng cg, .slice Ab nb cb] 103)).heap.size (w.alloc (.cells #[.string nm, .bool sp, .int .i64 le, .int .i64 ti, .int .i64 ch, .int .i64 of_, .slice At nt ct, .slice Ag ng cg, .slice Ab nb cb] 103)) W → W.cell? ⟨gs, 0, none⟩ = some (.func (.func 147) #[] #[])) := fun W hW => ((hs.below X0).below hW).2
 have B0 : Hid (∀ W, Below (w.alloc (.cells #[.string nm, .bool sp, .int .i64 le, .int .i64 ti, .int .i64 ch, .int .i64 of_, .slice At nt ct, .slice Ag ng cg, .slice Ab nb cb] 103)).heap.size (w.alloc (.cells #[.string nm, .bool sp, .int .i64 le, .int .i64 ti, .int .i64 ch, .int .i64 of_, .slice At nt ct, .slice Ag ng cg, .slice Ab nb cb] 103)) W → W.cell? ⟨w.heap.size, 0, none⟩ = some (.string nm)) := fun W hW => (hW.cell (p := ⟨w.heap.size, 0, none⟩) (by simp)).trans ((Bk.new w 103 [.string nm, .bool sp, .int .i64 le, .int .i64 ti, .int .i64 ch, .int .i64 of_, .slice At nt ct, .slice Ag ng cg, .slice Ab nb cb]).cell 0)
 have B1 : Hid (∀ W, Below (w.alloc (.cells #[.string nm, .bool sp, .int .i64 le, .int .i64 ti, .int .i64 ch, .int .i64 of_, .slice At nt ct, .slice Ag ng cg, .slice Ab nb cb] 103)).heap.size (w.alloc (.cells #[.string nm, .bool sp, .int .i64 le, .int .i64 ti, .int .i64 ch, .int .i64 of_, .slice At nt ct, .slice Ag ng cg, .slice Ab nb cb] 103)) W → W.cell? ⟨w.heap.size, 1, none⟩ = some (.bool sp)) := fun W hW => (hW.cell (p := ⟨w.heap.size, 1, none⟩) (by simp)).trans ((Bk.new w 103 [.string nm, .bool sp, .int .i64 le, .int .i64 ti, .int .i64 ch, .int .i64 of_, .slice At nt ct, .slice Ag ng cg, .slice Ab nb cb]).cell 1)
 have B2 : Hid (∀ W, Below (w.alloc (.cells #[.string nm, .bool sp, .int .i64 le, .int .i64 ti, .int .i64 ch, .int .i64 of_, .slice At nt ct, .slice Ag ng cg, .slice Ab nb cb] 103)).heap.size (w.alloc (.cells #[.string nm, .bool sp, .int .i64 le, .int .i64 ti, .int .i64 ch, .int .i64 of_, .slice At nt ct, .slice Ag ng cg, .slice Ab nb cb] 103)) W → W.cell? ⟨w.heap.size, 2, none⟩ = some (.int .i64 le)) := fun W hW => (hW.cell (p := ⟨w.heap.size, 2, none⟩) (by simp)).trans ((Bk.new w 103 [.string nm, .bool sp, .int .i64 le, .int .i64 ti, .int .i64 ch, .int .i64 of_, .slice At nt ct, .slice Ag ng cg, .slice Ab nb cb]).cell 2)
 have B3 : Hid (∀ W, Below (w.alloc (.cells #[.string nm, .bool sp, .int .i64 le, .int .i64 ti, .int .i64 ch, .int .i64 of_, .slice At nt ct, .slice Ag ng cg, .slice Ab nb cb] 103)).heap.size (w.alloc (.cells #[.string nm, .bool sp, .int .i64 le, .int .i64 ti, .int .i64 ch, .int .i64 of_, .slice At nt ct, .slice Ag ng cg, .slice Ab nb cb] 103)) W → W.cell? ⟨w.heap.size, 3, none⟩ = some (.int .i64 ti)) := fun W hW => (hW.cell (p := ⟨w.heap.size, 3, none⟩) (by simp)).trans ((Bk.new w 103 [.string nm, .bool sp, .int .i64 le, .int .i64 ti, .int .i64 ch, .int .i64 of_, .slice At nt ct, .slice Ag ng cg, .slice Ab nb cb]).cell 3)
 have B4 : Hid (∀ W, Below (w.alloc (.cells #[.string nm, .bool sp, .int .i64 le, .int .i64 ti, .int .i64 ch, .int .i64 of_, .slice At nt ct, .slice Ag ng cg, .slice Ab nb cb] 103)).heap.size (w.alloc (.cells #[.string nm, .bool sp, .int .i64 le, .int .i64 ti, .int .i64 ch, .int .i64 of_, .slice At nt ct, .slice Ag ng cg, .slice Ab nb cb] 103)) W → W.cell? ⟨w.heap.size, 4, none⟩ = some (.int .i64 ch)) := fun W hW => (hW.cell (p := ⟨w.heap.size, 4, none⟩) (by simp)).trans ((Bk.new w 103 [.string nm, .bool sp, .int .i64 le, .int .i64 ti, .int .i64 ch, .int .i64 of_, .slice At nt ct, .slice Ag ng cg, .slice Ab nb cb]).cell 4)
 have B5 : Hid (∀ W, Below (w.alloc (.cells #[.string nm, .bool sp, .int .i64 le, .int .i64 ti, .int .i64 ch, .int .i64 of_, .slice At nt ct, .slice Ag ng cg, .slice Ab nb cb] 103)).heap.size (w.alloc (.cells #[.string nm, .bool sp, .int .i64 le, .int .i64 ti, .int .i64 ch, .int .i64 of_, .slice At nt ct, .slice Ag ng cg, .slice Ab nb cb] 103)) W → W.cell? ⟨w.heap.size, 5, none⟩ = some (.int .i64 of_)) := fun W hW => (hW.cell (p := ⟨w.heap.size, 5, none⟩) (by simp)).trans ((Bk.new w 103 [.string nm, .bool sp, .int .i64 le, .int .i64 ti, .int .i64 ch, .int .i64 of_, .slice At nt ct, .slice Ag ng cg, .slice Ab nb cb]).cell 5)
 have B6 : Hid (∀ W, Below (w.alloc (.cells #[.string nm, .bool sp, .int .i64 le, .int .i64 ti, .int .i64 ch, .int .i64 of_, .slice At nt ct, .slice Ag ng cg, .slice Ab nb cb] 103)).heap.size (w.alloc (.cells #[.string nm, .bool sp, .int .i64 le, .int .i64 ti, .int .i64 ch, .int .i64 of_, .slice At nt ct, .slice Ag ng cg, .slice Ab nb cb] 103)) W → W.cell? ⟨w.heap.size, 6, none⟩ = some (.slice At nt ct)) := fun W hW => (hW.cell (p := ⟨w.heap.size, 6, none⟩) (by simp)).trans ((Bk.new w 103 [.string nm, .bool sp, .int .i64 le, .int .i64 ti, .int .i64 ch, .int .i64 of_, .slice At nt ct, .slice Ag ng cg, .slice Ab nb cb]).cell 6)
 have B7 : Hid (∀ W, Below (w.alloc (.cells #[.string nm, .bool sp, .int .i64 le, .int .i64 ti, .int .i64 ch, .int .i64 of_, .slice At nt ct, .slice Ag ng cg, .slice Ab nb cb] 103)).heap.size (w.alloc (.cells #[.string nm, .bool sp, .int .i64 le, .int .i64 ti, .int .i64 ch, .int .i64 of_, .slice At nt ct, .slice Ag ng cg, .slice Ab nb cb] 103)) W → W.cell? ⟨w.heap.size, 7, none⟩ = some (.slice Ag ng cg)) := fun W hW => (hW.cell (p := ⟨w.heap.size, 7, none⟩) (by simp)).trans ((Bk.new w 103 [.string nm, .bool sp, .int .i64 le, .int .i64 ti, .int .i64 ch, .int .i64 of_, .slice At nt ct, .slice Ag ng cg, .slice Ab nb cb]).cell 7)
 have B8 : Hid (∀ W, Below (w.alloc (.cells #[.string nm, .bool sp, .int .i64 le, .int .i64 ti, .int .i64 ch, .int .i64 of_, .slice At nt ct, .slice Ag ng cg, .slice Ab nb cb] 103)).heap.size (w.alloc (.cells #[.string nm, .bool sp, .int .i64 le, .int .i64 ti, .int .i64 ch, .int .i64 of_, .slice At nt ct, .slice Ag ng cg, .slice Ab nb cb] 103)) W → W.cell? ⟨w.heap.size, 8, none⟩ = some (.slice Ab nb cb)) := fun W hW => (hW.cell (p := ⟨w.heap.size, 8, none⟩) (by simp)).trans ((Bk.new w 103 [.string nm, .bool sp, .int .i64 le, .int .i64 ti, .int .i64 ch, .int .i64 of_, .slice At nt ct, .slice Ag ng cg, .slice Ab nb cb]).cell 8)
 have HV : Hid (rgR ⟨nm, sp, le, ti, ch, of_, tk, gv, bk, ⟨At, nt, ct⟩, ⟨Ag, ng, cg⟩, ⟨Ab, nb, cb⟩⟩ = (tk.all unitP && gv.all unitP && bk.all unitP && ruRange ⟨nm, sp, le, ti, ch, of_, tk, gv, bk, ⟨At, nt, ct⟩, ⟨Ag, ng, cg⟩, ⟨Ab, nb, cb⟩⟩)) := rfl
 generalize rgR ⟨nm, sp, le, ti, ch, of_, tk, gv, bk, ⟨At, nt, ct⟩, ⟨Ag, ng, cg⟩, ⟨Ab, nb, cb⟩⟩ = R at *
 generalize ruRange ⟨nm, sp, le, ti, ch, of_, tk, gv, bk, ⟨At, nt, ct⟩, ⟨Ag, ng, cg⟩, ⟨Ab, nb, cb⟩⟩ = q3 at *
 generalize tk.all unitP = q0 at *
 generalize gv.all unitP = q1 at *
 generalize bk.all unitP = q2 at *
 have ce := ent147
 clear h hs
 go_enter Tryz.func151, Tryz.ntmps151
 go_wp2_with fail
 (with_reducible refine (K0.out _ G0).mono ?_)
 rintro e w1 ⟨rfl, hb1⟩
 have G1 := G0.trans (hb1.mono G0.size)
 have X1 := X0.trans (hb1.mono X0.size)
 have z1 := G1.size
 simp only [World.size_alloc] at z1
 have s1_0 := C.out _ G1
 have s1_1 := B0.out _ G1
 have s1_2 := B1.out _ G1
 have s1_3 := B2.out _ G1
 have s1_4 := B3.out _ G1
 have s1_5 := B4.out _ G1
 have s1_6 := B5.out _ G1
 have s1_7 := B6.out _ G1
 have s1_8 := B7.out _ G1
 have s1_9 := B8.out _ G1
 clear hb1
 cases q0
 ·go_wp2
  go_ret
  exact ⟨by rw [HV.out]; rfl, X1⟩
 ·skip
  go_wp2_with fail
  (with_reducible refine (K1.out _ G1).mono ?_)
  rintro e w2 ⟨rfl, hb2⟩
  have G2 := G1.trans (hb2.mono G1.size)
  have X2 := X1.trans (hb2.mono X1.size)
  have z2 := G2.size
  simp only [World.size_alloc] at z2
  clear s1_0
  have s2_0 := C.out _ G2
  clear s1_1
  have s2_1 := B0.out _ G2
  clear s1_2
  have s2_2 := B1.out _ G2
  clear s1_3
  have s2_3 := B2.out _ G2
  clear s1_4
  have s2_4 := B3.out _ G2
  clear s1_5
  have s2_5 := B4.out _ G2
  clear s1_6
  have s2_6 := B5.out _ G2
  clear s1_7
  have s2_7 := B6.out _ G2
  clear s1_8
  have s2_8 := B7.out _ G2
  clear s1_9
  have s2_9 := B8.out _ G2
  clear hb2
  cases q1
  ·go_wp2
   go_ret
   exact ⟨by rw [HV.out]; rfl, X2⟩
  ·skip
   go_wp2_with fail
   (with_reducible refine (K2.out _ G2).mono ?_)
   rintro e w3 ⟨rfl, hb3⟩
   have G3 := G2.trans (hb3.mono G2.size)
   have X3 := X2.trans (hb3.mono X2.size)
   have z3 := G3.size
   simp only [World.size_alloc] at z3
   clear s2_0
   have s3_0 := C.out _ G3
   clear s2_1
   have s3_1 := B0.out _ G3
   clear s2_2
   have s3_2 := B1.out _ G3
   clear s2_3
   have s3_3 := B2.out _ G3
   clear s2_4
   have s3_4 := B3.out _ G3
   clear s2_5
   have s3_5 := B4.out _ G3
   clear s2_6
   have s3_6 := B5.out _ G3
   clear s2_7
   have s3_7 := B6.out _ G3
   clear s2_8
   have s3_8 := B7.out _ G3
   clear s2_9
   have s3_9 := B8.out _ G3
   clear hb3
   cases q2
   ·go_wp2
    go_ret
    exact ⟨by rw [HV.out]; rfl, X3⟩
   ·skip
    go_wp2_with fail
    (with_reducible refine (K3.out _ G3).mono ?_)
    rintro e w4 ⟨rfl, hb4⟩
    have G4 := G3.trans (hb4.mono G3.size)
    have X4 := X3.trans (hb4.mono X3.size)
    have z4 := G4.size
    simp only [World.size_alloc] at z4
    clear s3_0
    have s4_0 := C.out _ G4
    clear s3_1
    have s4_1 := B0.out _ G4
    clear s3_2
    have s4_2 := B1.out _ G4
    clear s3_3
    have s4_3 := B2.out _ G4
    clear s3_4
    have s4_4 := B3.out _ G4
    clear s3_5
    have s4_5 := B4.out _ G4
    clear s3_6
    have s4_6 := B5.out _ G4
    clear s3_7
    have s4_7 := B6.out _ G4
    clear s3_8
    have s4_8 := B7.out _ G4
    clear s3_9
    have s4_9 := B8.out _ G4
    clear hb4
    cases q3
    ·go_wp2
     go_ret
     exact ⟨by rw [HV.out]; rfl, X4⟩
    ·go_wp2
     go_ret
     exact ⟨by rw [HV.out]; rfl, X4⟩
set_option maxHeartbeats 1000000 in
theorem rg_rw (t : RwM) (w : World) (h : t.Ok w) {gs : Nat} (hs : UnitsAt w gs) : Calls Tryz.prog 155 #[t.val, .pointer (some ⟨gs, 0, none⟩)] w fun e w' => e = .returned (.bool (t.give.all unitP)) ∧ Below w.heap.size w w' := by
 have g1 := hs.1
 have g3 := hs.2
 obtain ⟨x, gv, ⟨Ag, ng, cg⟩⟩ := t
 have X0 : Below w.heap.size w (w.alloc (.cells #[.int .i64 x, .slice Ag ng cg] 109)) := (Below.refl _ _).alloc (Nat.le_refl _) _
 have hp : PrV w 136 ⟨Ag, ng, cg⟩ gv := h
 have K0 := Lib.hid (units_am (hp.below X0))
 dsimp only at K0 ⊢
 generalize gv.all unitP = q at *
 have ce := ent147
 clear h hp hs
 go_enter Tryz.func155, Tryz.ntmps155
 go_wp2_with fail
 refine K0.out.mono ?_
 rintro e w1 ⟨rfl, hb1⟩
 go_wp2
 go_ret
 exact ⟨rfl, X0.trans (hb1.mono (by simp))⟩
theorem ev155 {w : World} {s : Sl} {l : List RwM} (h : RowsV w s l) {gs : Nat} (hs : UnitsAt w gs) : Calls Tryz.prog 144 #[.slice s.A s.n s.c, .func (.func 155) #[] #[.pointer (some ⟨gs, 0, none⟩)]] w fun e w' => e = .returned (.bool (l.all fun r => r.give.all unitP)) ∧ Below w.heap.size w w' := by
 refine every_rw 155 #[.pointer (some ⟨gs, 0, none⟩)] ent155 (fun r => r.give.all unitP) h ?_
 intro t U ht hU
 exact rg_rw t U (PrV.below (h.each t ht) hU) (hs.below hU)
set_option maxHeartbeats 1000000 in
theorem rg_tb (t : TbM) (w : World) (h : t.Ok w) {gs : Nat} (hs : UnitsAt w gs) : Calls Tryz.prog 153 #[t.val, .pointer (some ⟨gs, 0, none⟩)] w fun e w' => e = .returned (.bool (rgT t)) ∧ Below w.heap.size w w' := by
 obtain ⟨nm, rows, ⟨A, n, c⟩⟩ := t
 have X0 : Below w.heap.size w (w.alloc (.cells #[.string nm, .slice A n c] 107)) := (Below.refl _ _).alloc (Nat.le_refl _) _
 have G0 := Below.refl (w.alloc (.cells #[.string nm, .slice A n c] 107)).heap.size (w.alloc (.cells #[.string nm, .slice A n c] 107))
 have K0 : Hid (∀ W, Below (w.alloc (.cells #[.string nm, .slice A n c] 107)).heap.size (w.alloc (.cells #[.string nm, .slice A n c] 107)) W → Calls Tryz.prog 154 #[.agg #[.string nm, .slice A n c]] W fun e w' => e = .returned (.bool (rows.all wtP)) ∧ Below W.heap.size W w') := fun W hW => weights_tb ⟨nm, rows, ⟨A, n, c⟩⟩ W ⟨(h.rows.below X0).below hW, h.name⟩
 have K1 : Hid (∀ W, Below (w.alloc (.cells #[.string nm, .slice A n c] 107)).heap.size (w.alloc (.cells #[.string nm, .slice A n c] 107)) W → Calls Tryz.prog 144 #[.slice A n c, .func (.func 155) #[] #[.pointer (some ⟨gs, 0, none⟩)]] W fun e w' => e = .returned (.bool (rows.all fun r => r.give.all unitP)) ∧ Below W.heap.size W w') := fun W hW => ev155 (s := ⟨A, n, c⟩) ((h.rows.below X0).below hW) ((hs.below X0).below hW)
 have B0 : Hid (∀ W, Below (w.alloc (.cells #[.string nm, .slice A n c] 107)).heap.size (w.alloc (.cells #[.string nm, .slice A n c] 107)) W → W.cell? ⟨w.heap.size, 0, none⟩ = some (.string nm)) := fun W hW => (hW.cell (p := ⟨w.heap.size, 0, none⟩) (by simp)).trans ((Bk.new w 107 [.string nm, .slice A n c]).cell 0)
 have B1 : Hid (∀ W, Below (w.alloc (.cells #[.string nm, .slice A n c] 107)).heap.size (w.alloc (.cells #[.string nm, .slice A n c] 107)) W → W.cell? ⟨w.heap.size, 1, none⟩ = some (.slice A n c)) := fun W hW => (hW.cell (p := ⟨w.heap.size, 1, none⟩) (by simp)).trans ((Bk.new w 107 [.string nm, .slice A n c]).cell 1)
 have HV : Hid (rgT ⟨nm, rows, ⟨A, n, c⟩⟩ = (rows.all wtP && (rows.all fun r => r.give.all unitP))) := rfl
 generalize rgT ⟨nm, rows, ⟨A, n, c⟩⟩ = R at *
 generalize (rows.all fun r => r.give.all unitP) = q1 at *
 generalize rows.all wtP = q0 at *
 clear h hs
 go_enter Tryz.func153, Tryz.ntmps153
 go_wp2_with fail
 (with_reducible refine (K0.out _ G0).mono ?_)
 rintro e w1 ⟨rfl, hb1⟩
 have G1 := G0.trans (hb1.mono G0.size)
 have X1 := X0.trans (hb1.mono X0.size)
 have z1 := G1.size
 simp only [World.size_alloc] at z1
 have s1_0 := B0.out _ G1
 have s1_1 := B1.out _ G1
 clear hb1
 cases q0
 ·go_wp2
  go_ret
  exact ⟨by rw [HV.out]; rfl, X1⟩
 ·skip
  go_wp2_with fail
  (with_reducible refine (K1.out _ G1).mono ?_)
  rintro e w2 ⟨rfl, hb2⟩
  have G2 := G1.trans (hb2.mono G1.size)
  have X2 := X1.trans (hb2.mono X1.size)
  have z2 := G2.size
  simp only [World.size_alloc] at z2
  clear s1_0
  have s2_0 := B0.out _ G2
  clear s1_1
  have s2_1 := B1.out _ G2
  clear hb2
  cases q1
  ·go_wp2
   go_ret
   exact ⟨by rw [HV.out]; rfl, X2⟩
  ·go_wp2
   go_ret
   exact ⟨by rw [HV.out]; rfl, X2⟩
theorem ev151 {w : World} {s : Sl} {l : List RuM} (h : RulesV w s l) {gs : Nat} (hs : UnitsAt w gs) : Calls Tryz.prog 118 #[.slice s.A s.n s.c, .func (.func 151) #[] #[.pointer (some ⟨gs, 0, none⟩)]] w fun e w' => e = .returned (.bool (l.all rgR)) ∧ Below w.heap.size w w' := by
 refine every_ru 151 #[.pointer (some ⟨gs, 0, none⟩)] ent151 rgR h ?_
 intro t U ht hU
 exact rg_ru t U ((h.each t ht).keep (.below hU)) (hs.below hU)
theorem ev153 {w : World} {s : Sl} {l : List TbM} (h : TablesV w s l) {gs : Nat} (hs : UnitsAt w gs) : Calls Tryz.prog 120 #[.slice s.A s.n s.c, .func (.func 153) #[] #[.pointer (some ⟨gs, 0, none⟩)]] w fun e w' => e = .returned (.bool (l.all rgT)) ∧ Below w.heap.size w w' := by
 refine every_tb 153 #[.pointer (some ⟨gs, 0, none⟩)] ent153 rgT h ?_
 intro t U ht hU
 exact rg_tb t U ⟨(h.each t ht).rows.below hU, (h.each t ht).name⟩ (hs.below hU)
theorem ev156 {w : World} {s : Sl} {l : List TxM} (h : TaxesV w s l) : Calls Tryz.prog 122 #[.slice s.A s.n s.c, .func (.func 156) #[] #[]] w fun e w' => e = .returned (.bool (l.all rgX)) ∧ Below w.heap.size w w' := by
 refine every_tx 156 #[] ent156 rgX h ?_
 intro t U ht hU
 rw [app_nil]
 exact range_tx t U ⟨(h.each t ht).brs.below hU, (h.each t ht).name⟩
set_option maxRecDepth 100000 in
set_option maxHeartbeats 2000000 in
theorem rgC_any {w : World} {m : CatM} (h : m.Ok w) : Calls Tryz.prog 104 #[m.val] w fun e w' => e = .returned (.bool (rgC m)) ∧ Below w.heap.size w w' := by
 obtain ⟨items, rules, tables, taxes, ⟨Ai, ni, ci⟩, ⟨Ar, nr, cr⟩, ⟨At, nt, ct⟩, ⟨Ax, nx, cx⟩⟩ := m
 have X0 : Below w.heap.size w ((w.alloc (.cells #[.slice Ai ni ci, .slice Ar nr cr, .slice At nt ct, .slice Ax nx cx] 28)).alloc (.cells #[.func (.func 147) #[] #[]] 197)) := ((Below.refl _ _).alloc (Nat.le_refl _) _).alloc (by simp) _
 have G0 := Below.refl ((w.alloc (.cells #[.slice Ai ni ci, .slice Ar nr cr, .slice At nt ct, .slice Ax nx cx] 28)).alloc (.cells #[.func (.func 147) #[] #[]] 197)).heap.size ((w.alloc (.cells #[.slice Ai ni ci, .slice Ar nr cr, .slice At nt ct, .slice Ax nx cx] 28)).alloc (.cells #[.func (.func 147) #[] #[]] 197))
 have HS : UnitsAt ((w.alloc (.cells #[.slice Ai ni ci, .slice Ar nr cr, .slice At nt ct, .slice Ax nx cx] 28)).alloc (.cells #[.func (.func 147) #[] #[]] 197)) (w.heap.size + 1) := by
  have := (Bk.new (w.alloc (.cells #[.slice Ai ni ci, .slice Ar nr cr, .slice At nt ct, .slice Ax nx cx] 28)) 197 [.func (.func 147) #[] #[]]).cell 0
  rw [World.size_alloc] at this
  exact ⟨by simp, this⟩
 have K0 : Hid (∀ W, Below ((w.alloc (.cells #[.slice Ai ni ci, .slice Ar nr cr, .slice At nt ct, .slice Ax nx cx] 28)).alloc (.cells #[.func (.func 147) #[] #[]] 197)).heap.size ((w.alloc (.cells #[.slice Ai ni ci, .slice Ar nr cr, .slice At nt ct, .slice Ax nx cx] 28)).alloc (.cells #[.func (.func 147) #[] #[]] 197)) W → Calls Tryz.prog 124 #[.slice Ai ni ci, .func (.func 150) #[] #[]] W fun e w' => e = .returned (.bool (items.all itRangeB)) ∧ Below W.heap.size W w') := fun W hW => ev150 (s := ⟨Ai, ni, ci⟩) ((h.items.below X0).below hW)
 have K1 : Hid (∀ W, Below ((w.alloc (.cells #[.slice Ai ni ci, .slice Ar nr cr, .slice At nt ct, .slice Ax nx cx] 28)).alloc (.cells #[.func (.func 147) #[] #[]] 197)).heap.size ((w.alloc (.cells #[.slice Ai ni ci, .slice Ar nr cr, .slice At nt ct, .slice Ax nx cx] 28)).alloc (.cells #[.func (.func 147) #[] #[]] 197)) W → Calls Tryz.prog 118 #[.slice Ar nr cr, .func (.func 151) #[] #[.pointer (some ⟨w.heap.size + 1, 0, none⟩)]] W fun e w' => e = .returned (.bool (rules.all rgR)) ∧ Below W.heap.size W w') := fun W hW => ev151 (s := ⟨Ar, nr, cr⟩) ((h.rules.below X0).below hW) (HS.below hW)
 have K2 : Hid (∀ W, Below ((w.alloc (.cells #[.slice Ai ni ci, .slice Ar nr cr, .slice At nt ct, .slice Ax nx cx] 28)).alloc (.cells #[.func (.func 147) #[] #[]] 197)).heap.size ((w.alloc (.cells #[.slice Ai ni ci, .slice Ar nr cr, .slice At nt ct, .slice Ax nx cx] 28)).alloc (.cells #[.func (.func 147) #[] #[]] 197)) W → Calls Tryz.prog 120 #[.slice At nt ct, .func (.func 153) #[] #[.pointer (some ⟨w.heap.size + 1, 0, none⟩)]] W fun e w' => e = .returned (.bool (tables.all rgT)) ∧ Below W.heap.size W w') := fun W hW => ev153 (s := ⟨At, nt, ct⟩) ((h.tables.below X0).below hW) (HS.below hW)
 have K3 : Hid (∀ W, Below ((w.alloc (.cells #[.slice Ai ni ci, .slice Ar nr cr, .slice At nt ct, .slice Ax nx cx] 28)).alloc (.cells #[.func (.func 147) #[] #[]] 197)).heap.size ((w.alloc (.cells #[.slice Ai ni ci, .slice Ar nr cr, .slice At nt ct, .slice Ax nx cx] 28)).alloc (.cells #[.func (.func 147) #[] #[]] 197)) W → Calls Tryz.prog 122 #[.slice Ax nx cx, .func (.func 156) #[] #[]] W fun e w' => e = .returned (.bool (taxes.all rgX)) ∧ Below W.heap.size W w') := fun W hW => ev156 (s := ⟨Ax, nx, cx⟩) ((h.taxes.below X0).below hW)
 have B0 : Hid (∀ W, Below ((w.alloc (.cells #[.slice Ai ni ci, .slice Ar nr cr, .slice At nt ct, .slice Ax nx cx] 28)).alloc (.cells #[.func (.func 147) #[] #[]] 197)).heap.size ((w.alloc (.cells #[.slice Ai ni ci, .slice Ar nr cr, .slice At nt ct, .slice Ax nx cx] 28)).alloc (.cells #[.func (.func 147) #[] #[]] 197)) W → W.cell? ⟨w.heap.size, 0, none⟩ = some (.slice Ai ni ci)) := fun W hW => (hW.cell (p := ⟨w.heap.size, 0, none⟩) (by simp; omega)).trans (((Bk.new w 28 [.slice Ai ni ci, .slice Ar nr cr, .slice At nt ct, .slice Ax nx cx]).alloc _).cell 0)
 have B1 : Hid (∀ W, Below ((w.alloc (.cells #[.slice Ai ni ci, .slice Ar nr cr, .slice At nt ct, .slice Ax nx cx] 28)).alloc (.cells #[.func (.func 147) #[] #[]] 197)).heap.size ((w.alloc (.cells #[.slice Ai ni ci, .slice Ar nr cr, .slice At nt ct, .slice Ax nx cx] 28)).alloc (.cells #[.func (.func 147) #[] #[]] 197)) W → W.cell? ⟨w.heap.size, 1, none⟩ = some (.slice Ar nr cr)) := fun W hW => (hW.cell (p := ⟨w.heap.size, 1, none⟩) (by simp; omega)).trans (((Bk.new w 28 [.slice Ai ni ci, .slice Ar nr cr, .slice At nt ct, .slice Ax nx cx]).alloc _).cell 1)
 have B2 : Hid (∀ W, Below ((w.alloc (.cells #[.slice Ai ni ci, .slice Ar nr cr, .slice At nt ct, .slice Ax nx cx] 28)).alloc (.cells #[.func (.func 147) #[] #[]] 197)).heap.size ((w.alloc (.cells #[.slice Ai ni ci, .slice Ar nr cr, .slice At nt ct, .slice Ax nx cx] 28)).alloc (.cells #[.func (.func 147) #[] #[]] 197)) W → W.cell? ⟨w.heap.size, 2, none⟩ = some (.slice At nt ct)) := fun W hW => (hW.cell (p := ⟨w.heap.size, 2, none⟩) (by simp; omega)).trans (((Bk.new w 28 [.slice Ai ni ci, .slice Ar nr cr, .slice At nt ct, .slice Ax nx cx]).alloc _).cell 2)
 have B3 : Hid (∀ W, Below ((w.alloc (.cells #[.slice Ai ni ci, .slice Ar nr cr, .slice At nt ct, .slice Ax nx cx] 28)).alloc (.cells #[.func (.func 147) #[] #[]] 197)).heap.size ((w.alloc (.cells #[.slice Ai ni ci, .slice Ar nr cr, .slice At nt ct, .slice Ax nx cx] 28)).alloc (.cells #[.func (.func 147) #[] #[]] 197)) W → W.cell? ⟨w.heap.size, 3, none⟩ = some (.slice Ax nx cx)) := fun W hW => (hW.cell (p := ⟨w.heap.size, 3, none⟩) (by simp; omega)).trans (((Bk.new w 28 [.slice Ai ni ci, .slice Ar nr cr, .slice At nt ct, .slice Ax nx cx]).alloc _).cell 3)
 have HV : Hid (rgC ⟨items, rules, tables, taxes, ⟨Ai, ni, ci⟩, ⟨Ar, nr, cr⟩, ⟨At, nt, ct⟩, ⟨Ax, nx, cx⟩⟩ = (items.all itRangeB && rules.all rgR && tables.all rgT && taxes.all rgX)) := rfl
 generalize rgC ⟨items, rules, tables, taxes, ⟨Ai, ni, ci⟩, ⟨Ar, nr, cr⟩, ⟨At, nt, ct⟩, ⟨Ax, nx, cx⟩⟩ = R at *
 generalize items.all itRangeB = q0 at *
 generalize rules.all rgR = q1 at *
 generalize tables.all rgT = q2 at *
 generalize taxes.all rgX = q3 at *
 clear h HS
 go_enter Tryz.func104, Tryz.ntmps104
 go_wp2_with fail
 (with_reducible refine (K0.out _ G0).mono ?_)
 rintro e w1 ⟨rfl, hb1⟩
 have G1 := G0.trans (hb1.mono G0.size)
 have X1 := X0.trans (hb1.mono X0.size)
 have z1 := G1.size
 simp only [World.size_alloc] at z1
 have s1_0 := B0.out _ G1
 have s1_1 := B1.out _ G1
 have s1_2 := B2.out _ G1
 have s1_3 := B3.out _ G1
 clear hb1
 cases q0
 ·go_wp2
  go_ret
  exact ⟨by rw [HV.out]; rfl, X1⟩
 ·skip
  go_wp2_with fail
  (with_reducible refine (K1.out _ G1).mono ?_)
  rintro e w2 ⟨rfl, hb2⟩
  have G2 := G1.trans (hb2.mono G1.size)
  have X2 := X1.trans (hb2.mono X1.size)
  have z2 := G2.size
  simp only [World.size_alloc] at z2
  clear s1_0
  have s2_0 := B0.out _ G2
  clear s1_1
  have s2_1 := B1.out _ G2
  clear s1_2
  have s2_2 := B2.out _ G2
  clear s1_3
  have s2_3 := B3.out _ G2
  clear hb2
  cases q1
  ·go_wp2
   go_ret
   exact ⟨by rw [HV.out]; rfl, X2⟩
  ·skip
   go_wp2_with fail
   (with_reducible refine (K2.out _ G2).mono ?_)
   rintro e w3 ⟨rfl, hb3⟩
   have G3 := G2.trans (hb3.mono G2.size)
   have X3 := X2.trans (hb3.mono X2.size)
   have z3 := G3.size
   simp only [World.size_alloc] at z3
   clear s2_0
   have s3_0 := B0.out _ G3
   clear s2_1
   have s3_1 := B1.out _ G3
   clear s2_2
   have s3_2 := B2.out _ G3
   clear s2_3
   have s3_3 := B3.out _ G3
   clear hb3
   cases q2
   ·go_wp2
    go_ret
    exact ⟨by rw [HV.out]; rfl, X3⟩
   ·skip
    go_wp2_with fail
    (with_reducible refine (K3.out _ G3).mono ?_)
    rintro e w4 ⟨rfl, hb4⟩
    have G4 := G3.trans (hb4.mono G3.size)
    have X4 := X3.trans (hb4.mono X3.size)
    have z4 := G4.size
    simp only [World.size_alloc] at z4
    clear s3_0
    have s4_0 := B0.out _ G4
    clear s3_1
    have s4_1 := B1.out _ G4
    clear s3_2
    have s4_2 := B2.out _ G4
    clear s3_3
    have s4_3 := B3.out _ G4
    clear hb4
    cases q3
    ·go_wp2
     go_ret
     exact ⟨by rw [HV.out]; rfl, X4⟩
    ·go_wp2
     go_ret
     exact ⟨by rw [HV.out]; rfl, X4⟩
/-- The error of a catalog. -/
def codeOf (a b c d e : Bool) : Int := if a = false then 4 else if b = false then 6 else if c = false then 8 else if d = false then 1 else if e = false then 5 else 0
def codeC (m : CatM) : Int := codeOf (limC m) (fitB m) (diffC m) (wfC m) (rgC m)
set_option maxRecDepth 100000 in
set_option maxHeartbeats 2000000 in
theorem valid_cat {w : World} {m : CatM} (h : m.Ok w) (hT : Tab w) : Calls Tryz.prog 80 #[m.val] w fun e w' => e = .returned (.int .i64 (codeC m)) ∧ Below w.heap.size w w' := by
 obtain ⟨items, rules, tables, taxes, ⟨Ai, ni, ci⟩, ⟨Ar, nr, cr⟩, ⟨At, nt, ct⟩, ⟨Ax, nx, cx⟩⟩ := m
 have X0 : Below w.heap.size w (w.alloc (.cells #[.slice Ai ni ci, .slice Ar nr cr, .slice At nt ct, .slice Ax nx cx] 28)) := (Below.refl _ _).alloc (Nat.le_refl _) _
 have G0 := Below.refl (w.alloc (.cells #[.slice Ai ni ci, .slice Ar nr cr, .slice At nt ct, .slice Ax nx cx] 28)).heap.size (w.alloc (.cells #[.slice Ai ni ci, .slice Ar nr cr, .slice At nt ct, .slice Ax nx cx] 28))
 have K0 : Hid (∀ W, Below (w.alloc (.cells #[.slice Ai ni ci, .slice Ar nr cr, .slice At nt ct, .slice Ax nx cx] 28)).heap.size (w.alloc (.cells #[.slice Ai ni ci, .slice Ar nr cr, .slice At nt ct, .slice Ax nx cx] 28)) W → Calls Tryz.prog 100 #[.agg #[.slice Ai ni ci, .slice Ar nr cr, .slice At nt ct, .slice Ax nx cx]] W fun e w' => e = .returned (.bool (limC ⟨items, rules, tables, taxes, ⟨Ai, ni, ci⟩, ⟨Ar, nr, cr⟩, ⟨At, nt, ct⟩, ⟨Ax, nx, cx⟩⟩)) ∧ Below W.heap.size W w') := fun W hW => limC_any (m := ⟨items, rules, tables, taxes, ⟨Ai, ni, ci⟩, ⟨Ar, nr, cr⟩, ⟨At, nt, ct⟩, ⟨Ax, nx, cx⟩⟩) ((h.below X0).below hW)
 have K1 : Hid (∀ W, Below (w.alloc (.cells #[.slice Ai ni ci, .slice Ar nr cr, .slice At nt ct, .slice Ax nx cx] 28)).heap.size (w.alloc (.cells #[.slice Ai ni ci, .slice Ar nr cr, .slice At nt ct, .slice Ax nx cx] 28)) W → Calls Tryz.prog 101 #[.agg #[.slice Ai ni ci, .slice Ar nr cr, .slice At nt ct, .slice Ax nx cx]] W fun e w' => e = .returned (.bool (fitB ⟨items, rules, tables, taxes, ⟨Ai, ni, ci⟩, ⟨Ar, nr, cr⟩, ⟨At, nt, ct⟩, ⟨Ax, nx, cx⟩⟩)) ∧ Below W.heap.size W w') := fun W hW => fitC_any (m := ⟨items, rules, tables, taxes, ⟨Ai, ni, ci⟩, ⟨Ar, nr, cr⟩, ⟨At, nt, ct⟩, ⟨Ax, nx, cx⟩⟩) ((h.below X0).below hW) ((hT.below X0 hT.1).below hW (by simp))
 have K2 : Hid (∀ W, Below (w.alloc (.cells #[.slice Ai ni ci, .slice Ar nr cr, .slice At nt ct, .slice Ax nx cx] 28)).heap.size (w.alloc (.cells #[.slice Ai ni ci, .slice Ar nr cr, .slice At nt ct, .slice Ax nx cx] 28)) W → Calls Tryz.prog 102 #[.agg #[.slice Ai ni ci, .slice Ar nr cr, .slice At nt ct, .slice Ax nx cx]] W fun e w' => e = .returned (.bool (diffC ⟨items, rules, tables, taxes, ⟨Ai, ni, ci⟩, ⟨Ar, nr, cr⟩, ⟨At, nt, ct⟩, ⟨Ax, nx, cx⟩⟩)) ∧ Below W.heap.size W w') := fun W hW => diffC_any (m := ⟨items, rules, tables, taxes, ⟨Ai, ni, ci⟩, ⟨Ar, nr, cr⟩, ⟨At, nt, ct⟩, ⟨Ax, nx, cx⟩⟩) ((h.below X0).below hW)
 have K3 : Hid (∀ W, Below (w.alloc (.cells #[.slice Ai ni ci, .slice Ar nr cr, .slice At nt ct, .slice Ax nx cx] 28)).heap.size (w.alloc (.cells #[.slice Ai ni ci, .slice Ar nr cr, .slice At nt ct, .slice Ax nx cx] 28)) W → Calls Tryz.prog 103 #[.agg #[.slice Ai ni ci, .slice Ar nr cr, .slice At nt ct, .slice Ax nx cx]] W fun e w' => e = .returned (.bool (wfC ⟨items, rules, tables, taxes, ⟨Ai, ni, ci⟩, ⟨Ar, nr, cr⟩, ⟨At, nt, ct⟩, ⟨Ax, nx, cx⟩⟩)) ∧ Below W.heap.size W w') := fun W hW => wfC_any (m := ⟨items, rules, tables, taxes, ⟨Ai, ni, ci⟩, ⟨Ar, nr, cr⟩, ⟨At, nt, ct⟩, ⟨Ax, nx, cx⟩⟩) ((h.below X0).below hW)
 have K4 : Hid (∀ W, Below (w.alloc (.cells #[.slice Ai ni ci, .slice Ar nr cr, .slice At nt ct, .slice Ax nx cx] 28)).heap.size (w.alloc (.cells #[.slice Ai ni ci, .slice Ar nr cr, .slice At nt ct, .slice Ax nx cx] 28)) W → Calls Tryz.prog 104 #[.agg #[.slice Ai ni ci, .slice Ar nr cr, .slice At nt ct, .slice Ax nx cx]] W fun e w' => e = .returned (.bool (rgC ⟨items, rules, tables, taxes, ⟨Ai, ni, ci⟩, ⟨Ar, nr, cr⟩, ⟨At, nt, ct⟩, ⟨Ax, nx, cx⟩⟩)) ∧ Below W.heap.size W w') := fun W hW => rgC_any (m := ⟨items, rules, tables, taxes, ⟨Ai, ni, ci⟩, ⟨Ar, nr, cr⟩, ⟨At, nt, ct⟩, ⟨Ax, nx, cx⟩⟩) ((h.below X0).below hW)
 have B0 : Hid (∀ W, Below (w.alloc (.cells #[.slice Ai ni ci, .slice Ar nr cr, .slice At nt ct, .slice Ax nx cx] 28)).heap.size (w.alloc (.cells #[.slice Ai ni ci, .slice Ar nr cr, .slice At nt ct, .slice Ax nx cx] 28)) W → W.cell? ⟨w.heap.size, 0, none⟩ = some (.slice Ai ni ci)) := fun W hW => (hW.cell (p := ⟨w.heap.size, 0, none⟩) (by simp)).trans ((Bk.new w 28 [.slice Ai ni ci, .slice Ar nr cr, .slice At nt ct, .slice Ax nx cx]).cell 0)
 have B1 : Hid (∀ W, Below (w.alloc (.cells #[.slice Ai ni ci, .slice Ar nr cr, .slice At nt ct, .slice Ax nx cx] 28)).heap.size (w.alloc (.cells #[.slice Ai ni ci, .slice Ar nr cr, .slice At nt ct, .slice Ax nx cx] 28)) W → W.cell? ⟨w.heap.size, 1, none⟩ = some (.slice Ar nr cr)) := fun W hW => (hW.cell (p := ⟨w.heap.size, 1, none⟩) (by simp)).trans ((Bk.new w 28 [.slice Ai ni ci, .slice Ar nr cr, .slice At nt ct, .slice Ax nx cx]).cell 1)
 have B2 : Hid (∀ W, Below (w.alloc (.cells #[.slice Ai ni ci, .slice Ar nr cr, .slice At nt ct, .slice Ax nx cx] 28)).heap.size (w.alloc (.cells #[.slice Ai ni ci, .slice Ar nr cr, .slice At nt ct, .slice Ax nx cx] 28)) W → W.cell? ⟨w.heap.size, 2, none⟩ = some (.slice At nt ct)) := fun W hW => (hW.cell (p := ⟨w.heap.size, 2, none⟩) (by simp)).trans ((Bk.new w 28 [.slice Ai ni ci, .slice Ar nr cr, .slice At nt ct, .slice Ax nx cx]).cell 2)
 have B3 : Hid (∀ W, Below (w.alloc (.cells #[.slice Ai ni ci, .slice Ar nr cr, .slice At nt ct, .slice Ax nx cx] 28)).heap.size (w.alloc (.cells #[.slice Ai ni ci, .slice Ar nr cr, .slice At nt ct, .slice Ax nx cx] 28)) W → W.cell? ⟨w.heap.size, 3, none⟩ = some (.slice Ax nx cx)) := fun W hW => (hW.cell (p := ⟨w.heap.size, 3, none⟩) (by simp)).trans ((Bk.new w 28 [.slice Ai ni ci, .slice Ar nr cr, .slice At nt ct, .slice Ax nx cx]).cell 3)
 have HV : Hid (codeC ⟨items, rules, tables, taxes, ⟨Ai, ni, ci⟩, ⟨Ar, nr, cr⟩, ⟨At, nt, ct⟩, ⟨Ax, nx, cx⟩⟩ = codeOf (limC ⟨items, rules, tables, taxes, ⟨Ai, ni, ci⟩, ⟨Ar, nr, cr⟩, ⟨At, nt, ct⟩, ⟨Ax, nx, cx⟩⟩) (fitB ⟨items, rules, tables, taxes, ⟨Ai, ni, ci⟩, ⟨Ar, nr, cr⟩, ⟨At, nt, ct⟩, ⟨Ax, nx, cx⟩⟩) (diffC ⟨items, rules, tables, taxes, ⟨Ai, ni, ci⟩, ⟨Ar, nr, cr⟩, ⟨At, nt, ct⟩, ⟨Ax, nx, cx⟩⟩) (wfC ⟨items, rules, tables, taxes, ⟨Ai, ni, ci⟩, ⟨Ar, nr, cr⟩, ⟨At, nt, ct⟩, ⟨Ax, nx, cx⟩⟩) (rgC ⟨items, rules, tables, taxes, ⟨Ai, ni, ci⟩, ⟨Ar, nr, cr⟩, ⟨At, nt, ct⟩, ⟨Ax, nx, cx⟩⟩)) := rfl
 generalize codeC ⟨items, rules, tables, taxes, ⟨Ai, ni, ci⟩, ⟨Ar, nr, cr⟩, ⟨At, nt, ct⟩, ⟨Ax, nx, cx⟩⟩ = R at *
 generalize limC ⟨items, rules, tables, taxes, ⟨Ai, ni, ci⟩, ⟨Ar, nr, cr⟩, ⟨At, nt, ct⟩, ⟨Ax, nx, cx⟩⟩ = q0 at *
 generalize fitB ⟨items, rules, tables, taxes, ⟨Ai, ni, ci⟩, ⟨Ar, nr, cr⟩, ⟨At, nt, ct⟩, ⟨Ax, nx, cx⟩⟩ = q1 at *
 generalize diffC ⟨items, rules, tables, taxes, ⟨Ai, ni, ci⟩, ⟨Ar, nr, cr⟩, ⟨At, nt, ct⟩, ⟨Ax, nx, cx⟩⟩ = q2 at *
 generalize wfC ⟨items, rules, tables, taxes, ⟨Ai, ni, ci⟩, ⟨Ar, nr, cr⟩, ⟨At, nt, ct⟩, ⟨Ax, nx, cx⟩⟩ = q3 at *
 generalize rgC ⟨items, rules, tables, taxes, ⟨Ai, ni, ci⟩, ⟨Ar, nr, cr⟩, ⟨At, nt, ct⟩, ⟨Ax, nx, cx⟩⟩ = q4 at *
 clear h hT
 go_enter Tryz.func80, Tryz.ntmps80
 go_wp2_with fail
 (with_reducible refine (K0.out _ G0).mono ?_)
 rintro e w1 ⟨rfl, hb1⟩
 have G1 := G0.trans (hb1.mono G0.size)
 have X1 := X0.trans (hb1.mono X0.size)
 have s1_0 := B0.out _ G1
 have s1_1 := B1.out _ G1
 have s1_2 := B2.out _ G1
 have s1_3 := B3.out _ G1
 clear hb1
 cases q0
 ·go_wp2
  go_ret
  exact ⟨by rw [HV.out]; rfl, X1⟩
 ·skip
  go_wp2_with fail
  (with_reducible refine (K1.out _ G1).mono ?_)
  rintro e w2 ⟨rfl, hb2⟩
  have G2 := G1.trans (hb2.mono G1.size)
  have X2 := X1.trans (hb2.mono X1.size)
  clear s1_0
  have s2_0 := B0.out _ G2
  clear s1_1
  have s2_1 := B1.out _ G2
  clear s1_2
  have s2_2 := B2.out _ G2
  clear s1_3
  have s2_3 := B3.out _ G2
  clear hb2
  cases q1
  ·go_wp2
   go_ret
   exact ⟨by rw [HV.out]; rfl, X2⟩
  ·skip
   go_wp2_with fail
   (with_reducible refine (K2.out _ G2).mono ?_)
   rintro e w3 ⟨rfl, hb3⟩
   have G3 := G2.trans (hb3.mono G2.size)
   have X3 := X2.trans (hb3.mono X2.size)
   clear s2_0
   have s3_0 := B0.out _ G3
   clear s2_1
   have s3_1 := B1.out _ G3
   clear s2_2
   have s3_2 := B2.out _ G3
   clear s2_3
   have s3_3 := B3.out _ G3
   clear hb3
   cases q2
   ·go_wp2
    go_ret
    exact ⟨by rw [HV.out]; rfl, X3⟩
   ·skip
    go_wp2_with fail
    (with_reducible refine (K3.out _ G3).mono ?_)
    rintro e w4 ⟨rfl, hb4⟩
    have G4 := G3.trans (hb4.mono G3.size)
    have X4 := X3.trans (hb4.mono X3.size)
    clear s3_0
    have s4_0 := B0.out _ G4
    clear s3_1
    have s4_1 := B1.out _ G4
    clear s3_2
    have s4_2 := B2.out _ G4
    clear s3_3
    have s4_3 := B3.out _ G4
    clear hb4
    cases q3
    ·go_wp2
     go_ret
     exact ⟨by rw [HV.out]; rfl, X4⟩
    ·skip
     go_wp2_with fail
     (with_reducible refine (K4.out _ G4).mono ?_)
     rintro e w5 ⟨rfl, hb5⟩
     have G5 := G4.trans (hb5.mono G4.size)
     have X5 := X4.trans (hb5.mono X4.size)
     clear s4_0
     have s5_0 := B0.out _ G5
     clear s4_1
     have s5_1 := B1.out _ G5
     clear s4_2
     have s5_2 := B2.out _ G5
     clear s4_3
     have s5_3 := B3.out _ G5
     clear hb5
     cases q4
     ·go_wp2
      go_ret
      exact ⟨by rw [HV.out]; rfl, X5⟩
     ·go_wp2
      go_ret
      exact ⟨by rw [HV.out]; rfl, X5⟩
def codeBoth (a b : CatM) : Int := if codeC a ≠ 0 then codeC a else codeC b
set_option maxRecDepth 100000 in
set_option maxHeartbeats 1000000 in
theorem both_cat {w : World} {m m' : CatM} (h : m.Ok w) (h' : m'.Ok w) (hT : Tab w) : Calls Tryz.prog 43 #[m.val, m'.val] w fun e w' => e = .returned (.int .i64 (codeBoth m m')) ∧ Below w.heap.size w w' := by
 have HV : Hid (codeBoth m m' = if codeC m ≠ 0 then codeC m else codeC m') := rfl
 generalize codeBoth m m' = R at *
 have L0 : catSL m.si m.sr m.st m.sx = catSL m.si m.sr m.st m.sx := rfl
 have hb0 : Below w.heap.size w ((w.alloc (catSO m.si m.sr m.st m.sx)).alloc (catSO m'.si m'.sr m'.st m'.sx)) := ((Below.refl _ _).alloc (Nat.le_refl _) _).alloc (by simp) _
 have K0 := Lib.hid (valid_cat (h.below hb0) (hT.below hb0 hT.1))
 have H' := Lib.hid h'
 have HT := Lib.hid hT
 have hT1 := hT.1
 have HC : Hid (∃ q, codeC m = q) := ⟨_, rfl⟩
 generalize codeC m = q at *
 clear h h' hT HC L0
 go_enter Tryz.func43, Tryz.ntmps43
 go_wp2_with fail
 (with_reducible refine K0.out.mono ?_)
 rintro e w1 ⟨rfl, hb1⟩
 have kx := Bk.new (w.alloc (catSO m.si m.sr m.st m.sx)) 28 (catSL m'.si m'.sr m'.st m'.sx)
 rw [World.size_alloc] at kx
 have k1 : Bk w1 (w.heap.size + 1) 28 (catSL m'.si m'.sr m'.st m'.sx) := kx.below hb1 (by simp)
 have G1 : Below w.heap.size w w1 := hb0.trans (hb1.mono (by simp; omega))
 have s0 : w1.cell? ⟨w.heap.size + 1, 0, none⟩ = some (.slice m'.si.A m'.si.n m'.si.c) := k1.cell 0
 have s1 : w1.cell? ⟨w.heap.size + 1, 1, none⟩ = some (.slice m'.sr.A m'.sr.n m'.sr.c) := k1.cell 1
 have s2 : w1.cell? ⟨w.heap.size + 1, 2, none⟩ = some (.slice m'.st.A m'.st.n m'.st.c) := k1.cell 2
 have s3 : w1.cell? ⟨w.heap.size + 1, 3, none⟩ = some (.slice m'.sx.A m'.sx.n m'.sx.c) := k1.cell 3
 clear kx hb1 hb0 K0
 by_cases hq : q = 0
 ·subst hq
  go_wp2_with fail
  (with_reducible refine (valid_cat (H'.out.below G1) (HT.out.below G1 hT1)).mono ?_)
  rintro e w2 ⟨rfl, hb2⟩
  go_wp2
  go_ret
  exact ⟨by rw [HV.out]; rfl, G1.trans (hb2.mono G1.size)⟩
 ·have e1 : (q != 0) = true := by simpa using hq
  have HQ : Hid (R = q) := by show R = q; rw [HV.out, if_pos hq]
  clear hq HV
  go_wp2
  go_ret
  exact ⟨by rw [HQ.out]; rfl, G1⟩
abbrev SL := Sl × List P2
def lcells (l : List SL) : List Value := l.map fun p => Value.slice p.1.A p.1.n p.1.c
theorem lcells_app (l m : List SL) : lcells (l ++ m) = lcells l ++ lcells m := by simp [lcells]
@[simp] theorem lcells_length (l : List SL) : (lcells l).length = l.length := by simp [lcells]
def rlists (l : List RuM) : List SL := l.flatMap fun r => [(r.st, r.take), (r.sg, r.give), (r.sb, r.back)]
def wlists (l : List RwM) : List SL := l.map fun r => (r.sg, r.give)
def tlists (l : List TbM) : List SL := l.flatMap fun t => wlists t.rows
def listsOf (m : CatM) : List SL := rlists m.rules ++ tlists m.tables
theorem rlists_len (l : List RuM) : (rlists l).length = 3 * l.length := by
 induction l with
 | nil => rfl
 | cons x l ih => simp only [rlists, List.flatMap_cons, List.length_append, List.length_cons, List.length_nil] at ih ⊢; omega
theorem wlists_len (l : List RwM) : (wlists l).length = l.length := by simp [wlists]
theorem tlists_len (l : List TbM) (h : ∀ t ∈ l, t.rows.length ≤ 100000) : (tlists l).length ≤ 100000 * l.length := by
 induction l with
 | nil => simp [tlists]
 | cons x l ih =>
   have h1 := h x (by simp)
   have h2 := ih (fun t ht => h t (by simp [ht]))
   simp only [tlists, List.flatMap_cons, List.length_append, wlists_len, List.length_cons] at h2 ⊢
   omega
theorem rlists_snoc (l : List RuM) (k : Nat) (h : k < l.length) : lcells (rlists (l.take (k + 1))) = lcells (rlists (l.take k)) ++ [.slice l[k].st.A l[k].st.n l[k].st.c, .slice l[k].sg.A l[k].sg.n l[k].sg.c, .slice l[k].sb.A l[k].sb.n l[k].sb.c] := by
 rw [List.take_succ_eq_append_getElem h]
 simp only [rlists, lcells, List.flatMap_append, List.map_append, List.flatMap_cons, List.flatMap_nil, List.append_nil, List.map_cons, List.map_nil]
theorem wlists_snoc (l : List RwM) (k : Nat) (h : k < l.length) : lcells (wlists (l.take (k + 1))) = lcells (wlists (l.take k)) ++ [.slice l[k].sg.A l[k].sg.n l[k].sg.c] := by
 rw [List.take_succ_eq_append_getElem h]
 simp only [wlists, lcells, List.map_append, List.map_cons, List.map_nil]
theorem tlists_snoc (l : List TbM) (k : Nat) (h : k < l.length) : tlists (l.take (k + 1)) = tlists (l.take k) ++ wlists l[k].rows := by
 rw [List.take_succ_eq_append_getElem h]
 simp only [tlists, List.flatMap_append, List.flatMap_cons, List.flatMap_nil, List.append_nil]
theorem one3s (x y z : Sl) : ∀ u ∈ ([.slice x.A x.n x.c, .slice y.A y.n y.c, .slice z.A z.n z.c] : List Value), u.oneCell' = true := by
 intro u hu
 simp only [List.mem_cons, List.not_mem_nil, or_false] at hu
 rcases hu with rfl | rfl | rfl <;> rfl
theorem one1sl (x : Sl) : ∀ u ∈ ([.slice x.A x.n x.c] : List Value), u.oneCell' = true := by
 intro u hu
 simp only [List.mem_cons, List.not_mem_nil, or_false] at hu
 rcases hu with rfl; rfl
theorem info101 : (Tryz.prog.info? 101).map (fun i => (i.zero, i.size, i.bytes)) = some (some (.slice none 0 0), 1, 24) := by kernel_rfl
/-- What lists returns: the lists of amounts. -/
def ListsR (w : World) (m : CatM) (e : Ending) (w' : World) : Prop :=
 ∃ A c, e = .returned (.slice A (listsOf m).length c) ∧ Row w' w'.heap.size A (lcells (listsOf m)) ∧ Below w.heap.size w w'
set_option maxRecDepth 100000 in
set_option maxHeartbeats 4000000 in
theorem rlists_any {w : World} {m : CatM} (h : m.Ok w) : Calls Tryz.prog 94 #[m.val] w (ListsR w m) := by
 obtain ⟨items, rules, tables, taxes, ⟨Ai, ni, ci⟩, ⟨Ar, nr, cr⟩, ⟨At, nt, ct⟩, ⟨Ax, nx, cx⟩⟩ := m
 obtain ⟨i0, hi, hz0, hz1, hz2⟩ := info_parts info101
 have X0 : Below w.heap.size w (w.alloc (.cells #[.slice Ai ni ci, .slice Ar nr cr, .slice At nt ct, .slice Ax nx cx] 28)) := (Below.refl _ _).alloc (Nat.le_refl _) _
 have k0 : Bk (w.alloc (.cells #[.slice Ai ni ci, .slice Ar nr cr, .slice At nt ct, .slice Ax nx cx] 28)) w.heap.size 28 [.slice Ai ni ci, .slice Ar nr cr, .slice At nt ct, .slice Ax nx cx] := Bk.new w 28 _
 have HX := Lib.hid X0
 have HK0 := Lib.hid k0
 have H := Lib.hid (h.below X0)
 have Hn1 := Lib.hid h.rules.len
 have Hn2 := Lib.hid h.tables.len
 have sm1 := h.rules.small
 have sm2 := h.tables.small
 dsimp only at Hn1 Hn2 sm1 sm2
 have HTL : Hid (∀ k, (tlists (tables.take k)).length ≤ 100000 * k) := fun k => by
  refine Nat.le_trans (tlists_len _ (fun t ht => ?_)) (Nat.mul_le_mul_left _ (List.length_take_le _ _))
  have h1 := h.tables.each t (List.mem_of_mem_take ht)
  have h2 := h1.rows.len
  have h3 := h1.rows.small
  omega
 clear h k0 X0
 generalize hW0 : w.alloc (.cells #[.slice Ai ni ci, .slice Ar nr cr, .slice At nt ct, .slice Ax nx cx] 28) = W0 at H HX HK0
 go_enter Tryz.func94, Tryz.ntmps94
 go_wp2_with fail
 (try rw [hW0])
 clear hW0
 go_loopw [3, 4] (fun v i wr => ∃ k : Nat, k ≤ nr ∧ i = .int .i64 k ∧ wr.ownsRow W0.heap.size 101 1 v (3 * k) (lcells (rlists (rules.take k))) ∧ Below W0.heap.size W0 wr) (fun _ i _ => nr - (intOf i).toNat)
 case atStart => exact ⟨0, Nat.zero_le _, rfl, World.ownsRow_nil _ _ _ _, Below.refl _ _⟩
 case round =>
  obtain ⟨k, hk, rfl, hown, hb⟩ := hrel
  have hsz := hb.size
  have hk0 := HK0.out.lt
  have bx1 : wr.cell? ⟨w.heap.size, 1, none⟩ = some (.slice Ar nr cr) := (hb.cell (p := ⟨w.heap.size, 1, none⟩) hk0).trans (HK0.out.cell 1)
  have hwl : w.heap.size < wr.heap.size := Nat.lt_of_lt_of_le hk0 hsz
  by_cases hlt : k < nr
  ·have hkl : k < rules.length := by have := Hn1.out; omega
   have hAt := H.out.rules.at_ k hkl
   dsimp only at hAt
   obtain ⟨b, off, rfl, hbb, _, _, _, _, _, _, d6, d7, d8⟩ := hAt
   have HT := Lib.hid (rlists_snoc rules k hkl)
   generalize rules[k] = ru at *
   obtain ⟨_, _, _, _, _, _, _, _, _, s1, s2, s3⟩ := ru
   dsimp only at *
   clear hkl
   have HC : Hid (∀ U : World, Below W0.heap.size W0 U → U.cell? ⟨w.heap.size, 1, none⟩ = some (.slice (some ⟨b, off, none⟩) nr cr) ∧ U.cell? ⟨b, off + k * 9 + 6, none⟩ = some (.slice s1.A s1.n s1.c) ∧ U.cell? ⟨b, off + k * 9 + 7, none⟩ = some (.slice s2.A s2.n s2.c) ∧ U.cell? ⟨b, off + k * 9 + 8, none⟩ = some (.slice s3.A s3.n s3.c)) :=
    fun U hU => ⟨(hU.cell (p := ⟨w.heap.size, 1, none⟩) hk0).trans (HK0.out.cell 1), (hU.cell (p := ⟨b, _, none⟩) hbb).trans d6, (hU.cell (p := ⟨b, _, none⟩) hbb).trans d7, (hU.cell (p := ⟨b, _, none⟩) hbb).trans d8⟩
   have OWN : Hid ((wr.drew.alloc (.cells #[.slice s1.A s1.n s1.c, .slice s2.A s2.n s2.c, .slice s3.A s3.n s3.c] 101)).ownsRow W0.heap.size 101 1 u3 (3 * k) (lcells (rlists (rules.take k)))) := (hown.drew).alloc _
   have C1 := Lib.hid (new3 wr.drew 101 (.slice s1.A s1.n s1.c) (.slice s2.A s2.n s2.c) (.slice s3.A s3.n s3.c))
   have q0 : (0 : Int) ≤ (k : Int) := by omega
   have q1 : (k : Int) < (nr : Int) := by omega
   have B1 : Below W0.heap.size W0 (wr.drew.alloc (.cells #[.slice s1.A s1.n s1.c, .slice s2.A s2.n s2.c, .slice s3.A s3.n s3.c] 101)) := hb.drew.alloc hsz _
   have C3 : Hid (3 * k + 3 ≤ maxLen) := by show 3 * k + 3 ≤ maxLen; unfold maxLen; omega
   have C5 : Hid (W0.heap.size ≤ (wr.drew.alloc (.cells #[.slice s1.A s1.n s1.c, .slice s2.A s2.n s2.c, .slice s3.A s3.n s3.c] 101)).heap.size) := by show W0.heap.size ≤ _; simp; omega
   have C6 : Hid ((wr.drew.alloc (.cells #[.slice s1.A s1.n s1.c, .slice s2.A s2.n s2.c, .slice s3.A s3.n s3.c] 101)).heap.size = wr.heap.size + 1) := by show _ = _; simp
   clear hown d6 d7 d8
   go_wp2_with fail
   go_region_held3 (fun U => U.cell? ⟨w.heap.size, 1, none⟩ = some (.slice (some ⟨b, off, none⟩) nr cr) ∧ U.cell? ⟨b, off + k * 9 + 6, none⟩ = some (.slice s1.A s1.n s1.c) ∧ U.cell? ⟨b, off + k * 9 + 7, none⟩ = some (.slice s2.A s2.n s2.c) ∧ U.cell? ⟨b, off + k * 9 + 8, none⟩ = some (.slice s3.A s3.n s3.c)) (first | exact HC.out _ hb.drew | exact HC.out _ B1 | exact HC.out _ BN)
    ((refine step_append_lies _ (by rfl) (.tmp 14) (.tmp 33) 158 (by rfl) W0.heap.size 101 i0 (.slice none 0 0) 1 24 Tryz.underlying158 hi hz0 hz1 hz2 rfl (by decide) _ (3 * k) (lcells (rlists (rules.take k))) (by rfl) OWN.out ⟨wr.heap.size, 0, none⟩ 3 3 [.slice s1.A s1.n s1.c, .slice s2.A s2.n s2.c, .slice s3.A s3.n s3.c] (by rfl) rfl C1.out (one3s s1 s2 s3) (by omega) C3.out (by omega) C5.out (wr.heap.size + 1) C6.out ?_; intro g' cap w3 hown hgr hat hlt3; have BN := B1.grown hgr C5.out (row_base OWN.out); have HO1 := Lib.hid hown; clear hown hgr hat))
   go_wp2
   go_roundw
   case rel => exact ⟨k + 1, by omega, by go_num, by rw [HT.out]; exact HO1.out, BN⟩
   case measure => simp [intOf]; omega
  ·obtain rfl : k = nr := by omega
   have hR : wr.ownsRow W0.heap.size 101 1 u3 (rlists rules).length (lcells (rlists rules)) := by
    have e := Hn1.out
    rw [List.take_of_length_le (by omega)] at hown
    rw [rlists_len, ← e]
    exact hown
   have hR2 : (rlists rules).length ≤ 300000 := by rw [rlists_len]; have := Hn1.out; omega
   have HR := Lib.hid hR
   obtain ⟨RL, hRL⟩ : ∃ RL, rlists rules = RL := ⟨_, rfl⟩
   rw [hRL] at HR hR2
   have HM : Hid (listsOf ⟨items, rules, tables, taxes, ⟨Ai, ni, ci⟩, ⟨Ar, k, cr⟩, ⟨At, nt, ct⟩, ⟨Ax, nx, cx⟩⟩ = RL ++ tlists tables) := by
    show rlists rules ++ tlists tables = _
    rw [hRL]
   clear hown hR hRL
   go_wp2_with fail
   clear bx1
   go_loopw [3, 5] (fun v i wx => ∃ k : Nat, k ≤ nt ∧ i = .int .i64 k ∧ wx.ownsRow W0.heap.size 101 1 v (RL ++ tlists (tables.take k)).length (lcells (RL ++ tlists (tables.take k))) ∧ Below W0.heap.size W0 wx) (fun _ i _ => nt - (intOf i).toNat)
   case atStart => exact ⟨0, Nat.zero_le _, rfl, by simpa [tlists] using HR.out, hb⟩
   case round =>
    clear HR hb hsz hwl
    obtain ⟨k, hk, rfl, hown, hb⟩ := hrel
    have hsz := hb.size
    have bx2 : wr.cell? ⟨w.heap.size, 2, none⟩ = some (.slice At nt ct) := (hb.cell (p := ⟨w.heap.size, 2, none⟩) hk0).trans (HK0.out.cell 2)
    have hwl : w.heap.size < wr.heap.size := Nat.lt_of_lt_of_le hk0 hsz
    have HO := Lib.hid hown
    clear hown
    by_cases hlt : k < nt
    ·have hkl : k < tables.length := by have := Hn2.out; omega
     have hAt := H.out.tables.at_ k hkl
     dsimp only at hAt
     obtain ⟨b, off, rfl, hbb, _, d1⟩ := hAt
     have HT := Lib.hid (tlists_snoc tables k hkl)
     have hrows := (H.out.tables.each _ (List.getElem_mem hkl)).rows
     have Hl := Lib.hid hrows.len
     have hls := hrows.small
     have Hrows := Lib.hid hrows
     have htl := HTL.out k
     clear hrows
     generalize tables[k] = tb at *
     clear hkl
     obtain ⟨tnm, rows, ⟨Aw, nw, cw⟩⟩ := tb
     dsimp only at *
     obtain ⟨PL, hPL⟩ : ∃ PL, RL ++ tlists (tables.take k) = PL := ⟨_, rfl⟩
     have HP2 : Hid (RL ++ tlists (tables.take (k + 1)) = PL ++ wlists rows) := by
      show _ = _
      rw [HT.out, ← List.append_assoc, hPL]
     rw [hPL] at HO
     have hpl : PL.length ≤ 300000 + 100000 * k := by rw [← hPL, List.length_append]; omega
     clear hPL HT htl
     obtain ⟨wo, hwo⟩ : ∃ wo : World, wr = wo := ⟨_, rfl⟩
     rw [hwo] at bx2 hwl hsz hb HO ⊢
     clear hwo
     go_wp2_with fail
     go_loopw [3, 6] (fun v i wx => ∃ j : Nat, j ≤ nw ∧ i = .int .i64 j ∧ wx.ownsRow W0.heap.size 101 1 v (PL.length + j) (lcells (PL ++ wlists (rows.take j))) ∧ Below W0.heap.size W0 wx) (fun _ i _ => nw - (intOf i).toNat)
     case atStart => exact ⟨0, Nat.zero_le _, rfl, by simpa [wlists] using HO.out, hb⟩
     case round =>
      clear HO hb hsz hwl bx2
      obtain ⟨j, hj, rfl, hown, hb⟩ := hrel
      have hsz := hb.size
      have bx2 : wr.cell? ⟨w.heap.size, 2, none⟩ = some (.slice (some ⟨b, off, none⟩) nt ct) := (hb.cell (p := ⟨w.heap.size, 2, none⟩) hk0).trans (HK0.out.cell 2)
      have e1 : wr.cell? ⟨b, off + k * 2 + 1, none⟩ = some (.slice Aw nw cw) := (hb.cell (p := ⟨b, _, none⟩) hbb).trans d1
      have hwl : w.heap.size < wr.heap.size := Nat.lt_of_lt_of_le hk0 hsz
      have hbl : b < wr.heap.size := Nat.lt_of_lt_of_le hbb hsz
      have HO := Lib.hid hown
      clear hown
      by_cases hltj : j < nw
      ·have hjl : j < rows.length := by have := Hl.out; omega
       have hAt := (Hrows.out.below hb).at_ j hjl
       dsimp only at hAt
       obtain ⟨b2, off2, rfl, hbb2, _, f1⟩ := hAt
       have HT := Lib.hid (wlists_snoc rows j hjl)
       generalize rows[j] = rw0 at *
       obtain ⟨_, _, s⟩ := rw0
       dsimp only at *
       clear hjl
       go_wp2_with (at_builtin; refine wpList_append_own_at _ rfl _ _ 158 rfl W0.heap.size 101 i0 (.slice none 0 0) 1 24 Tryz.underlying158 hi hz0 hz1 hz2 rfl (by decide) _ (PL.length + j) (lcells (PL ++ wlists (rows.take j))) rfl (HO.out.alloc _) ⟨wr.heap.size, 0, none⟩ 1 1 [.slice s.A s.n s.c] rfl rfl (new1 _ _ _) (one1sl _) (by unfold maxLen; omega) (by omega) (by simp; omega) ?_)
       intro v' w1 hown' hgrow _ _
       have hb1 : Below W0.heap.size W0 w1 := (hb.alloc hsz _).grown hgrow (by simp; omega) (row_base HO.out)
       have HO1 := Lib.hid hown'
       clear hown' hgrow
       go_wp2
       go_roundw
       case rel => exact ⟨j + 1, by omega, by go_num, by rw [lcells_app, HT.out, ← List.append_assoc, ← lcells_app]; exact HO1.out, hb1⟩
       case measure => simp [intOf]; omega
      ·obtain rfl : j = nw := by omega
       have hF : wr.ownsRow W0.heap.size 101 1 u3 (RL ++ tlists (tables.take (k + 1))).length (lcells (RL ++ tlists (tables.take (k + 1)))) := by
        have e := Hl.out
        have h1 := HO.out
        rw [List.take_of_length_le (by omega)] at h1
        rw [HP2.out, List.length_append, wlists_len, ← e]
        exact h1
       have HF := Lib.hid hF
       clear hF HO
       go_wp2
       go_roundw
       case rel => exact ⟨k + 1, by omega, by go_num, HF.out, hb⟩
       case measure => simp [intOf]; omega
    ·obtain rfl : k = nt := by omega
     have hF := HO.out
     rw [List.take_of_length_le (by have := Hn2.out; omega)] at hF
     obtain ⟨A, c, hv, hrow⟩ := row_of_owns hF
     rw [hv]
     clear hv HO hF
     have HRow := Lib.hid hrow
     clear hrow
     go_wp2
     go_ret
     exact ⟨A, c, by rw [HM.out]; rfl, by rw [HM.out]; exact HRow.out, HX.out.trans (hb.mono HX.out.size)⟩
end Go.Proofs.YthjfdfdgbpbanaaGreatDoor
