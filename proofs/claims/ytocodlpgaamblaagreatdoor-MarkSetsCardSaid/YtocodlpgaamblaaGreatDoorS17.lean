/- MarkSets. MarkSets: the walk. The arguments opened, the table of kinds. What a row's end wants: the tables, a world for the witness, five and six parameters opened and shut. -/
import Derived.Test.YtocodlpgaamblaaGreatDoorS1
import Derived.Test.YtocodlpgaamblaaGreatDoorS9
import Derived.Test.YtocodlpgaamblaaGreatDoorS15
import Derived.Test.YtocodlpgaamblaaGreatDoorS16
import Derived.RegionTactic
import Derived.StillTailTactics
import Derived.BigQuiet
import Derived.OrdersHeld
import Derived.Deep.MidRow
import Derived.Test.YtocodlpgaamblaaGreatDoorCards
import Derived.Test.YtocodlpgaamblaaGreatDoorTie
import Derived.WalkKit
import Derived.ProofKit
import Derived.OpenShut
import Derived.Deep.DeepHandedRow
import Derived.Lib.LaidTab
import Derived.LaidSub
set_option linter.unusedVariables false
set_option linter.unusedSimpArgs false
open Go.RowKit
namespace Go.Proofs.YtocodlpgaamblaaGreatDoor
theorem pair_ok {w : World} {A B : MkM} {P : Nat → Prop} (op : ByteArray) (hA : A.Ok w 49 P) (hB : B.Ok w 49 P) (hop : op.size ≤ 8192 := by decide) :
 MkM.Ok (w.alloc (.cells #[.string A.op, .int .i64 A.a, .int .i64 A.b, .slice A.s.A A.s.n A.s.c, .string B.op, .int .i64 B.a, .int .i64 B.b, .slice B.s.A B.s.n B.s.c] 49)) 49 (fun _ => True) ⟨op, 0, 0, [A, B], ⟨some ⟨w.heap.size, 0, none⟩, 2, 2⟩⟩ := by
 have y : Below w.heap.size w (w.alloc (.cells #[.string A.op, .int .i64 A.a, .int .i64 A.b, .slice A.s.A A.s.n A.s.c, .string B.op, .int .i64 B.a, .int .i64 B.b, .slice B.s.A B.s.n B.s.c] 49)) := (Below.refl _ _).alloc (Nat.le_refl _) _
 refine .mk _ _ _ _ _ (.inr ⟨w.heap.size, 0, _, (0, 0), rfl, trivial, Bk.new w 49 (mcells [A, B]), fun j u hu => by rw [Nat.zero_add]; simpa using hu⟩) rfl (show (2 : Nat) ≤ 100000 by decide) hop ⟨by decide, by decide⟩ ⟨by decide, by decide⟩ fun k hk => ?_
 rcases List.mem_cons.1 hk with rfl | hk
 ·exact (hA.bel y).any
 ·rw [List.mem_singleton.1 hk]; exact (hB.bel y).any
theorem neg_ok {w : World} {A : MkM} {P : Nat → Prop} (hA : A.Ok w 49 P) :
 MkM.Ok (w.alloc (.cells #[.string A.op, .int .i64 A.a, .int .i64 A.b, .slice A.s.A A.s.n A.s.c] 49)) 49 (fun _ => True) ⟨⟨#[110, 111, 116]⟩, 0, 0, [A], ⟨some ⟨w.heap.size, 0, none⟩, 1, 1⟩⟩ := by
 have y : Below w.heap.size w (w.alloc (.cells #[.string A.op, .int .i64 A.a, .int .i64 A.b, .slice A.s.A A.s.n A.s.c] 49)) := (Below.refl _ _).alloc (Nat.le_refl _) _
 refine .mk _ _ _ _ _ (PRow.one A trivial) rfl (show (1 : Nat) ≤ 100000 by decide) (by decide) ⟨by decide, by decide⟩ ⟨by decide, by decide⟩ fun k hk => ?_
 rw [List.mem_singleton.1 hk]; exact (hA.bel y).any
theorem StepsV.at_ {w : World} {s : Sl} {l : List StepM} (h : StepsV w s l) (k : Nat) (hk : k < l.length) : ∃ b off, s.A = some ⟨b, off, none⟩ ∧ b < w.heap.size ∧ ∀ r u, (l[k]).cells[r]? = some u → w.cell? ⟨b, off + k * 7 + r, none⟩ = some u :=
 TRow.at_ (f := StepM.cells) StepM.cells_len h.row k hk (by omega)
set_option maxRecDepth 100000 in
set_option maxHeartbeats 8000000 in
theorem sets_any {W : World} {A0 A1 A2 A3 : Option Addr} {n0 n1 n2 n3 : Nat} (c0 c1 c2 c3 : Nat) {z0 z1 z2 z3 : List Int} (h0 : IntsV W A0 n0 z0) (h1 : IntsV W A1 n1 z1) (h2 : IntsV W A2 n2 z2) (h3 : IntsV W A3 n3 z3)
 (f0 : ∀ b off, A0 = some ⟨b, off, none⟩ → b < W.heap.size) (f1 : ∀ b off, A1 = some ⟨b, off, none⟩ → b < W.heap.size) (f2 : ∀ b off, A2 = some ⟨b, off, none⟩ → b < W.heap.size) (f3 : ∀ b off, A3 = some ⟨b, off, none⟩ → b < W.heap.size) (hT : Tab W) (hP : TabP W) :
 Calls Tryz.prog 6 #[.slice A0 n0 c0, .slice A1 n1 c1, .slice A2 n2 c2, .slice A3 n3 c3] W fun e w' => e = .returned (.bool true) ∧ Below W.heap.size W w' := by
 have hneq := neqB
 have KC := Lib.hid (Catalog_g c0 h0 f0)
 have H1 := Lib.hid h1
 have H2' := Lib.hid h2
 have H3 := Lib.hid h3
 have F1 := Lib.hid f1
 have F2 := Lib.hid f2
 have F3 := Lib.hid f3
 have HTB := Lib.hid hT
 have HPB := Lib.hid hP
 clear h0 h1 h2 h3 f0 f1 f2 f3 hT hP
 go_enter Tryz.func6, Tryz.ntmps6
 go_wp2_with fail
 refine KC.out.mono ?_
 rintro e w1 ⟨m, rfl, hm, hsm, hb⟩
 have hsi : (1 : Int) ≤ m.si.n := by have := hm.items.len; have := hsm.items.1; omega
 have hsr : (1 : Int) ≤ m.sr.n := by have := hm.rules.len; have := hsm.rules.1; omega
 have hsi2 : (m.si.n : Int) ≤ 1000000 := by have := hm.items.small; omega
 have hsr2 : (m.sr.n : Int) ≤ 1000000 := by have := hm.rules.small; omega
 have yc : Below w1.heap.size w1 (w1.alloc (.cells #[.slice m.si.A m.si.n m.si.c, .slice m.sr.A m.sr.n m.sr.c, .slice m.st.A m.st.n m.st.c, .slice m.sx.A m.sx.n m.sx.c] 28)) := (Below.refl _ _).alloc (Nat.le_refl _) _
 have HB1 := Lib.hid (hb.trans (yc.mono hb.size))
 have HC1 := Lib.hid (Bk.new w1 28 [.slice m.si.A m.si.n m.si.c, .slice m.sr.A m.sr.n m.sr.c, .slice m.st.A m.st.n m.st.c, .slice m.sx.A m.sx.n m.sx.c])
 have HQ1 : Hid (w1.heap.size < (w1.alloc (.cells #[.slice m.si.A m.si.n m.si.c, .slice m.sr.A m.sr.n m.sr.c, .slice m.st.A m.st.n m.st.c, .slice m.sx.A m.sx.n m.sx.c] 28)).heap.size) := Lib.hid (by simp)
 have a0 : (w1.alloc (.cells #[.slice m.si.A m.si.n m.si.c, .slice m.sr.A m.sr.n m.sr.c, .slice m.st.A m.st.n m.st.c, .slice m.sx.A m.sx.n m.sx.c] 28)).cell? ⟨w1.heap.size, 0, none⟩ = some (.slice m.si.A m.si.n m.si.c) := HC1.out.cell 0
 have a1 : (w1.alloc (.cells #[.slice m.si.A m.si.n m.si.c, .slice m.sr.A m.sr.n m.sr.c, .slice m.st.A m.st.n m.st.c, .slice m.sx.A m.sx.n m.sx.c] 28)).cell? ⟨w1.heap.size, 1, none⟩ = some (.slice m.sr.A m.sr.n m.sr.c) := HC1.out.cell 1
 have a2 : (w1.alloc (.cells #[.slice m.si.A m.si.n m.si.c, .slice m.sr.A m.sr.n m.sr.c, .slice m.st.A m.st.n m.st.c, .slice m.sx.A m.sx.n m.sx.c] 28)).cell? ⟨w1.heap.size, 2, none⟩ = some (.slice m.st.A m.st.n m.st.c) := HC1.out.cell 2
 have a3 : (w1.alloc (.cells #[.slice m.si.A m.si.n m.si.c, .slice m.sr.A m.sr.n m.sr.c, .slice m.st.A m.st.n m.st.c, .slice m.sx.A m.sx.n m.sx.c] 28)).cell? ⟨w1.heap.size, 3, none⟩ = some (.slice m.sx.A m.sx.n m.sx.c) := HC1.out.cell 3
 have KM1 := Lib.hid (make_any (c := c1) (st := m.st) (sx := m.sx) hsi hsr hsi2 hsr2 (H1.out.below HB1.out) (fun b off e => Nat.lt_of_lt_of_le (F1.out b off e) HB1.out.size))
 clear KC hm hsm hb yc
 go_wp2_with fail
 refine KM1.out.mono ?_
 rintro e w2 ⟨M1, rfl, hok, -, -, hb⟩
 have KO1 := Lib.hid (own_any M1 w2 _ hok)
 have HB2 := Lib.hid (HB1.out.trans (hb.mono HB1.out.size))
 have HC2 := Lib.hid (HC1.out.below hb HC1.out.lt)
 clear KM1 hok hb a0 a1 a2 a3 HC1
 go_wp2_with fail
 refine KO1.out.mono ?_
 rintro e w3 ⟨Ma, rfl, -, hok, hb⟩
 have ya : Below w3.heap.size w3 (w3.alloc (.cells #[.string Ma.op, .int .i64 Ma.a, .int .i64 Ma.b, .slice Ma.s.A Ma.s.n Ma.s.c] 49)) := (Below.refl _ _).alloc (Nat.le_refl _) _
 have hba := hb.trans (ya.mono hb.size)
 have HB3 := Lib.hid (HB2.out.trans (hba.mono HB2.out.size))
 have HC3 := Lib.hid (HC2.out.below hba HC2.out.lt)
 have HA3 := Lib.hid (Bk.new w3 49 [.string Ma.op, .int .i64 Ma.a, .int .i64 Ma.b, .slice Ma.s.A Ma.s.n Ma.s.c])
 have HOA := Lib.hid ((hok.bel ya).any)
 have a0 : (w3.alloc (.cells #[.string Ma.op, .int .i64 Ma.a, .int .i64 Ma.b, .slice Ma.s.A Ma.s.n Ma.s.c] 49)).cell? ⟨w1.heap.size, 0, none⟩ = some (.slice m.si.A m.si.n m.si.c) := HC3.out.cell 0
 have a1 : (w3.alloc (.cells #[.string Ma.op, .int .i64 Ma.a, .int .i64 Ma.b, .slice Ma.s.A Ma.s.n Ma.s.c] 49)).cell? ⟨w1.heap.size, 1, none⟩ = some (.slice m.sr.A m.sr.n m.sr.c) := HC3.out.cell 1
 have a2 : (w3.alloc (.cells #[.string Ma.op, .int .i64 Ma.a, .int .i64 Ma.b, .slice Ma.s.A Ma.s.n Ma.s.c] 49)).cell? ⟨w1.heap.size, 2, none⟩ = some (.slice m.st.A m.st.n m.st.c) := HC3.out.cell 2
 have a3 : (w3.alloc (.cells #[.string Ma.op, .int .i64 Ma.a, .int .i64 Ma.b, .slice Ma.s.A Ma.s.n Ma.s.c] 49)).cell? ⟨w1.heap.size, 3, none⟩ = some (.slice m.sx.A m.sx.n m.sx.c) := HC3.out.cell 3
 have al := HC3.out.lt
 have KM2 := Lib.hid (make_any (c := c2) (st := m.st) (sx := m.sx) hsi hsr hsi2 hsr2 (H2'.out.below HB3.out) (fun b off e => Nat.lt_of_lt_of_le (F2.out b off e) HB3.out.size))
 clear KO1 hok hb ya hba HC2 HB2
 go_wp2_with fail
 refine KM2.out.mono ?_
 rintro e w4 ⟨M2, rfl, hok, -, -, hb⟩
 have KO2 := Lib.hid (own_any M2 w4 _ hok)
 have HB4 := Lib.hid (HB3.out.trans (hb.mono HB3.out.size))
 have HV4 := Lib.hid hb
 clear KM2 hok hb a0 a1 a2 a3 al HC3
 go_wp2_with fail
 refine KO2.out.mono ?_
 rintro e w5 ⟨Mb, rfl, -, hok, hb⟩
 have ya : Below w5.heap.size w5 (w5.alloc (.cells #[.string Mb.op, .int .i64 Mb.a, .int .i64 Mb.b, .slice Mb.s.A Mb.s.n Mb.s.c] 49)) := (Below.refl _ _).alloc (Nat.le_refl _) _
 have hba := hb.trans (ya.mono hb.size)
 have hv5 := HV4.out.trans (hba.mono HV4.out.size)
 have HB5 := Lib.hid (HB4.out.trans (hba.mono HB4.out.size))
 have HA5 := Lib.hid (HA3.out.below hv5 HA3.out.lt)
 have HOA5 := Lib.hid (HOA.out.bel hv5)
 have HM5 := Lib.hid (Bk.new w5 49 [.string Mb.op, .int .i64 Mb.a, .int .i64 Mb.b, .slice Mb.s.A Mb.s.n Mb.s.c])
 have HOB5 := Lib.hid ((hok.bel ya).any)
 have KL := Lib.hid (list_any (c := c3) (H3.out.below HB5.out) (fun b off e => Nat.lt_of_lt_of_le (F3.out b off e) HB5.out.size))
 clear KO2 hok hb ya hba hv5 HB4 HV4 HA3 HOA
 go_wp2_with fail
 refine KL.out.mono ?_
 rintro e w6 ⟨s, l, rfl, hsv, hb⟩
 have HB6 := Lib.hid (HB5.out.trans (hb.mono HB5.out.size))
 have HA6 := Lib.hid (HA5.out.below hb HA5.out.lt)
 have HM6 := Lib.hid (HM5.out.below hb HM5.out.lt)
 have HOA6 := Lib.hid (HOA5.out.bel hb)
 have HOB6 := Lib.hid (HOB5.out.bel hb)
 have HSV := Lib.hid hsv
 have H2 : Hid (∀ X, Below w6.heap.size w6 X → Ma.Ok X 49 (fun _ => True) ∧ Mb.Ok X 49 (fun _ => True)) := Lib.hid fun X hX => ⟨HOA6.out.bel hX, HOB6.out.bel hX⟩
 obtain ⟨qa, hqa⟩ : ∃ q, w3.heap.size = q := ⟨_, rfl⟩
 obtain ⟨qb, hqb⟩ : ∃ q, w5.heap.size = q := ⟨_, rfl⟩
 rw [hqa] at HA6
 rw [hqb] at HM6
 obtain ⟨As, ns, cs⟩ := s
 try simp only [hqa, hqb]
 have HQA := Lib.hid hqa
 have HQB := Lib.hid hqb
 clear KL hsv hb HB5 HA5 HM5 HOA5 HOB5 hqa hqb
 go_wp2_with fail
 go_loopw [13] (fun i wr => ∃ k : Nat, k ≤ ns ∧ i = .int .i64 k ∧ Below w6.heap.size w6 wr) (fun i _ => ns - (intOf i).toNat)
 case atStart => exact ⟨0, Nat.zero_le _, rfl, Below.refl _ _⟩
 case round =>
  obtain ⟨k, hk, rfl, hbl⟩ := hrel
  have HD := Lib.hid hbl
  clear hbl
  have hs100 : ns ≤ 100 := HSV.out.small
  by_cases hlt : k < ns
  ·have hkl : k < l.length := by have := HSV.out.len; dsimp only at this; omega
   obtain ⟨bb, off, hA, hbb, hcl⟩ := HSV.out.at_ k hkl
   dsimp only at hA
   subst hA
   have HT : Hid (∀ X, Below w6.heap.size w6 X → (l[k]).Ok X) := Lib.hid fun X hX => (HSV.out.each _ (List.getElem_mem hkl)).below hX
   have HS : Hid (∀ X, Below w6.heap.size w6 X → (Bk X qa 49 [.string Ma.op, .int .i64 Ma.a, .int .i64 Ma.b, .slice Ma.s.A Ma.s.n Ma.s.c] ∧ Bk X qb 49 [.string Mb.op, .int .i64 Mb.a, .int .i64 Mb.b, .slice Mb.s.A Mb.s.n Mb.s.c]) ∧ ((∀ r u, (l[k]).cells[r]? = some u → X.cell? ⟨bb, off + k * 7 + r, none⟩ = some u) ∧ bb < X.heap.size)) := Lib.hid fun X hX =>
    ⟨⟨HA6.out.below hX HA6.out.lt, HM6.out.below hX HM6.out.lt⟩, fun r u hu => (hX.cell (p := ⟨bb, off + k * 7 + r, none⟩) hbb).trans (hcl r u hu), Nat.lt_of_lt_of_le hbb hX.size⟩
   clear hcl hbb
   generalize l[k] = t at *
   clear hkl
   have HMa : Hid (∀ X, Below w6.heap.size w6 X → Ma.Ok X 49 (fun _ => True)) := Lib.hid fun X hX => (H2.out X hX).1
   have HMb : Hid (∀ X, Below w6.heap.size w6 X → Mb.Ok X 49 (fun _ => True)) := Lib.hid fun X hX => (H2.out X hX).2
   go_wp2
   have HDd := Lib.hid HD.out.drew
   refine wp_region_X (fun w' => (Bk w' qa 49 [.string Ma.op, .int .i64 Ma.a, .int .i64 Ma.b, .slice Ma.s.A Ma.s.n Ma.s.c] ∧ Bk w' qb 49 [.string Mb.op, .int .i64 Mb.a, .int .i64 Mb.b, .slice Mb.s.A Mb.s.n Mb.s.c]) ∧ ((∀ r u, t.cells[r]? = some u → w'.cell? ⟨bb, off + k * 7 + r, none⟩ = some u) ∧ bb < w'.heap.size)) 7 (n := 7) rfl (by kernel_rfl) (HS.out _ HD.out.drew) (fun hS => ?_)
   refine X_takeU 0 (some 37) (v := ?_) (listed' := #[true, false, false, false, false, false, false]) rfl rfl rfl (by kernel_rfl) rfl (fun _ _ _ h => h) ⟨rfl, ?_⟩ hS ?_
   rotate_left
   ·intro w' hS'
    have e0 : w'.cell? ⟨qa, 0, none⟩ = some (.string Ma.op) := hS'.1.1.cell 0
    have e1 : w'.cell? ⟨qa, 1, none⟩ = some (.int .i64 Ma.a) := hS'.1.1.cell 1
    have e2 : w'.cell? ⟨qa, 2, none⟩ = some (.int .i64 Ma.b) := hS'.1.1.cell 2
    have e3 : w'.cell? ⟨qa, 3, none⟩ = some (.slice Ma.s.A Ma.s.n Ma.s.c) := hS'.1.1.cell 3
    have el := hS'.1.1.lt
    (go_simp; try with_reducible rfl)
   simp only [Act.put, List.setIfInBounds_toArray, List.set_cons_zero, List.set_cons_succ]
   refine X_takeU 1 (some 38) (v := ?_) (listed' := #[true, true, false, false, false, false, false]) rfl rfl rfl (by kernel_rfl) rfl (fun _ _ _ h => h) ⟨rfl, ?_⟩ hS ?_
   rotate_left
   ·intro w' hS'
    (go_simp; try with_reducible rfl)
   simp only [Act.put, List.setIfInBounds_toArray, List.set_cons_zero, List.set_cons_succ]
   refine X_takeU 2 (some 39) (v := ?_) (listed' := #[true, true, true, false, false, false, false]) rfl rfl rfl (by kernel_rfl) rfl (fun _ _ _ h => h) ⟨rfl, ?_⟩ hS ?_
   rotate_left
   ·intro w' hS'
    (go_simp; try with_reducible rfl)
   simp only [Act.put, List.setIfInBounds_toArray, List.set_cons_zero, List.set_cons_succ]
   refine X_takeU 3 (some 40) (v := ?_) (listed' := #[true, true, true, true, false, false, false]) rfl rfl rfl (by kernel_rfl) rfl (fun _ _ _ h => h) ⟨rfl, ?_⟩ hS ?_
   rotate_left
   ·intro w' hS'
    (go_simp; try with_reducible rfl)
   simp only [Act.put, List.setIfInBounds_toArray, List.set_cons_zero, List.set_cons_succ]
   refine X_takeU 4 (some 41) (v := ?_) (listed' := #[true, true, true, true, true, false, false]) rfl rfl rfl (by kernel_rfl) rfl (fun _ _ _ h => h) ⟨rfl, ?_⟩ hS ?_
   rotate_left
   ·intro w' hS'
    have e0 : w'.cell? ⟨bb, off + k * 7, none⟩ = some (.int .i64 t.id) := hS'.2.1 0 _ rfl
    have e1 : w'.cell? ⟨bb, off + k * 7 + 1, none⟩ = some (.int .i64 t.kind) := hS'.2.1 1 _ rfl
    have e2 : w'.cell? ⟨bb, off + k * 7 + 2, none⟩ = some (.int .i64 t.actor) := hS'.2.1 2 _ rfl
    have e3 : w'.cell? ⟨bb, off + k * 7 + 3, none⟩ = some (.int .i64 t.tick) := hS'.2.1 3 _ rfl
    have e4 : w'.cell? ⟨bb, off + k * 7 + 4, none⟩ = some (.int .i64 t.rule) := hS'.2.1 4 _ rfl
    have e5 : w'.cell? ⟨bb, off + k * 7 + 5, none⟩ = some (.int .i64 t.times) := hS'.2.1 5 _ rfl
    have e6 : w'.cell? ⟨bb, off + k * 7 + 6, none⟩ = some (.slice t.sm.A t.sm.n t.sm.c) := hS'.2.1 6 _ rfl
    have el := hS'.2.2
    (go_simp; try with_reducible rfl)
   simp only [Act.put, List.setIfInBounds_toArray, List.set_cons_zero, List.set_cons_succ]
   refine X_one 5 (listed' := #[true, true, true, true, true, true, false]) (by kernel_rfl) rfl rfl (fun K hK => ?_)
   go_simp
   have K := Lib.hid (matches_any t Ma _ _ (HMa.out _ HD.out.drew) (HT.out _ HDd.out))
   (with_reducible refine K.out.mono ?_)
   rintro e wa ⟨rfl, hb⟩
   have HDa := Lib.hid (HDd.out.trans (hb.mono HDd.out.size))
   refine hK _ _ (HS.out _ HDa.out) ?_
   clear hK K hb
   refine X_one 6 (listed' := #[true, true, true, true, true, true, true]) (by kernel_rfl) rfl rfl (fun K hK => ?_)
   go_simp
   refine hK _ _ (HS.out _ HDa.out) ?_
   clear hK
   refine X_done (by kernel_rfl) ?_
   clear hS
   go_wp2
   have HDad := Lib.hid HDa.out.drew
   refine wp_region_X (fun w' => (Bk w' qa 49 [.string Ma.op, .int .i64 Ma.a, .int .i64 Ma.b, .slice Ma.s.A Ma.s.n Ma.s.c] ∧ Bk w' qb 49 [.string Mb.op, .int .i64 Mb.a, .int .i64 Mb.b, .slice Mb.s.A Mb.s.n Mb.s.c]) ∧ ((∀ r u, t.cells[r]? = some u → w'.cell? ⟨bb, off + k * 7 + r, none⟩ = some u) ∧ bb < w'.heap.size)) 7 (n := 7) rfl (by kernel_rfl) (HS.out _ HDa.out.drew) (fun hS => ?_)
   refine X_takeU 0 (some 43) (v := ?_) (listed' := #[true, false, false, false, false, false, false]) rfl rfl rfl (by kernel_rfl) rfl (fun _ _ _ h => h) ⟨rfl, ?_⟩ hS ?_
   rotate_left
   ·intro w' hS'
    have e0 : w'.cell? ⟨qb, 0, none⟩ = some (.string Mb.op) := hS'.1.2.cell 0
    have e1 : w'.cell? ⟨qb, 1, none⟩ = some (.int .i64 Mb.a) := hS'.1.2.cell 1
    have e2 : w'.cell? ⟨qb, 2, none⟩ = some (.int .i64 Mb.b) := hS'.1.2.cell 2
    have e3 : w'.cell? ⟨qb, 3, none⟩ = some (.slice Mb.s.A Mb.s.n Mb.s.c) := hS'.1.2.cell 3
    have el := hS'.1.2.lt
    (go_simp; try with_reducible rfl)
   simp only [Act.put, List.setIfInBounds_toArray, List.set_cons_zero, List.set_cons_succ]
   refine X_takeU 1 (some 44) (v := ?_) (listed' := #[true, true, false, false, false, false, false]) rfl rfl rfl (by kernel_rfl) rfl (fun _ _ _ h => h) ⟨rfl, ?_⟩ hS ?_
   rotate_left
   ·intro w' hS'
    (go_simp; try with_reducible rfl)
   simp only [Act.put, List.setIfInBounds_toArray, List.set_cons_zero, List.set_cons_succ]
   refine X_takeU 2 (some 45) (v := ?_) (listed' := #[true, true, true, false, false, false, false]) rfl rfl rfl (by kernel_rfl) rfl (fun _ _ _ h => h) ⟨rfl, ?_⟩ hS ?_
   rotate_left
   ·intro w' hS'
    (go_simp; try with_reducible rfl)
   simp only [Act.put, List.setIfInBounds_toArray, List.set_cons_zero, List.set_cons_succ]
   refine X_takeU 3 (some 46) (v := ?_) (listed' := #[true, true, true, true, false, false, false]) rfl rfl rfl (by kernel_rfl) rfl (fun _ _ _ h => h) ⟨rfl, ?_⟩ hS ?_
   rotate_left
   ·intro w' hS'
    (go_simp; try with_reducible rfl)
   simp only [Act.put, List.setIfInBounds_toArray, List.set_cons_zero, List.set_cons_succ]
   refine X_takeU 4 (some 47) (v := ?_) (listed' := #[true, true, true, true, true, false, false]) rfl rfl rfl (by kernel_rfl) rfl (fun _ _ _ h => h) ⟨rfl, ?_⟩ hS ?_
   rotate_left
   ·intro w' hS'
    have e0 : w'.cell? ⟨bb, off + k * 7, none⟩ = some (.int .i64 t.id) := hS'.2.1 0 _ rfl
    have e1 : w'.cell? ⟨bb, off + k * 7 + 1, none⟩ = some (.int .i64 t.kind) := hS'.2.1 1 _ rfl
    have e2 : w'.cell? ⟨bb, off + k * 7 + 2, none⟩ = some (.int .i64 t.actor) := hS'.2.1 2 _ rfl
    have e3 : w'.cell? ⟨bb, off + k * 7 + 3, none⟩ = some (.int .i64 t.tick) := hS'.2.1 3 _ rfl
    have e4 : w'.cell? ⟨bb, off + k * 7 + 4, none⟩ = some (.int .i64 t.rule) := hS'.2.1 4 _ rfl
    have e5 : w'.cell? ⟨bb, off + k * 7 + 5, none⟩ = some (.int .i64 t.times) := hS'.2.1 5 _ rfl
    have e6 : w'.cell? ⟨bb, off + k * 7 + 6, none⟩ = some (.slice t.sm.A t.sm.n t.sm.c) := hS'.2.1 6 _ rfl
    have el := hS'.2.2
    (go_simp; try with_reducible rfl)
   simp only [Act.put, List.setIfInBounds_toArray, List.set_cons_zero, List.set_cons_succ]
   refine X_one 5 (listed' := #[true, true, true, true, true, true, false]) (by kernel_rfl) rfl rfl (fun K hK => ?_)
   go_simp
   have K := Lib.hid (matches_any t Mb _ _ (HMb.out _ HDa.out.drew) (HT.out _ HDad.out))
   (with_reducible refine K.out.mono ?_)
   rintro e wb ⟨rfl, hb⟩
   have HDb := Lib.hid (HDad.out.trans (hb.mono HDad.out.size))
   refine hK _ _ (HS.out _ HDb.out) ?_
   clear hK K hb
   refine X_one 6 (listed' := #[true, true, true, true, true, true, true]) (by kernel_rfl) rfl rfl (fun K hK => ?_)
   go_simp
   refine hK _ _ (HS.out _ HDb.out) ?_
   clear hK
   refine X_done (by kernel_rfl) ?_
   clear hS
   go_wp2
   refine wp_region_X (fun w' => (Bk w' qa 49 [.string Ma.op, .int .i64 Ma.a, .int .i64 Ma.b, .slice Ma.s.A Ma.s.n Ma.s.c] ∧ Bk w' qb 49 [.string Mb.op, .int .i64 Mb.a, .int .i64 Mb.b, .slice Mb.s.A Mb.s.n Mb.s.c]) ∧ ((∀ r u, t.cells[r]? = some u → w'.cell? ⟨bb, off + k * 7 + r, none⟩ = some u) ∧ bb < w'.heap.size)) 10 (n := 10) rfl (by kernel_rfl) (HS.out _ HDb.out.drew) (fun hS => ?_)
   refine X_takeU 0 (some 49) (v := ?_) (listed' := #[true, false, false, false, false, false, false, false, false, false]) rfl rfl rfl (by kernel_rfl) rfl (fun _ _ _ h => h) ⟨rfl, ?_⟩ hS ?_
   rotate_left
   ·intro w' hS'
    have e0 : w'.cell? ⟨qa, 0, none⟩ = some (.string Ma.op) := hS'.1.1.cell 0
    have e1 : w'.cell? ⟨qa, 1, none⟩ = some (.int .i64 Ma.a) := hS'.1.1.cell 1
    have e2 : w'.cell? ⟨qa, 2, none⟩ = some (.int .i64 Ma.b) := hS'.1.1.cell 2
    have e3 : w'.cell? ⟨qa, 3, none⟩ = some (.slice Ma.s.A Ma.s.n Ma.s.c) := hS'.1.1.cell 3
    have el := hS'.1.1.lt
    (go_simp; try with_reducible rfl)
   simp only [Act.put, List.setIfInBounds_toArray, List.set_cons_zero, List.set_cons_succ]
   refine X_takeU 1 (some 50) (v := ?_) (listed' := #[true, true, false, false, false, false, false, false, false, false]) rfl rfl rfl (by kernel_rfl) rfl (fun _ _ _ h => h) ⟨rfl, ?_⟩ hS ?_
   rotate_left
   ·intro w' hS'
    have e0 : w'.cell? ⟨qb, 0, none⟩ = some (.string Mb.op) := hS'.1.2.cell 0
    have e1 : w'.cell? ⟨qb, 1, none⟩ = some (.int .i64 Mb.a) := hS'.1.2.cell 1
    have e2 : w'.cell? ⟨qb, 2, none⟩ = some (.int .i64 Mb.b) := hS'.1.2.cell 2
    have e3 : w'.cell? ⟨qb, 3, none⟩ = some (.slice Mb.s.A Mb.s.n Mb.s.c) := hS'.1.2.cell 3
    have el := hS'.1.2.lt
    (go_simp; try with_reducible rfl)
   simp only [Act.put, List.setIfInBounds_toArray, List.set_cons_zero, List.set_cons_succ]
   refine X_takeU 4 (some 53) (v := ?_) (listed' := #[true, true, false, false, true, false, false, false, false, false]) rfl rfl rfl (by kernel_rfl) rfl (fun _ _ _ h => h) ⟨rfl, ?_⟩ hS ?_
   rotate_left
   ·intro w' hS'
    (go_simp; try with_reducible rfl)
   simp only [Act.put, List.setIfInBounds_toArray, List.set_cons_zero, List.set_cons_succ]
   refine X_takeU 5 (some 54) (v := ?_) (listed' := #[true, true, false, false, true, true, false, false, false, false]) rfl rfl rfl (by kernel_rfl) rfl (fun _ _ _ h => h) ⟨rfl, ?_⟩ hS ?_
   rotate_left
   ·intro w' hS'
    (go_simp; try with_reducible rfl)
   simp only [Act.put, List.setIfInBounds_toArray, List.set_cons_zero, List.set_cons_succ]
   refine X_takeU 6 (some 55) (v := ?_) (listed' := #[true, true, false, false, true, true, true, false, false, false]) rfl rfl rfl (by kernel_rfl) rfl (fun _ _ _ h => h) ⟨rfl, ?_⟩ hS ?_
   rotate_left
   ·intro w' hS'
    (go_simp; try with_reducible rfl)
   simp only [Act.put, List.setIfInBounds_toArray, List.set_cons_zero, List.set_cons_succ]
   refine X_takeU 7 (some 56) (v := ?_) (listed' := #[true, true, false, false, true, true, true, true, false, false]) rfl rfl rfl (by kernel_rfl) rfl (fun _ _ _ h => h) ⟨rfl, ?_⟩ hS ?_
   rotate_left
   ·intro w' hS'
    have e0 : w'.cell? ⟨bb, off + k * 7, none⟩ = some (.int .i64 t.id) := hS'.2.1 0 _ rfl
    have e1 : w'.cell? ⟨bb, off + k * 7 + 1, none⟩ = some (.int .i64 t.kind) := hS'.2.1 1 _ rfl
    have e2 : w'.cell? ⟨bb, off + k * 7 + 2, none⟩ = some (.int .i64 t.actor) := hS'.2.1 2 _ rfl
    have e3 : w'.cell? ⟨bb, off + k * 7 + 3, none⟩ = some (.int .i64 t.tick) := hS'.2.1 3 _ rfl
    have e4 : w'.cell? ⟨bb, off + k * 7 + 4, none⟩ = some (.int .i64 t.rule) := hS'.2.1 4 _ rfl
    have e5 : w'.cell? ⟨bb, off + k * 7 + 5, none⟩ = some (.int .i64 t.times) := hS'.2.1 5 _ rfl
    have e6 : w'.cell? ⟨bb, off + k * 7 + 6, none⟩ = some (.slice t.sm.A t.sm.n t.sm.c) := hS'.2.1 6 _ rfl
    have el := hS'.2.2
    (go_simp; try with_reducible rfl)
   simp only [Act.put, List.setIfInBounds_toArray, List.set_cons_zero, List.set_cons_succ]
   refine X_one 2 (listed' := #[true, true, true, false, true, true, true, true, false, false]) (by kernel_rfl) rfl rfl (fun K hK => ?_)
   go_simp
   have HDbe := Lib.hid ((HDb.out.alloc HDb.out.size (.cells #[.string Ma.op, .int .i64 Ma.a, .int .i64 Ma.b, .slice Ma.s.A Ma.s.n Ma.s.c, .string Mb.op, .int .i64 Mb.a, .int .i64 Mb.b, .slice Mb.s.A Mb.s.n Mb.s.c] 49)).drew)
   have HOK0 := Lib.hid (pair_ok ⟨#[97, 110, 100]⟩ (H2.out _ HDb.out).1 (H2.out _ HDb.out).2)
   have HOK := Lib.hid (HOK0.out.bel (Below.refl _ _).drew)
   refine hK _ _ (HS.out _ HDbe.out) ?_
   clear hK
   refine X_one 3 (listed' := #[true, true, true, true, true, true, true, true, false, false]) (by kernel_rfl) rfl rfl (fun K hK => ?_)
   go_simp
   refine hK _ _ (HS.out _ HDbe.out) ?_
   clear hK
   refine X_one 8 (listed' := #[true, true, true, true, true, true, true, true, true, false]) (by kernel_rfl) rfl rfl (fun K hK => ?_)
   go_simp
   have K : Hid (Calls Tryz.prog 23 #[.agg #[.string ⟨#[97, 110, 100]⟩, .int .i64 0, .int .i64 0, .slice (some ⟨wb.heap.size, 0, none⟩) 2 2], .agg #[.int .i64 t.id, .int .i64 t.kind, .int .i64 t.actor, .int .i64 t.tick, .int .i64 t.rule, .int .i64 t.times, .slice t.sm.A t.sm.n t.sm.c]] _ _) := Lib.hid (matches_any t ⟨⟨#[97, 110, 100]⟩, 0, 0, [Ma, Mb], ⟨some ⟨wb.heap.size, 0, none⟩, 2, 2⟩⟩ _ _ HOK.out (HT.out _ HDbe.out))
   (with_reducible refine K.out.mono ?_)
   rintro e wc ⟨rfl, hb⟩
   have HDc := Lib.hid (HDbe.out.trans (hb.mono HDbe.out.size))
   refine hK _ _ (HS.out _ HDc.out) ?_
   clear hK K hb
   refine X_one 9 (listed' := #[true, true, true, true, true, true, true, true, true, true]) (by kernel_rfl) rfl rfl (fun K hK => ?_)
   go_simp
   refine hK _ _ (HS.out _ HDc.out) ?_
   clear hK
   refine X_done (by kernel_rfl) ?_
   clear hS HOK HOK0
   go_wp2
   refine wp_region_X (fun w' => (Bk w' qa 49 [.string Ma.op, .int .i64 Ma.a, .int .i64 Ma.b, .slice Ma.s.A Ma.s.n Ma.s.c] ∧ Bk w' qb 49 [.string Mb.op, .int .i64 Mb.a, .int .i64 Mb.b, .slice Mb.s.A Mb.s.n Mb.s.c]) ∧ ((∀ r u, t.cells[r]? = some u → w'.cell? ⟨bb, off + k * 7 + r, none⟩ = some u) ∧ bb < w'.heap.size)) 10 (n := 10) rfl (by kernel_rfl) (HS.out _ HDc.out.drew) (fun hS => ?_)
   refine X_takeU 0 (some 58) (v := ?_) (listed' := #[true, false, false, false, false, false, false, false, false, false]) rfl rfl rfl (by kernel_rfl) rfl (fun _ _ _ h => h) ⟨rfl, ?_⟩ hS ?_
   rotate_left
   ·intro w' hS'
    have e0 : w'.cell? ⟨qa, 0, none⟩ = some (.string Ma.op) := hS'.1.1.cell 0
    have e1 : w'.cell? ⟨qa, 1, none⟩ = some (.int .i64 Ma.a) := hS'.1.1.cell 1
    have e2 : w'.cell? ⟨qa, 2, none⟩ = some (.int .i64 Ma.b) := hS'.1.1.cell 2
    have e3 : w'.cell? ⟨qa, 3, none⟩ = some (.slice Ma.s.A Ma.s.n Ma.s.c) := hS'.1.1.cell 3
    have el := hS'.1.1.lt
    (go_simp; try with_reducible rfl)
   simp only [Act.put, List.setIfInBounds_toArray, List.set_cons_zero, List.set_cons_succ]
   refine X_takeU 1 (some 59) (v := ?_) (listed' := #[true, true, false, false, false, false, false, false, false, false]) rfl rfl rfl (by kernel_rfl) rfl (fun _ _ _ h => h) ⟨rfl, ?_⟩ hS ?_
   rotate_left
   ·intro w' hS'
    have e0 : w'.cell? ⟨qb, 0, none⟩ = some (.string Mb.op) := hS'.1.2.cell 0
    have e1 : w'.cell? ⟨qb, 1, none⟩ = some (.int .i64 Mb.a) := hS'.1.2.cell 1
    have e2 : w'.cell? ⟨qb, 2, none⟩ = some (.int .i64 Mb.b) := hS'.1.2.cell 2
    have e3 : w'.cell? ⟨qb, 3, none⟩ = some (.slice Mb.s.A Mb.s.n Mb.s.c) := hS'.1.2.cell 3
    have el := hS'.1.2.lt
    (go_simp; try with_reducible rfl)
   simp only [Act.put, List.setIfInBounds_toArray, List.set_cons_zero, List.set_cons_succ]
   refine X_takeU 4 (some 62) (v := ?_) (listed' := #[true, true, false, false, true, false, false, false, false, false]) rfl rfl rfl (by kernel_rfl) rfl (fun _ _ _ h => h) ⟨rfl, ?_⟩ hS ?_
   rotate_left
   ·intro w' hS'
    (go_simp; try with_reducible rfl)
   simp only [Act.put, List.setIfInBounds_toArray, List.set_cons_zero, List.set_cons_succ]
   refine X_takeU 5 (some 63) (v := ?_) (listed' := #[true, true, false, false, true, true, false, false, false, false]) rfl rfl rfl (by kernel_rfl) rfl (fun _ _ _ h => h) ⟨rfl, ?_⟩ hS ?_
   rotate_left
   ·intro w' hS'
    (go_simp; try with_reducible rfl)
   simp only [Act.put, List.setIfInBounds_toArray, List.set_cons_zero, List.set_cons_succ]
   refine X_takeU 6 (some 64) (v := ?_) (listed' := #[true, true, false, false, true, true, true, false, false, false]) rfl rfl rfl (by kernel_rfl) rfl (fun _ _ _ h => h) ⟨rfl, ?_⟩ hS ?_
   rotate_left
   ·intro w' hS'
    (go_simp; try with_reducible rfl)
   simp only [Act.put, List.setIfInBounds_toArray, List.set_cons_zero, List.set_cons_succ]
   refine X_takeU 7 (some 65) (v := ?_) (listed' := #[true, true, false, false, true, true, true, true, false, false]) rfl rfl rfl (by kernel_rfl) rfl (fun _ _ _ h => h) ⟨rfl, ?_⟩ hS ?_
   rotate_left
   ·intro w' hS'
    have e0 : w'.cell? ⟨bb, off + k * 7, none⟩ = some (.int .i64 t.id) := hS'.2.1 0 _ rfl
    have e1 : w'.cell? ⟨bb, off + k * 7 + 1, none⟩ = some (.int .i64 t.kind) := hS'.2.1 1 _ rfl
    have e2 : w'.cell? ⟨bb, off + k * 7 + 2, none⟩ = some (.int .i64 t.actor) := hS'.2.1 2 _ rfl
    have e3 : w'.cell? ⟨bb, off + k * 7 + 3, none⟩ = some (.int .i64 t.tick) := hS'.2.1 3 _ rfl
    have e4 : w'.cell? ⟨bb, off + k * 7 + 4, none⟩ = some (.int .i64 t.rule) := hS'.2.1 4 _ rfl
    have e5 : w'.cell? ⟨bb, off + k * 7 + 5, none⟩ = some (.int .i64 t.times) := hS'.2.1 5 _ rfl
    have e6 : w'.cell? ⟨bb, off + k * 7 + 6, none⟩ = some (.slice t.sm.A t.sm.n t.sm.c) := hS'.2.1 6 _ rfl
    have el := hS'.2.2
    (go_simp; try with_reducible rfl)
   simp only [Act.put, List.setIfInBounds_toArray, List.set_cons_zero, List.set_cons_succ]
   refine X_one 2 (listed' := #[true, true, true, false, true, true, true, true, false, false]) (by kernel_rfl) rfl rfl (fun K hK => ?_)
   go_simp
   have HDce := Lib.hid ((HDc.out.alloc HDc.out.size (.cells #[.string Ma.op, .int .i64 Ma.a, .int .i64 Ma.b, .slice Ma.s.A Ma.s.n Ma.s.c, .string Mb.op, .int .i64 Mb.a, .int .i64 Mb.b, .slice Mb.s.A Mb.s.n Mb.s.c] 49)).drew)
   have HOK0 := Lib.hid (pair_ok ⟨#[111, 114]⟩ (H2.out _ HDc.out).1 (H2.out _ HDc.out).2)
   have HOK := Lib.hid (HOK0.out.bel (Below.refl _ _).drew)
   refine hK _ _ (HS.out _ HDce.out) ?_
   clear hK
   refine X_one 3 (listed' := #[true, true, true, true, true, true, true, true, false, false]) (by kernel_rfl) rfl rfl (fun K hK => ?_)
   go_simp
   refine hK _ _ (HS.out _ HDce.out) ?_
   clear hK
   refine X_one 8 (listed' := #[true, true, true, true, true, true, true, true, true, false]) (by kernel_rfl) rfl rfl (fun K hK => ?_)
   go_simp
   have K : Hid (Calls Tryz.prog 23 #[.agg #[.string ⟨#[111, 114]⟩, .int .i64 0, .int .i64 0, .slice (some ⟨wc.heap.size, 0, none⟩) 2 2], .agg #[.int .i64 t.id, .int .i64 t.kind, .int .i64 t.actor, .int .i64 t.tick, .int .i64 t.rule, .int .i64 t.times, .slice t.sm.A t.sm.n t.sm.c]] _ _) := Lib.hid (matches_any t ⟨⟨#[111, 114]⟩, 0, 0, [Ma, Mb], ⟨some ⟨wc.heap.size, 0, none⟩, 2, 2⟩⟩ _ _ HOK.out (HT.out _ HDce.out))
   (with_reducible refine K.out.mono ?_)
   rintro e we ⟨rfl, hb⟩
   have HDe := Lib.hid (HDce.out.trans (hb.mono HDce.out.size))
   refine hK _ _ (HS.out _ HDe.out) ?_
   clear hK K hb
   refine X_one 9 (listed' := #[true, true, true, true, true, true, true, true, true, true]) (by kernel_rfl) rfl rfl (fun K hK => ?_)
   go_simp
   refine hK _ _ (HS.out _ HDe.out) ?_
   clear hK
   refine X_done (by kernel_rfl) ?_
   clear hS HOK HOK0
   go_wp2
   refine wp_region_X (fun w' => (Bk w' qa 49 [.string Ma.op, .int .i64 Ma.a, .int .i64 Ma.b, .slice Ma.s.A Ma.s.n Ma.s.c] ∧ Bk w' qb 49 [.string Mb.op, .int .i64 Mb.a, .int .i64 Mb.b, .slice Mb.s.A Mb.s.n Mb.s.c]) ∧ ((∀ r u, t.cells[r]? = some u → w'.cell? ⟨bb, off + k * 7 + r, none⟩ = some u) ∧ bb < w'.heap.size)) 12 (n := 12) rfl (by kernel_rfl) (HS.out _ HDe.out.drew) (fun hS => ?_)
   refine X_takeU 0 (some 67) (v := ?_) (listed' := #[true, false, false, false, false, false, false, false, false, false, false, false]) rfl rfl rfl (by kernel_rfl) rfl (fun _ _ _ h => h) ⟨rfl, ?_⟩ hS ?_
   rotate_left
   ·intro w' hS'
    have e0 : w'.cell? ⟨qa, 0, none⟩ = some (.string Ma.op) := hS'.1.1.cell 0
    have e1 : w'.cell? ⟨qa, 1, none⟩ = some (.int .i64 Ma.a) := hS'.1.1.cell 1
    have e2 : w'.cell? ⟨qa, 2, none⟩ = some (.int .i64 Ma.b) := hS'.1.1.cell 2
    have e3 : w'.cell? ⟨qa, 3, none⟩ = some (.slice Ma.s.A Ma.s.n Ma.s.c) := hS'.1.1.cell 3
    have el := hS'.1.1.lt
    (go_simp; try with_reducible rfl)
   simp only [Act.put, List.setIfInBounds_toArray, List.set_cons_zero, List.set_cons_succ]
   refine X_takeU 1 (some 68) (v := ?_) (listed' := #[true, true, false, false, false, false, false, false, false, false, false, false]) rfl rfl rfl (by kernel_rfl) rfl (fun _ _ _ h => h) ⟨rfl, ?_⟩ hS ?_
   rotate_left
   ·intro w' hS'
    have e0 : w'.cell? ⟨qb, 0, none⟩ = some (.string Mb.op) := hS'.1.2.cell 0
    have e1 : w'.cell? ⟨qb, 1, none⟩ = some (.int .i64 Mb.a) := hS'.1.2.cell 1
    have e2 : w'.cell? ⟨qb, 2, none⟩ = some (.int .i64 Mb.b) := hS'.1.2.cell 2
    have e3 : w'.cell? ⟨qb, 3, none⟩ = some (.slice Mb.s.A Mb.s.n Mb.s.c) := hS'.1.2.cell 3
    have el := hS'.1.2.lt
    (go_simp; try with_reducible rfl)
   simp only [Act.put, List.setIfInBounds_toArray, List.set_cons_zero, List.set_cons_succ]
   refine X_takeU 6 (some 73) (v := ?_) (listed' := #[true, true, false, false, false, false, true, false, false, false, false, false]) rfl rfl rfl (by kernel_rfl) rfl (fun _ _ _ h => h) ⟨rfl, ?_⟩ hS ?_
   rotate_left
   ·intro w' hS'
    (go_simp; try with_reducible rfl)
   simp only [Act.put, List.setIfInBounds_toArray, List.set_cons_zero, List.set_cons_succ]
   refine X_takeU 7 (some 74) (v := ?_) (listed' := #[true, true, false, false, false, false, true, true, false, false, false, false]) rfl rfl rfl (by kernel_rfl) rfl (fun _ _ _ h => h) ⟨rfl, ?_⟩ hS ?_
   rotate_left
   ·intro w' hS'
    (go_simp; try with_reducible rfl)
   simp only [Act.put, List.setIfInBounds_toArray, List.set_cons_zero, List.set_cons_succ]
   refine X_takeU 8 (some 75) (v := ?_) (listed' := #[true, true, false, false, false, false, true, true, true, false, false, false]) rfl rfl rfl (by kernel_rfl) rfl (fun _ _ _ h => h) ⟨rfl, ?_⟩ hS ?_
   rotate_left
   ·intro w' hS'
    (go_simp; try with_reducible rfl)
   simp only [Act.put, List.setIfInBounds_toArray, List.set_cons_zero, List.set_cons_succ]
   refine X_takeU 9 (some 76) (v := ?_) (listed' := #[true, true, false, false, false, false, true, true, true, true, false, false]) rfl rfl rfl (by kernel_rfl) rfl (fun _ _ _ h => h) ⟨rfl, ?_⟩ hS ?_
   rotate_left
   ·intro w' hS'
    have e0 : w'.cell? ⟨bb, off + k * 7, none⟩ = some (.int .i64 t.id) := hS'.2.1 0 _ rfl
    have e1 : w'.cell? ⟨bb, off + k * 7 + 1, none⟩ = some (.int .i64 t.kind) := hS'.2.1 1 _ rfl
    have e2 : w'.cell? ⟨bb, off + k * 7 + 2, none⟩ = some (.int .i64 t.actor) := hS'.2.1 2 _ rfl
    have e3 : w'.cell? ⟨bb, off + k * 7 + 3, none⟩ = some (.int .i64 t.tick) := hS'.2.1 3 _ rfl
    have e4 : w'.cell? ⟨bb, off + k * 7 + 4, none⟩ = some (.int .i64 t.rule) := hS'.2.1 4 _ rfl
    have e5 : w'.cell? ⟨bb, off + k * 7 + 5, none⟩ = some (.int .i64 t.times) := hS'.2.1 5 _ rfl
    have e6 : w'.cell? ⟨bb, off + k * 7 + 6, none⟩ = some (.slice t.sm.A t.sm.n t.sm.c) := hS'.2.1 6 _ rfl
    have el := hS'.2.2
    (go_simp; try with_reducible rfl)
   simp only [Act.put, List.setIfInBounds_toArray, List.set_cons_zero, List.set_cons_succ]
   refine X_one 2 (listed' := #[true, true, true, false, false, false, true, true, true, true, false, false]) (by kernel_rfl) rfl rfl (fun K hK => ?_)
   go_simp
   have HDee := Lib.hid ((HDe.out.alloc HDe.out.size (.cells #[.string Ma.op, .int .i64 Ma.a, .int .i64 Ma.b, .slice Ma.s.A Ma.s.n Ma.s.c, .string Mb.op, .int .i64 Mb.a, .int .i64 Mb.b, .slice Mb.s.A Mb.s.n Mb.s.c] 49)).drew)
   have HOK0 := Lib.hid (pair_ok ⟨#[111, 114]⟩ (H2.out _ HDe.out).1 (H2.out _ HDe.out).2)
   have HOK := Lib.hid (HOK0.out.bel (Below.refl _ _).drew)
   refine hK _ _ (HS.out _ HDee.out) ?_
   clear hK
   refine X_one 3 (listed' := #[true, true, true, true, false, false, true, true, true, true, false, false]) (by kernel_rfl) rfl rfl (fun K hK => ?_)
   go_simp
   refine hK _ _ (HS.out _ HDee.out) ?_
   clear hK
   refine X_one 4 (listed' := #[true, true, true, true, true, false, true, true, true, true, false, false]) (by kernel_rfl) rfl rfl (fun K hK => ?_)
   go_simp
   have HDef := Lib.hid (((HDe.out.alloc HDe.out.size (.cells #[.string Ma.op, .int .i64 Ma.a, .int .i64 Ma.b, .slice Ma.s.A Ma.s.n Ma.s.c, .string Mb.op, .int .i64 Mb.a, .int .i64 Mb.b, .slice Mb.s.A Mb.s.n Mb.s.c] 49)).alloc (Nat.le_trans HDe.out.size (by simp)) (.cells #[.string ⟨#[111, 114]⟩, .int .i64 0, .int .i64 0, .slice (some ⟨we.heap.size, 0, none⟩) 2 2] 49)).drew)
   have HOK2 : Hid (MkM.Ok (((we.alloc (.cells #[.string Ma.op, .int .i64 Ma.a, .int .i64 Ma.b, .slice Ma.s.A Ma.s.n Ma.s.c, .string Mb.op, .int .i64 Mb.a, .int .i64 Mb.b, .slice Mb.s.A Mb.s.n Mb.s.c] 49)).alloc (.cells #[.string ⟨#[111, 114]⟩, .int .i64 0, .int .i64 0, .slice (some ⟨we.heap.size, 0, none⟩) 2 2] 49)).drew) 49 (fun _ => True) ⟨⟨#[110, 111, 116]⟩, 0, 0, [⟨⟨#[111, 114]⟩, 0, 0, [Ma, Mb], ⟨some ⟨we.heap.size, 0, none⟩, 2, 2⟩⟩], ⟨some ⟨we.heap.size + 1, 0, none⟩, 1, 1⟩⟩) := by
    have h9 := (neg_ok HOK0.out).bel (Below.refl _ _).drew
    rw [World.size_alloc] at h9
    exact Lib.hid h9
   refine hK _ _ (HS.out _ HDef.out) ?_
   clear hK
   refine X_one 5 (listed' := #[true, true, true, true, true, true, true, true, true, true, false, false]) (by kernel_rfl) rfl rfl (fun K hK => ?_)
   go_simp
   refine hK _ _ (HS.out _ HDef.out) ?_
   clear hK
   refine X_one 10 (listed' := #[true, true, true, true, true, true, true, true, true, true, true, false]) (by kernel_rfl) rfl rfl (fun K hK => ?_)
   go_simp
   have K : Hid (Calls Tryz.prog 23 #[.agg #[.string ⟨#[110, 111, 116]⟩, .int .i64 0, .int .i64 0, .slice (some ⟨we.heap.size + 1, 0, none⟩) 1 1], .agg #[.int .i64 t.id, .int .i64 t.kind, .int .i64 t.actor, .int .i64 t.tick, .int .i64 t.rule, .int .i64 t.times, .slice t.sm.A t.sm.n t.sm.c]] _ _) := Lib.hid (matches_any t ⟨⟨#[110, 111, 116]⟩, 0, 0, [⟨⟨#[111, 114]⟩, 0, 0, [Ma, Mb], ⟨some ⟨we.heap.size, 0, none⟩, 2, 2⟩⟩], ⟨some ⟨we.heap.size + 1, 0, none⟩, 1, 1⟩⟩ _ _ HOK2.out (HT.out _ HDef.out))
   (with_reducible refine K.out.mono ?_)
   rintro e wf ⟨rfl, hb⟩
   have HDf := Lib.hid (HDef.out.trans (hb.mono HDef.out.size))
   refine hK _ _ (HS.out _ HDf.out) ?_
   clear hK K hb
   refine X_one 11 (listed' := #[true, true, true, true, true, true, true, true, true, true, true, true]) (by kernel_rfl) rfl rfl (fun K hK => ?_)
   go_simp
   refine hK _ _ (HS.out _ HDf.out) ?_
   clear hK
   refine X_done (by kernel_rfl) ?_
   clear hS HOK HOK0
   have v1 : ∀ s : Sl, (MkM.core ⟨⟨#[97, 110, 100]⟩, 0, 0, [Ma, Mb], s⟩).val (condV t) = (Ma.core.val (condV t) && Mb.core.val (condV t)) := fun s => by
    show (Mk.node nAnd 0 0 [Ma.core, Mb.core]).val (condV t) = _
    rw [val_and]; simp
   have v2 : ∀ s : Sl, (MkM.core ⟨⟨#[111, 114]⟩, 0, 0, [Ma, Mb], s⟩).val (condV t) = (Ma.core.val (condV t) || Mb.core.val (condV t)) := fun s => by
    show (Mk.node nOr 0 0 [Ma.core, Mb.core]).val (condV t) = _
    rw [val_or]; simp
   have v3 : ∀ s s' : Sl, (MkM.core ⟨⟨#[110, 111, 116]⟩, 0, 0, [⟨⟨#[111, 114]⟩, 0, 0, [Ma, Mb], s⟩], s'⟩).val (condV t) = !(Ma.core.val (condV t) || Mb.core.val (condV t)) := fun s s' => by
    show (Mk.node nNot 0 0 [Mk.node nOr 0 0 [Ma.core, Mb.core]]).val (condV t) = _
    rw [val_not]
    have := val_or 0 0 [Ma.core, Mb.core] (condV t)
    simp only [List.any_cons, List.any_nil, Bool.or_false] at this ⊢
    rw [this]
   simp only [v1, v2, v3]
   clear v1 v2 v3
   generalize Ma.core.val (condV t) = x at *
   generalize Mb.core.val (condV t) = y at *
   cases x <;> cases y
   all_goals
    simp only [Bool.and_self, Bool.or_self, Bool.and_true, Bool.true_and, Bool.and_false, Bool.false_and, Bool.or_true, Bool.true_or, Bool.or_false, Bool.false_or, Bool.not_true, Bool.not_false]
    go_wp2
    go_roundw
    case rel => exact ⟨k + 1, by omega, by go_num, HDf.out⟩
    case measure => simp [intOf]; omega
  ·have hkn : k = ns := by omega
   have KLV := Lib.hid (lives_any (HTB.out.below (HB6.out.trans (HD.out.mono HB6.out.size)) HTB.out.1) (HPB.out.below (HB6.out.trans (HD.out.mono HB6.out.size)) (by have := HTB.out.1; omega)))
   have HF := Lib.hid (HB6.out.trans (HD.out.mono HB6.out.size))
   clear hkn
   go_wp2_with fail
   refine KLV.out.mono ?_
   rintro e w9 ⟨rfl, hb⟩
   have HE := Lib.hid (HF.out.trans (hb.mono HF.out.size))
   clear KLV hb
   go_wp2
   go_ret
   exact ⟨rfl, HE.out⟩
section
open Go.ChangeAt Go.ChangeShapes Go.WideShapes
set_option linter.unusedVariables false
set_option linter.unusedSimpArgs false
section
theorem ownOff : ownKnob Tryz.prog.godebug = none := by kernel_rfl
theorem laidOutAll : laidOutB Tryz.prog = true := by kernel_rfl
theorem gKinds : Tryz.prog.globalNamed "worldmint/lexer.kinds" = some 1 := by kernel_rfl
theorem cellsInt : Tryz.prog.cellsOf 3 = 1 := by kernel_rfl
theorem hrec22 : Tryz.prog.readableRec 22 = true := by kernel_rfl
theorem hlt22 : 22 < Tryz.prog.types.size := of_decide_eq_true (by kernel_rfl)
theorem ints_opened {H : Type} {enc : TypeId × Value → H} {W : World} {A : Option Addr} {n c : Nat} {d : DataW H} {p : List MemPlace} (h : DataW.Trod enc Tryz.prog W 0 (fun _ => true) true 22 (.slice A n c) d p) : ∃ zs, IntsV W A n zs := by
 obtain ⟨fuel, hf⟩ := h
 rcases open_ints Tryz.underlying22 Tryz.underlying3 cellsInt hf with ⟨hcs, hx⟩ | ⟨a, len, cap, zs, hcs, _, hl, hm, hz, hx, hcell, hwz⟩
 ·change [Value.slice A n c] = _ at hcs
  obtain ⟨rfl, rfl, rfl⟩ : A = none ∧ n = 0 ∧ c = 0 := by simpa using hcs
  exact ⟨[], .inl rfl, rfl, fun z hz => by cases hz⟩
 ·change [Value.slice A n c] = _ at hcs
  obtain ⟨rfl, rfl, rfl⟩ : A = some a ∧ n = len ∧ c = cap := by simpa using hcs
  rw [if_pos rfl] at hz
  refine ⟨zs.take n, ?_, by simp; omega, fun z hz' => ?_⟩
  ·by_cases h0 : n = 0
   ·left; simp [ints, h0]
   ·right
    have hc0 := hcell 0 (by omega)
    have ha : a.add 0 = a := by simp [Addr.add]
    rw [ha] at hc0
    obtain ⟨b, off, sp⟩ := a
    cases sp with
    | some s => simp [World.cell?] at hc0; split at hc0 <;> simp at hc0
    | none =>
      have hb : b < W.heap.size := by
       rcases Nat.lt_or_ge b W.heap.size with h | h
       ·exact h
       ·simp [World.cell?, Array.getElem?_eq_none h] at hc0
      refine ⟨b, off, rfl, hb, fun j u hu => ?_⟩
      have hj : j < n ∧ j < zs.length := by
       have := (List.getElem?_eq_some_iff.1 hu).1
       simp [ints] at this; omega
      have hcj := hcell j hj.2
      have e1 : (⟨b, off, none⟩ : Addr).add j = ⟨b, off + j, none⟩ := by
       unfold Addr.add; split
       ·subst_vars; rfl
       ·rfl
      rw [e1] at hcj
      rw [hcj, ← hu]
      simp [ints, hj.1, hj.2]
  ·have := hwz z (List.mem_of_mem_take hz')
   have := bounds_i64 this
   omega
theorem kindsType : (Tryz.prog.globals[1]?).map (·.type) = some 222 := by kernel_rfl
theorem kindsU : Tryz.prog.underlying 222 = some (.array 128 5) := by kernel_rfl
theorem u8U : Tryz.prog.underlying 5 = some (.int .u8) := by kernel_rfl
theorem u8C : Tryz.prog.cellsOf 5 = 1 := by kernel_rfl
theorem kindsC : Tryz.prog.cellsOf 222 = 128 := by kernel_rfl
set_option maxRecDepth 100000 in
theorem table_of {W : World} (h : laidMetH Tryz.prog [("math/bits.deBruijn32tab", Rows.laid_math_bits_deBruijn32tab), ("math/bits.deBruijn64tab", Rows.laid_math_bits_deBruijn64tab), ("internal/strconv.uint64pow10", Rows.laid_internal_strconv_uint64pow10), ("worldmint/lexer.kinds", Rows.laid_worldmint_lexer_kinds)] W) : Tab W := by
 have h' := laidMetH.filter (fun x => x.1 == "worldmint/lexer.kinds") h
 have ht : Lib.TabIs Tryz.prog W "worldmint/lexer.kinds" .u8 kindL := Lib.tabIs_of_head (rest := []) gKinds kindsType kindsU u8U u8C kindsC h'
 have hc : ∀ i, i < 128 → W.cell? ⟨1, i, none⟩ = some (.int .u8 (kindOf i)) := fun i hi => by
  have := ht.cell gKinds i hi
  simpa [kindOf] using this
 refine ⟨?_, hc⟩
 have := hc 0 (by omega)
 rcases Nat.lt_or_ge 1 W.heap.size with h | h
 ·exact h
 ·simp [World.cell?, Array.getElem?_eq_none h] at this
end
end
section
open Go.ChangeAt Go.ChangeShapes Go.WideShapes
set_option maxRecDepth 100000 in
theorem far_opened {W : World} {base : Nat} {A : Option Addr} {n c : Nat} (h : Value.okWide Tryz.prog W .any base 22 (.slice A n c)) : ∀ b off, A = some ⟨b, off, none⟩ → b < W.heap.size := by
 intro b off e
 subst e
 simp only [Value.okWide, Tryz.underlying22, Cell.okWide, Cell.ok] at h
 obtain ⟨_, _, _, _, row, cells, hs, _⟩ := h
 rcases Nat.lt_or_ge b W.heap.size with h1 | h1
 ·exact h1
 ·exfalso
  simp [World.shape?, Array.getElem?_eq_none h1] at hs
theorem powType : (Tryz.prog.globals[0]?).map (·.type) = some 216 := by kernel_rfl
theorem powU : Tryz.prog.underlying 216 = some (.array 20 208) := by kernel_rfl
theorem u64U : Tryz.prog.underlying 208 = some (.int .u64) := by kernel_rfl
theorem u64C : Tryz.prog.cellsOf 208 = 1 := by kernel_rfl
theorem powC : Tryz.prog.cellsOf 216 = 20 := by kernel_rfl
set_option maxRecDepth 100000 in
theorem pow_of {W : World} (h : laidMetH Tryz.prog [("math/bits.deBruijn32tab", Rows.laid_math_bits_deBruijn32tab), ("math/bits.deBruijn64tab", Rows.laid_math_bits_deBruijn64tab), ("internal/strconv.uint64pow10", Rows.laid_internal_strconv_uint64pow10), ("worldmint/lexer.kinds", Rows.laid_worldmint_lexer_kinds)] W) : TabP W := by
 have h' := laidMetH.filter (fun x => x.1 == "internal/strconv.uint64pow10") h
 exact Lib.tabIs_of_head (rest := []) gPow powType powU u64U u64C powC h'
def litVals (d : DataW Unit) : List Value := match d with
 | .agg l => l.filterMap fun | .lit (.int k z) => some (Value.int k z) | _ => none
 | _ => []
def putL (xs : List Value) : Obj → Obj
 | .cells _ t frozen => .cells xs.toArray t frozen
 | o => o
/-- A world for the witness: the settled one, the tables holding what their initialisers lay. -/
noncomputable def laidW4 (os : Os) : World :=
 { World.holding Tryz.prog os ⟨#[], #[], []⟩ with heap := ((((World.holding Tryz.prog os ⟨#[], #[], []⟩).heap.modify 0 (putL (litVals Rows.laid_internal_strconv_uint64pow10))).modify 1 (putL (litVals Rows.laid_worldmint_lexer_kinds))).modify 2 (putL (litVals Rows.laid_math_bits_deBruijn32tab))).modify 3 (putL (litVals Rows.laid_math_bits_deBruijn64tab)) }
end
end Go.Proofs.YtocodlpgaamblaaGreatDoor
