/- What the example of the section reads as. The example of the section. -/
import Derived.Test.YtocodlpgaamblaaGreatDoorM7
import Derived.Test.YtocodlpgaamblaaGreatDoorM12
import Derived.Test.YtocodlpgaamblaaGreatDoorM14
import Derived.Test.YtocodlpgaamblaaGreatDoorM15
set_option linter.unusedVariables false
set_option linter.unusedSimpArgs false
open Go.RowKit
namespace Go.Proofs.YtocodlpgaamblaaGreatDoor
def gold : ByteArray := ⟨#[103, 111, 108, 100]⟩
def goldIt : It := ⟨gold, false, false, false, 0, 0, 0⟩
def text1 : ByteArray := ⟨#[107, 105, 110, 100, 32, 99, 114, 97, 102, 116, 32, 97, 110, 100, 32, 40, 97, 99, 116, 111, 114, 32, 55, 32, 111, 114, 32, 109, 111, 114, 101, 32, 49, 48, 48, 32, 103, 111, 108, 100, 41]⟩
def text2 : ByteArray := ⟨#[116, 105, 99, 107, 32, 57, 46, 46, 53]⟩
def text3 : ByteArray := ⟨#[107, 105, 110, 100, 32, 115, 109, 105, 116, 104]⟩
def text4 : ByteArray := ⟨#[110, 111, 116, 32, 107, 105, 110, 100, 32, 99, 114, 97, 102, 116, 32, 111, 114, 32, 110, 111, 116, 32, 97, 99, 116, 111, 114, 32, 55, 32, 97, 110, 100, 32, 110, 111, 116, 32, 109, 111, 114, 101, 32, 49, 48, 48, 32, 103, 111, 108, 100]⟩
def mark1 : Mk := .node sAnd 0 0 [.node sKind 4 0 [], .node sOr 0 0 [.node sActor 7 0 [], .node sMore 100 0 []]]
theorem lives1 (m : CatM) (hr : m.rules = []) (hi : m.items.map It.name = [gold]) : parseAll m text1 = .mark mark1 := by
 unfold parseAll; rw [hr, hi]; kernel_rfl
theorem lives2 (m : CatM) (hr : m.rules = []) (hi : m.items.map It.name = [gold]) : parseAll m text2 = .err 8 5 := by
 unfold parseAll; rw [hr, hi]; kernel_rfl
theorem lives3 (m : CatM) (hr : m.rules = []) (hi : m.items.map It.name = [gold]) : parseAll m text3 = .err 5 6 := by
 unfold parseAll; rw [hr, hi]; kernel_rfl
theorem lives4 : printE [] [gold] ((Mk.node sNot 0 0 [mark1]).norm false) = 0 := by kernel_rfl
theorem lives5 : printS [] [gold] ((Mk.node sNot 0 0 [mark1]).norm false) = text4 := by kernel_rfl
theorem lives6 (s : StepM) (h1 : s.kind = 4) (h2 : s.actor = 7) : mark1.val (condV s) = true := by
 unfold mark1; simp [Mk.val, Mk.allV, Mk.anyV, sAnd, sOr, condV, sKind, sActor, h1, h2]
theorem lText4 : text4.toList = [110, 111, 116, 32, 107, 105, 110, 100, 32, 99, 114, 97, 102, 116, 32, 111, 114, 32, 110, 111, 116, 32, 97, 99, 116, 111, 114, 32, 55, 32, 97, 110, 100, 32, 110, 111, 116, 32, 109, 111, 114, 101, 32, 49, 48, 48, 32, 103, 111, 108, 100] := by decide +kernel
theorem two_kids {M : MkM} {w : World} {P : Nat → Prop} (h : M.Ok w 49 P) (hc : M.core = mark1) : ∃ k0 k1 s, M = ⟨sAnd, 0, 0, [k0, k1], s⟩ ∧ s.n = 2 ∧ k0.a = 4 ∧ k1.op = sOr := by
 obtain ⟨op, a, b, ks, s⟩ := M
 have hl := h.len
 have hcore : MkM.core ⟨op, a, b, ks, s⟩ = .node op a b (ks.map MkM.core) := by simp [MkM.core, coreL_map]
 rw [hcore] at hc
 unfold mark1 at hc
 injection hc with h1 h2 h3 h4
 subst h1 h2 h3
 obtain ⟨k0, ks1, rfl, e0, h4⟩ := List.map_eq_cons_iff.1 h4
 obtain ⟨k1, ks2, rfl, e1, h4⟩ := List.map_eq_cons_iff.1 h4
 obtain rfl := List.map_eq_nil_iff.1 h4
 refine ⟨k0, k1, s, rfl, hl, ?_, ?_⟩
 ·cases k0; simp only [MkM.core, Mk.node.injEq] at e0; exact e0.2.1
 ·cases k1; simp only [MkM.core, Mk.node.injEq] at e1; exact e1.1
theorem gold_its (W : World) : ItsV (W.alloc (.cells #[.string ⟨#[103, 111, 108, 100]⟩, .bool false, .bool false, .bool false, .int .i64 0, .int .i64 0, .int .i64 0] 76)) ⟨some ⟨W.heap.size, 0, none⟩, 1, 1⟩ [goldIt] :=
 ⟨.inr ⟨W.heap.size, 0, _, (0, 0), rfl, Bk.new W 76 [.string ⟨#[103, 111, 108, 100]⟩, .bool false, .bool false, .bool false, .int .i64 0, .int .i64 0, .int .i64 0], fun j u hu => by rw [Nat.zero_add]; rw [show [goldIt].flatMap It.cells = [.string ⟨#[103, 111, 108, 100]⟩, .bool false, .bool false, .bool false, .int .i64 0, .int .i64 0, .int .i64 0] from rfl] at hu; simpa using hu⟩, rfl, (show (1 : Nat) ≤ 100000 by decide), by intro t ht; rw [List.mem_singleton.1 ht]; decide⟩
theorem nil_rules (W : World) : RulesV W sl0 [] := ⟨.inl rfl, rfl, (show (0 : Nat) ≤ 100000 by decide), by intro t ht; cases ht⟩
def stepV : StepM := ⟨0, 4, 7, 0, 0, 0, [], sl0⟩
theorem step_ok (W : World) : stepV.Ok W := ⟨⟨.inl rfl, rfl, (show (0 : Nat) ≤ 1000 by decide)⟩, ⟨by decide, by decide⟩, ⟨by decide, by decide⟩, ⟨by decide, by decide⟩, ⟨by decide, by decide⟩, ⟨by decide, by decide⟩⟩
set_option maxRecDepth 100000 in
set_option maxHeartbeats 4000000 in
theorem lives_any {W : World} (hT : Tab W) (hP : TabP W) : Calls Tryz.prog 15 #[] W fun e w' => e = .returned (.bool true) ∧ Below W.heap.size W w' := by
 have y0 : Below W.heap.size W ((W.alloc (.cells #[.string ⟨#[103, 111, 108, 100]⟩, .bool false, .bool false, .bool false, .int .i64 0, .int .i64 0, .int .i64 0] 76)).alloc (.cells #[.slice (some ⟨W.heap.size, 0, none⟩) 1 1, .slice none 0 0, .slice none 0 0, .slice none 0 0] 28)) := ((Below.refl _ _).alloc (Nat.le_refl _) _).alloc (by simp) _
 have hg1 : Below (W.alloc (.cells #[.string ⟨#[103, 111, 108, 100]⟩, .bool false, .bool false, .bool false, .int .i64 0, .int .i64 0, .int .i64 0] 76)).heap.size (W.alloc (.cells #[.string ⟨#[103, 111, 108, 100]⟩, .bool false, .bool false, .bool false, .int .i64 0, .int .i64 0, .int .i64 0] 76)) ((W.alloc (.cells #[.string ⟨#[103, 111, 108, 100]⟩, .bool false, .bool false, .bool false, .int .i64 0, .int .i64 0, .int .i64 0] 76)).alloc (.cells #[.slice (some ⟨W.heap.size, 0, none⟩) 1 1, .slice none 0 0, .slice none 0 0, .slice none 0 0] 28)) := (Below.refl _ _).alloc (Nat.le_refl _) _
 have HG := Lib.hid ((gold_its W).below hg1)
 have HCb0 : Hid (Bk ((W.alloc (.cells #[.string ⟨#[103, 111, 108, 100]⟩, .bool false, .bool false, .bool false, .int .i64 0, .int .i64 0, .int .i64 0] 76)).alloc (.cells #[.slice (some ⟨W.heap.size, 0, none⟩) 1 1, .slice none 0 0, .slice none 0 0, .slice none 0 0] 28)) (W.heap.size + 1) 28 [.slice (some ⟨W.heap.size, 0, none⟩) 1 1, .slice none 0 0, .slice none 0 0, .slice none 0 0]) := by
  have := Bk.new (W.alloc (.cells #[.string ⟨#[103, 111, 108, 100]⟩, .bool false, .bool false, .bool false, .int .i64 0, .int .i64 0, .int .i64 0] 76)) 28 [.slice (some ⟨W.heap.size, 0, none⟩) 1 1, .slice none 0 0, .slice none 0 0, .slice none 0 0]
  rw [World.size_alloc] at this
  exact Lib.hid this
 have HIT : Hid (∀ U, Below (((W.alloc (.cells #[.string ⟨#[103, 111, 108, 100]⟩, .bool false, .bool false, .bool false, .int .i64 0, .int .i64 0, .int .i64 0] 76)).alloc (.cells #[.slice (some ⟨W.heap.size, 0, none⟩) 1 1, .slice none 0 0, .slice none 0 0, .slice none 0 0] 28))).heap.size ((W.alloc (.cells #[.string ⟨#[103, 111, 108, 100]⟩, .bool false, .bool false, .bool false, .int .i64 0, .int .i64 0, .int .i64 0] 76)).alloc (.cells #[.slice (some ⟨W.heap.size, 0, none⟩) 1 1, .slice none 0 0, .slice none 0 0, .slice none 0 0] 28)) U → ItsV U ⟨some ⟨W.heap.size, 0, none⟩, 1, 1⟩ [goldIt]) := Lib.hid fun U hU => HG.out.below hU
 have HRU : Hid (∀ U : World, RulesV U sl0 []) := Lib.hid nil_rules
 have HT := Lib.hid (hT.below y0 hT.1)
 have HP := Lib.hid (hP.below y0 (by have := hT.1; omega))
 have HY0 := Lib.hid y0
 have K1 := Lib.hid (parse_any (m := (⟨[goldIt], [], [], [], ⟨some ⟨W.heap.size, 0, none⟩, 1, 1⟩, sl0, sl0, sl0⟩ : CatM)) text1 (by decide) (hT.below y0 hT.1) (HG.out) (nil_rules _))
 rw [lives1 (⟨[goldIt], [], [], [], ⟨some ⟨W.heap.size, 0, none⟩, 1, 1⟩, sl0, sl0, sl0⟩ : CatM) rfl rfl] at K1
 clear y0 hg1 hT hP
 go_enter Tryz.func15, Tryz.ntmps15
 go_wp2_with fail
 refine K1.out.mono ?_
 rintro e w1 ⟨M1, rfl, hc, hok, hb⟩
 obtain ⟨k0, k1, s, rfl, hn, ha0, ho1⟩ := two_kids hok hc
 obtain ⟨A, n, c⟩ := s
 dsimp only at hn
 subst hn
 dsimp only
 have HOK1 := Lib.hid hok
 have HC1 := Lib.hid hc
 have HMb : Hid (Bk (w1.alloc (.cells #[.string sAnd, .int .i64 0, .int .i64 0, .slice A 2 c] 49)) w1.heap.size 49 [.string sAnd, .int .i64 0, .int .i64 0, .slice A 2 c]) := Lib.hid (Bk.new w1 49 [.string sAnd, .int .i64 0, .int .i64 0, .slice A 2 c])
 have hby : Below w1.heap.size w1 (w1.alloc (.cells #[.string sAnd, .int .i64 0, .int .i64 0, .slice A 2 c] 49)) := (Below.refl _ _).alloc (Nat.le_refl _) _
 have HCb := Lib.hid ((HCb0.out.below hb HCb0.out.lt).alloc (.cells #[.string sAnd, .int .i64 0, .int .i64 0, .slice A 2 c] 49))
 have HZ1 := Lib.hid (hb.trans (hby.mono hb.size))
 have HDN : Hid (Below ((w1.alloc (.cells #[.string sAnd, .int .i64 0, .int .i64 0, .slice A 2 c] 49))).heap.size (w1.alloc (.cells #[.string sAnd, .int .i64 0, .int .i64 0, .slice A 2 c] 49)) (((w1.alloc (.cells #[.string sAnd, .int .i64 0, .int .i64 0, .slice A 2 c] 49)).alloc (.cells #[.string sAnd, .int .i64 0, .int .i64 0, .slice A 2 c] 49)).drew)) := Lib.hid ((Below.refl _ _).alloc (Nat.le_refl _) _).drew
 have HN : Hid (MkM.Ok (((w1.alloc (.cells #[.string sAnd, .int .i64 0, .int .i64 0, .slice A 2 c] 49)).alloc (.cells #[.string sAnd, .int .i64 0, .int .i64 0, .slice A 2 c] 49)).drew) 49 (fun _ => True) ⟨⟨#[110, 111, 116]⟩, 0, 0, [⟨sAnd, 0, 0, [k0, k1], ⟨A, 2, c⟩⟩], ⟨some ⟨w1.heap.size + 1, 0, none⟩, 1, 1⟩⟩) := by
  refine Lib.hid (.mk _ _ _ _ _ ?_ rfl (show (1 : Nat) ≤ 100000 by decide) (by decide) ⟨by decide, by decide⟩ ⟨by decide, by decide⟩ fun k hk => ?_)
  ·have := PRow.one (w := (w1.alloc (.cells #[.string sAnd, .int .i64 0, .int .i64 0, .slice A 2 c] 49))) (⟨sAnd, 0, 0, [k0, k1], ⟨A, 2, c⟩⟩ : MkM) (P := fun _ => True) trivial
   rw [World.size_alloc] at this
   exact this
  ·rw [List.mem_singleton.1 hk]
   exact ((hok.bel hby).bel HDN.out).any
 have HM1 := Lib.hid (hok.bel hby)
 clear hb hok hby K1 HCb0
 go_wp2
 refine wp_region_X (fun w' => Bk w' (W.heap.size + 1) 28 [.slice (some ⟨W.heap.size, 0, none⟩) 1 1, .slice none 0 0, .slice none 0 0, .slice none 0 0] ∧ Bk w' w1.heap.size 49 [.string sAnd, .int .i64 0, .int .i64 0, .slice A 2 c]) 11 (n := 11) rfl (by kernel_rfl) (⟨HCb.out.drew, HMb.out.drew⟩) (fun hS => ?_)
 refine X_takeU 0 (some 23) (v := ?_) (listed' := #[true, false, false, false, false, false, false, false, false, false, false]) rfl rfl rfl (by kernel_rfl) rfl (fun _ _ _ h => h) ⟨rfl, ?_⟩ hS ?_
 rotate_left
 ·intro w' hS'
  have e0 : w'.cell? ⟨W.heap.size + 1, 0, none⟩ = some (.slice (some ⟨W.heap.size, 0, none⟩) 1 1) := hS'.1.cell 0
  have e1 : w'.cell? ⟨W.heap.size + 1, 1, none⟩ = some (.slice none 0 0) := hS'.1.cell 1
  have e2 : w'.cell? ⟨W.heap.size + 1, 2, none⟩ = some (.slice none 0 0) := hS'.1.cell 2
  have e3 : w'.cell? ⟨W.heap.size + 1, 3, none⟩ = some (.slice none 0 0) := hS'.1.cell 3
  have el := hS'.1.lt
  (go_simp; try with_reducible rfl)
 simp only [Act.put, List.setIfInBounds_toArray, List.set_cons_zero, List.set_cons_succ]
 refine X_takeU 1 (some 24) (v := ?_) (listed' := #[true, true, false, false, false, false, false, false, false, false, false]) rfl rfl rfl (by kernel_rfl) rfl (fun _ _ _ h => h) ⟨rfl, ?_⟩ hS ?_
 rotate_left
 ·intro w' hS'
  have e0 : w'.cell? ⟨w1.heap.size, 0, none⟩ = some (.string sAnd) := hS'.2.cell 0
  have e1 : w'.cell? ⟨w1.heap.size, 1, none⟩ = some (.int .i64 0) := hS'.2.cell 1
  have e2 : w'.cell? ⟨w1.heap.size, 2, none⟩ = some (.int .i64 0) := hS'.2.cell 2
  have e3 : w'.cell? ⟨w1.heap.size, 3, none⟩ = some (.slice A 2 c) := hS'.2.cell 3
  have el := hS'.2.lt
  (go_simp; try with_reducible rfl)
 simp only [Act.put, List.setIfInBounds_toArray, List.set_cons_zero, List.set_cons_succ]
 refine X_one 2 (listed' := #[true, true, true, false, false, false, false, false, false, false, false]) (by kernel_rfl) rfl rfl (fun K hK => ?_)
 go_simp
 refine hK _ _ ⟨HCb.out.drew.alloc _, HMb.out.drew.alloc _⟩ ?_
 clear hK
 refine X_one 3 (listed' := #[true, true, true, true, false, false, false, false, false, false, false]) (by kernel_rfl) rfl rfl (fun K hK => ?_)
 go_simp
 refine hK _ _ ⟨HCb.out.drew.alloc _, HMb.out.drew.alloc _⟩ ?_
 clear hK
 refine X_one 4 (listed' := #[true, true, true, true, true, false, false, false, false, false, false]) (by kernel_rfl) rfl rfl (fun K hK => ?_)
 go_simp
 have K : Hid (Calls Tryz.prog 28 #[.agg #[.string ⟨#[110, 111, 116]⟩, .int .i64 0, .int .i64 0, .slice (some ⟨w1.heap.size + 1, 0, none⟩) 1 1]] _ _) := Lib.hid (normalM_any ⟨⟨#[110, 111, 116]⟩, 0, 0, [⟨sAnd, 0, 0, [k0, k1], ⟨A, 2, c⟩⟩], ⟨some ⟨w1.heap.size + 1, 0, none⟩, 1, 1⟩⟩ _ _ HN.out)
 (with_reducible refine K.out.mono ?_)
 rintro e w2 ⟨M2, rfl, hcore, hok, hb⟩
 have hgo := HDN.out.trans (hb.mono HDN.out.size)
 have HCb2 := Lib.hid (HCb.out.below hgo HCb.out.lt)
 have HMb2 := Lib.hid (HMb.out.below hgo HMb.out.lt)
 have HZ2 := Lib.hid (HZ1.out.trans (hgo.mono HZ1.out.size))
 have HV2 := Lib.hid hgo
 have HM2 := Lib.hid hok
 have HC2 : Hid (M2.core = (Mk.node sNot 0 0 [mark1]).norm false) := Lib.hid (by rw [hcore, ← HC1.out]; rfl)
 refine hK _ _ ⟨HCb2.out, HMb2.out⟩ ?_
 clear hK K hcore hok hb hgo
 refine X_one 5 (listed' := #[true, true, true, true, true, true, false, false, false, false, false]) (by kernel_rfl) rfl rfl (fun K hK => ?_)
 go_simp
 have K := Lib.hid (print_any (m := (⟨[goldIt], [], [], [], ⟨some ⟨W.heap.size, 0, none⟩, 1, 1⟩, sl0, sl0, sl0⟩ : CatM)) (HT.out.below HZ2.out HT.out.1) (HP.out.below HZ2.out (by have := HT.out.1; omega)) (HIT.out _ HZ2.out) (HRU.out _) HM2.out)
 (with_reducible refine K.out.mono ?_)
 rintro e w3 ⟨rfl, hb⟩
 have HCb3 := Lib.hid (HCb2.out.below hb HCb2.out.lt)
 have HMb3 := Lib.hid (HMb2.out.below hb HMb2.out.lt)
 have HZ3 := Lib.hid (HZ2.out.trans (hb.mono HZ2.out.size))
 have HV3 := Lib.hid (HV2.out.trans (hb.mono HV2.out.size))
 refine hK _ _ ⟨HCb3.out, HMb3.out⟩ ?_
 clear hK K hb
 rw [show (List.map RuM.name ((⟨[goldIt], [], [], [], ⟨some ⟨W.heap.size, 0, none⟩, 1, 1⟩, sl0, sl0, sl0⟩ : CatM)).rules) = [] from rfl, show (List.map It.name ((⟨[goldIt], [], [], [], ⟨some ⟨W.heap.size, 0, none⟩, 1, 1⟩, sl0, sl0, sl0⟩ : CatM)).items) = [gold] from rfl, HC2.out, lives4, lives5]
 refine X_one 6 (listed' := #[true, true, true, true, true, true, true, false, false, false, false]) (by kernel_rfl) rfl rfl (fun K hK => ?_)
 go_simp
 refine hK _ _ ⟨HCb3.out, HMb3.out⟩ ?_
 clear hK
 refine X_takeU 7 (some 29) (v := ?_) (listed' := #[true, true, true, true, true, true, true, true, false, false, false]) rfl rfl rfl (by kernel_rfl) rfl (fun _ _ _ h => h) ⟨rfl, ?_⟩ ⟨HCb3.out, HMb3.out⟩ ?_
 rotate_left
 ·intro w' hS'
  (go_simp; try with_reducible rfl)
 simp only [Act.put, List.setIfInBounds_toArray, List.set_cons_zero, List.set_cons_succ]
 refine X_takeU 8 (some 30) (v := ?_) (listed' := #[true, true, true, true, true, true, true, true, true, false, false]) rfl rfl rfl (by kernel_rfl) rfl (fun _ _ _ h => h) ⟨rfl, ?_⟩ ⟨HCb3.out, HMb3.out⟩ ?_
 rotate_left
 ·intro w' hS'
  (go_simp; try with_reducible rfl)
 simp only [Act.put, List.setIfInBounds_toArray, List.set_cons_zero, List.set_cons_succ]
 refine X_takeU 9 (some 5) (v := ?_) (listed' := #[true, true, true, true, true, true, true, true, true, true, false]) rfl rfl rfl (by kernel_rfl) rfl (fun _ _ _ h => h) ⟨rfl, ?_⟩ ⟨HCb3.out, HMb3.out⟩ ?_
 rotate_left
 ·intro w' hS'
  (go_simp; try with_reducible rfl)
 simp only [Act.put, List.setIfInBounds_toArray, List.set_cons_zero, List.set_cons_succ]
 refine X_takeU 10 (some 6) (v := ?_) (listed' := #[true, true, true, true, true, true, true, true, true, true, true]) rfl rfl rfl (by kernel_rfl) rfl (fun _ _ _ h => h) ⟨rfl, ?_⟩ ⟨HCb3.out, HMb3.out⟩ ?_
 rotate_left
 ·intro w' hS'
  (go_simp; try with_reducible rfl)
 simp only [Act.put, List.setIfInBounds_toArray, List.set_cons_zero, List.set_cons_succ]
 refine X_done (by kernel_rfl) ?_
 clear hS
 have d0 : w3.cell? ⟨W.heap.size + 1, 0, none⟩ = some (.slice (some ⟨W.heap.size, 0, none⟩) 1 1) := HCb3.out.cell 0
 have d1 : w3.cell? ⟨W.heap.size + 1, 1, none⟩ = some (.slice none 0 0) := HCb3.out.cell 1
 have d2 : w3.cell? ⟨W.heap.size + 1, 2, none⟩ = some (.slice none 0 0) := HCb3.out.cell 2
 have d3 : w3.cell? ⟨W.heap.size + 1, 3, none⟩ = some (.slice none 0 0) := HCb3.out.cell 3
 have dl := HCb3.out.lt
 have K2 := Lib.hid (parse_any (m := (⟨[goldIt], [], [], [], ⟨some ⟨W.heap.size, 0, none⟩, 1, 1⟩, sl0, sl0, sl0⟩ : CatM)) text2 (by decide) (HT.out.below HZ3.out HT.out.1) (HIT.out _ HZ3.out) (HRU.out _))
 rw [lives2 (⟨[goldIt], [], [], [], ⟨some ⟨W.heap.size, 0, none⟩, 1, 1⟩, sl0, sl0, sl0⟩ : CatM) rfl rfl] at K2
 go_wp2_with fail
 refine K2.out.mono ?_
 rintro e w4 ⟨rfl, hb⟩
 have hb4 : Below w3.heap.size w3 (w4.alloc (.cells #[.string ⟨#[]⟩, .int .i64 0, .int .i64 0, .slice none 0 0] 49)) := hb.alloc hb.size _
 have HCb4 := Lib.hid (HCb3.out.below hb4 HCb3.out.lt)
 have HMb4 := Lib.hid (HMb3.out.below hb4 HMb3.out.lt)
 have HZ4 := Lib.hid (HZ3.out.trans (hb4.mono HZ3.out.size))
 have HV4 := Lib.hid (HV3.out.trans (hb4.mono HV3.out.size))
 clear K2 hb hb4 d0 d1 d2 d3 dl HCb3 HMb3
 have d0 : (w4.alloc (.cells #[.string ⟨#[]⟩, .int .i64 0, .int .i64 0, .slice none 0 0] 49)).cell? ⟨W.heap.size + 1, 0, none⟩ = some (.slice (some ⟨W.heap.size, 0, none⟩) 1 1) := HCb4.out.cell 0
 have d1 : (w4.alloc (.cells #[.string ⟨#[]⟩, .int .i64 0, .int .i64 0, .slice none 0 0] 49)).cell? ⟨W.heap.size + 1, 1, none⟩ = some (.slice none 0 0) := HCb4.out.cell 1
 have d2 : (w4.alloc (.cells #[.string ⟨#[]⟩, .int .i64 0, .int .i64 0, .slice none 0 0] 49)).cell? ⟨W.heap.size + 1, 2, none⟩ = some (.slice none 0 0) := HCb4.out.cell 2
 have d3 : (w4.alloc (.cells #[.string ⟨#[]⟩, .int .i64 0, .int .i64 0, .slice none 0 0] 49)).cell? ⟨W.heap.size + 1, 3, none⟩ = some (.slice none 0 0) := HCb4.out.cell 3
 have dl := HCb4.out.lt
 have K3 := Lib.hid (parse_any (m := (⟨[goldIt], [], [], [], ⟨some ⟨W.heap.size, 0, none⟩, 1, 1⟩, sl0, sl0, sl0⟩ : CatM)) text3 (by decide) (HT.out.below HZ4.out HT.out.1) (HIT.out _ HZ4.out) (HRU.out _))
 rw [lives3 (⟨[goldIt], [], [], [], ⟨some ⟨W.heap.size, 0, none⟩, 1, 1⟩, sl0, sl0, sl0⟩ : CatM) rfl rfl] at K3
 go_wp2_with fail
 refine K3.out.mono ?_
 rintro e w5 ⟨rfl, hb⟩
 have hb5 : Below (w4.alloc (.cells #[.string ⟨#[]⟩, .int .i64 0, .int .i64 0, .slice none 0 0] 49)).heap.size (w4.alloc (.cells #[.string ⟨#[]⟩, .int .i64 0, .int .i64 0, .slice none 0 0] 49)) (w5.alloc (.cells #[.string ⟨#[]⟩, .int .i64 0, .int .i64 0, .slice none 0 0] 49)) := hb.alloc hb.size _
 have HMb5 := Lib.hid (HMb4.out.below hb5 HMb4.out.lt)
 have HZ5 := Lib.hid (HZ4.out.trans (hb5.mono HZ4.out.size))
 have HV5 := Lib.hid (HV4.out.trans (hb5.mono HV4.out.size))
 clear K3 hb hb5 d0 d1 d2 d3 dl HCb4 HMb4 HZ4 HZ3
 have HM5 := Lib.hid (HM1.out.bel HV5.out)
 obtain ⟨bb, off, hA, hbb, c0, c1, c2, c3⟩ := HM5.out.at_ 0 (by simp)
 obtain ⟨bb', off', hA', _, e0, e1, e2, e3⟩ := HM5.out.at_ 1 (by simp)
 dsimp only [MkM.ks, MkM.s] at hA hA'
 rw [hA] at hA'
 cases hA'
 subst hA
 simp only [Nat.zero_mul, Nat.add_zero, Nat.one_mul, List.getElem_cons_zero, List.getElem_cons_succ] at c0 c1 c2 c3 e0 e1 e2 e3
 rw [ha0] at c1
 rw [ho1] at e0
 have m0 : (w5.alloc (.cells #[.string ⟨#[]⟩, .int .i64 0, .int .i64 0, .slice none 0 0] 49)).cell? ⟨w1.heap.size, 0, none⟩ = some (.string sAnd) := HMb5.out.cell 0
 have m1 : (w5.alloc (.cells #[.string ⟨#[]⟩, .int .i64 0, .int .i64 0, .slice none 0 0] 49)).cell? ⟨w1.heap.size, 1, none⟩ = some (.int .i64 0) := HMb5.out.cell 1
 have m2 : (w5.alloc (.cells #[.string ⟨#[]⟩, .int .i64 0, .int .i64 0, .slice none 0 0] 49)).cell? ⟨w1.heap.size, 2, none⟩ = some (.int .i64 0) := HMb5.out.cell 2
 have m3 : (w5.alloc (.cells #[.string ⟨#[]⟩, .int .i64 0, .int .i64 0, .slice none 0 0] 49)).cell? ⟨w1.heap.size, 3, none⟩ = some (.slice (some ⟨bb, off, none⟩) 2 c) := HMb5.out.cell 3
 have ml := HMb5.out.lt
 have q1 : sAnd.toList = [97, 110, 100] := lAnd
 have q2 : sOr.toList = [111, 114] := lOr
 have q3 := lText4
 have K6 := Lib.hid (matches_any stepV ⟨sAnd, 0, 0, [k0, k1], ⟨some ⟨bb, off, none⟩, 2, c⟩⟩ _ _ HM5.out (step_ok _))
 rw [HC1.out, lives6 stepV rfl rfl] at K6
 have K7 : Hid (Calls Tryz.prog 23 #[.agg #[.string sAnd, .int .i64 0, .int .i64 0, .slice (some ⟨bb, off, none⟩) 2 c], .agg #[.int .i64 0, .int .i64 4, .int .i64 7, .int .i64 0, .int .i64 0, .int .i64 0, .slice none 0 0]] _ _) := Lib.hid K6.out
 have HYE := Lib.hid (HY0.out.trans (HZ5.out.mono HY0.out.size))
 clear K6
 go_wp2_with fail
 refine K7.out.mono ?_
 rintro e w6 ⟨rfl, hb⟩
 have HYF := Lib.hid (HYE.out.trans (hb.mono HYE.out.size))
 clear hb K7
 go_wp2
 go_ret
 exact ⟨rfl, HYF.out⟩
end Go.Proofs.YtocodlpgaamblaaGreatDoor
