/- The contract of Held (turned from A5). catalog.Equal on two catalogs that say the same: true. Plain law of VersionSame: a catalog and itself. VersionSame: a catalog and itself. -/
import Derived.Test.YthjfdfdgbpbanaaGreatDoorS1x1
import Derived.Test.YthjfdfdgbpbanaaGreatDoorS1x8
import Derived.Test.YthjfdfdgbpbanaaGreatDoorS1x10
import Derived.Test.YthjfdfdgbpbanaaGreatDoorS1x18
import Derived.Test.YthjfdfdgbpbanaaGreatDoorS1x22
import Derived.Test.YthjfdfdgbpbanaaGreatDoorS1x24
import Derived.Laws.StructEq
import Derived.BigQuiet
set_option linter.unusedVariables false
set_option linter.unusedSimpArgs false
open Go.RowKit
namespace Go.Proofs.YthjfdfdgbpbanaaGreatDoor
theorem heldL_succS (zs : List Int) (a k : Nat) : heldL zs a (k + 1) = heldL zs a k ++ [heldAt zs a k] := by simp [heldL, List.range_succ]
theorem ints_snocS (l : List Int) (x : Int) : ints (l ++ [x]) = ints l ++ [.int .i64 x] := by simp [ints]
theorem one1S (x : Int) : ∀ u ∈ ([.int .i64 x] : List Value), u.oneCell' = true := by
 intro u hu
 simp only [List.mem_cons, List.not_mem_nil, or_false] at hu
 subst hu; rfl
set_option maxRecDepth 100000 in
set_option maxHeartbeats 1000000 in
theorem held_anyS {w : World} {A : Option Addr} {n : Nat} (c K a : Nat) {zs : List Int} (h : IntsV w A n zs) (hK : K ≤ 1000) (ha : a ≤ 1000) :
 Calls Tryz.prog 23 #[.int .i64 K, .slice A n c, .int .i64 a] w (RowPost w 3 1 K (ints (heldL zs a K))) := by
 obtain ⟨i0, hi, hz0, hz1, hz2⟩ := info_parts info3
 have H := Lib.hid h
 clear h
 go_enter Tryz.func23, Tryz.ntmps23
 go_wp2_with fail
 go_loopw [7, 8] (fun v i wr => ∃ k : Nat, k ≤ K ∧ i = .int .i64 k ∧ wr.ownsRow w.heap.size 3 1 v k (ints (heldL zs a k)) ∧ Below w.heap.size w wr) (fun _ i _ => K - (intOf i).toNat)
 case atStart => exact ⟨0, Nat.zero_le _, rfl, World.ownsRow_nil _ _ _ _, Below.refl _ _⟩
 case round =>
  obtain ⟨k, hk, rfl, hown, hb⟩ := hrel
  have HO := Lib.hid hown
  have hsz := hb.size
  clear hown
  by_cases hlt : k < K
  ·have HP := Lib.hid ((H.out.below hb).pick c ((a : Int) + (k : Int)) 1048576 (by omega) (by omega) (by omega) (by omega))
   have p0 := pick_lo zs ((a : Int) + (k : Int)) 1048576 (by omega)
   have p1 := pick_hi zs ((a : Int) + (k : Int)) 1048576 (by omega)
   have HS := Lib.hid (heldL_succS zs a k)
   have HA : Hid (heldAt zs a k = heldOf (pick zs ((a : Int) + (k : Int)) 1048576)) := rfl
   generalize pick zs ((a : Int) + (k : Int)) 1048576 = p at *
   by_cases h61 : p % 61 = 0
   ·have q1 : (p % 61 == 0) = true := by simpa using h61
    have hx : heldAt zs a k = 1099511627776 - p / 61 % 9 := by rw [HA.out, heldOf, if_pos h61]
    rw [hx] at HS
    clear hx HA h61
    by_cases h4 : p % 4 = 0
    ·have q2 : (p % 4 == 0) = true := by simpa using h4
     go_wp2_with fail
     refine HP.out.mono ?_
     rintro e w' ⟨rfl, rfl⟩
     go_wp2_with (at_builtin; refine wpList_append_own_at _ rfl _ _ 22 rfl w.heap.size 3 i0 (.int .i64 0) 1 8 Tryz.underlying22 hi hz0 hz1 hz2 rfl (by decide) _ k (ints (heldL zs a k)) rfl (HO.out.alloc _) ⟨wr.heap.size, 0, none⟩ 1 1 [.int .i64 (1099511627776 - p / 61 % 9)] rfl rfl (new1 _ _ _) (one1S _) (by unfold maxLen; omega) (by omega) (by simp; omega) ?_)
     intro v' w1 hown' hgrow _ _
     have hb1 : Below w.heap.size w w1 := (hb.alloc hsz _).grown hgrow (by simp; omega) (row_base HO.out)
     have HO1 := Lib.hid hown'
     clear hown' hgrow
     go_wp2
     go_roundw
     case rel => exact ⟨k + 1, by omega, by go_num, by rw [HS.out, ints_snocS]; exact HO1.out, hb1⟩
     case measure => simp [intOf]; omega
    ·have q2 : (p % 4 == 0) = false := by simpa using h4
     go_wp2_with fail
     refine HP.out.mono ?_
     rintro e w' ⟨rfl, rfl⟩
     go_wp2_with (at_builtin; refine wpList_append_own_at _ rfl _ _ 22 rfl w.heap.size 3 i0 (.int .i64 0) 1 8 Tryz.underlying22 hi hz0 hz1 hz2 rfl (by decide) _ k (ints (heldL zs a k)) rfl (HO.out.alloc _) ⟨wr.heap.size, 0, none⟩ 1 1 [.int .i64 (1099511627776 - p / 61 % 9)] rfl rfl (new1 _ _ _) (one1S _) (by unfold maxLen; omega) (by omega) (by simp; omega) ?_)
     intro v' w1 hown' hgrow _ _
     have hb1 : Below w.heap.size w w1 := (hb.alloc hsz _).grown hgrow (by simp; omega) (row_base HO.out)
     have HO1 := Lib.hid hown'
     clear hown' hgrow
     go_wp2
     go_roundw
     case rel => exact ⟨k + 1, by omega, by go_num, by rw [HS.out, ints_snocS]; exact HO1.out, hb1⟩
     case measure => simp [intOf]; omega
   ·have q1 : (p % 61 == 0) = false := by simpa using h61
    by_cases h4 : p % 4 = 0
    ·have q2 : (p % 4 == 0) = true := by simpa using h4
     have hx : heldAt zs a k = 0 := by rw [HA.out, heldOf, if_neg h61, if_pos h4]
     rw [hx] at HS
     clear hx HA h61
     go_wp2_with fail
     refine HP.out.mono ?_
     rintro e w' ⟨rfl, rfl⟩
     go_wp2_with (at_builtin; refine wpList_append_own_at _ rfl _ _ 22 rfl w.heap.size 3 i0 (.int .i64 0) 1 8 Tryz.underlying22 hi hz0 hz1 hz2 rfl (by decide) _ k (ints (heldL zs a k)) rfl (HO.out.alloc _) ⟨wr.heap.size, 0, none⟩ 1 1 [.int .i64 0] rfl rfl (new1 _ _ _) (one1S _) (by unfold maxLen; omega) (by omega) (by simp; omega) ?_)
     intro v' w1 hown' hgrow _ _
     have hb1 : Below w.heap.size w w1 := (hb.alloc hsz _).grown hgrow (by simp; omega) (row_base HO.out)
     have HO1 := Lib.hid hown'
     clear hown' hgrow
     go_wp2
     go_roundw
     case rel => exact ⟨k + 1, by omega, by go_num, by rw [HS.out, ints_snocS]; exact HO1.out, hb1⟩
     case measure => simp [intOf]; omega
    ·have q2 : (p % 4 == 0) = false := by simpa using h4
     have hx : heldAt zs a k = p / 4 % 50 := by rw [HA.out, heldOf, if_neg h61, if_neg h4]
     rw [hx] at HS
     clear hx HA h61
     go_wp2_with fail
     refine HP.out.mono ?_
     rintro e w' ⟨rfl, rfl⟩
     go_wp2_with (at_builtin; refine wpList_append_own_at _ rfl _ _ 22 rfl w.heap.size 3 i0 (.int .i64 0) 1 8 Tryz.underlying22 hi hz0 hz1 hz2 rfl (by decide) _ k (ints (heldL zs a k)) rfl (HO.out.alloc _) ⟨wr.heap.size, 0, none⟩ 1 1 [.int .i64 (p / 4 % 50)] rfl rfl (new1 _ _ _) (one1S _) (by unfold maxLen; omega) (by omega) (by simp; omega) ?_)
     intro v' w1 hown' hgrow _ _
     have hb1 : Below w.heap.size w w1 := (hb.alloc hsz _).grown hgrow (by simp; omega) (row_base HO.out)
     have HO1 := Lib.hid hown'
     clear hown' hgrow
     go_wp2
     go_roundw
     case rel => exact ⟨k + 1, by omega, by go_num, by rw [HS.out, ints_snocS]; exact HO1.out, hb1⟩
     case measure => simp [intOf]; omega
  ·obtain rfl : k = K := by omega
   go_wp2
   go_ret
   exact ⟨_, rfl, HO.out, hb⟩
theorem neq136 (x0 : Int) (x1 : Int) (W : World) : (binOp .neq 136 (.agg #[.int .i64 x0, .int .i64 x1]) (.agg #[.int .i64 x0, .int .i64 x1])).run Tryz.prog W = .ok (.bool false) W := by
 rw [run_neq_struct, run_equalIn_struct W 9999 136 _ _ (by kernel_rfl) (by kernel_rfl)]
 have hf : (Tryz.prog.fieldsOf 136).toList.map (fun f => (f.name, f.type, f.offset)) = [("Item", 3, 0), ("N", 3, 1)] := by kernel_rfl
 generalize (Tryz.prog.fieldsOf 136).toList = L at hf ⊢
 obtain ⟨f0, f1, rfl⟩ : ∃ f0 f1, L = [f0, f1] := by
  have hl : L.length = 2 := by have := congrArg List.length hf; simpa using this
  rcases L with _ | ⟨f0, _ | ⟨f1, _ | ⟨f2, L⟩⟩⟩ <;> simp at hl
  exact ⟨f0, f1, rfl⟩
 ·skip
  simp only [List.map_cons, List.map_nil, List.cons.injEq, Prod.mk.injEq, and_true] at hf
  obtain ⟨⟨n0, t0, o0⟩, ⟨n1, t1, o1⟩⟩ := hf
  have p0 : ∀ (W : World), (part 3 #[Value.int .i64 x0, .int .i64 x1] 0).run Tryz.prog W = .ok (.int .i64 x0) W := fun W => by kernel_rfl
  have p1 : ∀ (W : World), (part 3 #[Value.int .i64 x0, .int .i64 x1] 1).run Tryz.prog W = .ok (.int .i64 x1) W := fun W => by kernel_rfl
  have qi : ∀ (W : World) (u : Int), (Op.equalIn 9999 3 (.int .i64 u) (.int .i64 u)).run Tryz.prog W = .ok true W := fun W u => by
   rw [run_equalIn_int W 9998 3 .i64 .i64 u u Tryz.underlying3]; simp
  simp [Op.eqFields, n0, t0, o0, p0, n1, t1, o1, p1, Sem.run_bind, qi]
theorem neq129 (x0 : Int) (x1 : Int) (W : World) : (binOp .neq 129 (.agg #[.int .i64 x0, .int .i64 x1]) (.agg #[.int .i64 x0, .int .i64 x1])).run Tryz.prog W = .ok (.bool false) W := by
 rw [run_neq_struct, run_equalIn_struct W 9999 129 _ _ (by kernel_rfl) (by kernel_rfl)]
 have hf : (Tryz.prog.fieldsOf 129).toList.map (fun f => (f.name, f.type, f.offset)) = [("From", 3, 0), ("Per", 3, 1)] := by kernel_rfl
 generalize (Tryz.prog.fieldsOf 129).toList = L at hf ⊢
 obtain ⟨f0, f1, rfl⟩ : ∃ f0 f1, L = [f0, f1] := by
  have hl : L.length = 2 := by have := congrArg List.length hf; simpa using this
  rcases L with _ | ⟨f0, _ | ⟨f1, _ | ⟨f2, L⟩⟩⟩ <;> simp at hl
  exact ⟨f0, f1, rfl⟩
 ·skip
  simp only [List.map_cons, List.map_nil, List.cons.injEq, Prod.mk.injEq, and_true] at hf
  obtain ⟨⟨n0, t0, o0⟩, ⟨n1, t1, o1⟩⟩ := hf
  have p0 : ∀ (W : World), (part 3 #[Value.int .i64 x0, .int .i64 x1] 0).run Tryz.prog W = .ok (.int .i64 x0) W := fun W => by kernel_rfl
  have p1 : ∀ (W : World), (part 3 #[Value.int .i64 x0, .int .i64 x1] 1).run Tryz.prog W = .ok (.int .i64 x1) W := fun W => by kernel_rfl
  have qi : ∀ (W : World) (u : Int), (Op.equalIn 9999 3 (.int .i64 u) (.int .i64 u)).run Tryz.prog W = .ok true W := fun W u => by
   rw [run_equalIn_int W 9998 3 .i64 .i64 u u Tryz.underlying3]; simp
  simp [Op.eqFields, n0, t0, o0, p0, n1, t1, o1, p1, Sem.run_bind, qi]
theorem neq89 (x0 : ByteArray) (x1 : Bool) (x2 : Bool) (x3 : Bool) (x4 : Int) (x5 : Int) (x6 : Int) (W : World) : (binOp .neq 89 (.agg #[.string x0, .bool x1, .bool x2, .bool x3, .int .i64 x4, .int .i64 x5, .int .i64 x6]) (.agg #[.string x0, .bool x1, .bool x2, .bool x3, .int .i64 x4, .int .i64 x5, .int .i64 x6])).run Tryz.prog W = .ok (.bool false) W := by
 rw [run_neq_struct, run_equalIn_struct W 9999 89 _ _ (by kernel_rfl) (by kernel_rfl)]
 have hf : (Tryz.prog.fieldsOf 89).toList.map (fun f => (f.name, f.type, f.offset)) = [("Name", 9, 0), ("Object", 4, 1), ("Mixed", 4, 2), ("Coin", 4, 3), ("Wear", 3, 4), ("Bind", 3, 5), ("Level", 3, 6)] := by kernel_rfl
 generalize (Tryz.prog.fieldsOf 89).toList = L at hf ⊢
 obtain ⟨f0, f1, f2, f3, f4, f5, f6, rfl⟩ : ∃ f0 f1 f2 f3 f4 f5 f6, L = [f0, f1, f2, f3, f4, f5, f6] := by
  have hl : L.length = 7 := by have := congrArg List.length hf; simpa using this
  rcases L with _ | ⟨f0, _ | ⟨f1, _ | ⟨f2, _ | ⟨f3, _ | ⟨f4, _ | ⟨f5, _ | ⟨f6, _ | ⟨f7, L⟩⟩⟩⟩⟩⟩⟩⟩ <;> simp at hl
  exact ⟨f0, f1, f2, f3, f4, f5, f6, rfl⟩
 ·skip
  simp only [List.map_cons, List.map_nil, List.cons.injEq, Prod.mk.injEq, and_true] at hf
  obtain ⟨⟨n0, t0, o0⟩, ⟨n1, t1, o1⟩, ⟨n2, t2, o2⟩, ⟨n3, t3, o3⟩, ⟨n4, t4, o4⟩, ⟨n5, t5, o5⟩, ⟨n6, t6, o6⟩⟩ := hf
  have p0 : ∀ (W : World), (part 9 #[Value.string x0, .bool x1, .bool x2, .bool x3, .int .i64 x4, .int .i64 x5, .int .i64 x6] 0).run Tryz.prog W = .ok (.string x0) W := fun W => by kernel_rfl
  have p1 : ∀ (W : World), (part 4 #[Value.string x0, .bool x1, .bool x2, .bool x3, .int .i64 x4, .int .i64 x5, .int .i64 x6] 1).run Tryz.prog W = .ok (.bool x1) W := fun W => by kernel_rfl
  have p2 : ∀ (W : World), (part 4 #[Value.string x0, .bool x1, .bool x2, .bool x3, .int .i64 x4, .int .i64 x5, .int .i64 x6] 2).run Tryz.prog W = .ok (.bool x2) W := fun W => by kernel_rfl
  have p3 : ∀ (W : World), (part 4 #[Value.string x0, .bool x1, .bool x2, .bool x3, .int .i64 x4, .int .i64 x5, .int .i64 x6] 3).run Tryz.prog W = .ok (.bool x3) W := fun W => by kernel_rfl
  have p4 : ∀ (W : World), (part 3 #[Value.string x0, .bool x1, .bool x2, .bool x3, .int .i64 x4, .int .i64 x5, .int .i64 x6] 4).run Tryz.prog W = .ok (.int .i64 x4) W := fun W => by kernel_rfl
  have p5 : ∀ (W : World), (part 3 #[Value.string x0, .bool x1, .bool x2, .bool x3, .int .i64 x4, .int .i64 x5, .int .i64 x6] 5).run Tryz.prog W = .ok (.int .i64 x5) W := fun W => by kernel_rfl
  have p6 : ∀ (W : World), (part 3 #[Value.string x0, .bool x1, .bool x2, .bool x3, .int .i64 x4, .int .i64 x5, .int .i64 x6] 6).run Tryz.prog W = .ok (.int .i64 x6) W := fun W => by kernel_rfl
  have qi : ∀ (W : World) (u : Int), (Op.equalIn 9999 3 (.int .i64 u) (.int .i64 u)).run Tryz.prog W = .ok true W := fun W u => by
   rw [run_equalIn_int W 9998 3 .i64 .i64 u u Tryz.underlying3]; simp
  have qb : ∀ (W : World) (u : Bool), (Op.equalIn 9999 4 (.bool u) (.bool u)).run Tryz.prog W = .ok true W := fun W u => by
   rw [run_equalIn_bool W 9998 4 u u Tryz.underlying4]; simp
  have qs : ∀ (W : World) (u : ByteArray), (Op.equalIn 9999 9 (.string u) (.string u)).run Tryz.prog W = .ok true W := fun W u => by
   rw [run_equalIn_string W 9998 9 u u Tryz.underlying9]; simp
  simp [Op.eqFields, n0, t0, o0, p0, n1, t1, o1, p1, n2, t2, o2, p2, n3, t3, o3, p3, n4, t4, o4, p4, n5, t5, o5, p5, n6, t6, o6, p6, Sem.run_bind, qb, qi, qs]
set_option maxRecDepth 100000 in
set_option maxHeartbeats 1000000 in
theorem eqs_it {w : World} {s s' : Sl} {l : List It} (h : ItsV w s l) (h' : ItsV w s' l) : Calls Tryz.prog 69 #[.slice s.A s.n s.c, .slice s'.A s'.n s'.c] w fun e w' => e = .returned (.bool true) ∧ Below w.heap.size w w' := by
 have H := Lib.hid h
 have H' := Lib.hid h'
 have Hn := Lib.hid h.len
 have hs := h.small
 have hnn : s'.n = s.n := by rw [h.len, h'.len]
 clear h h'
 obtain ⟨A, n, c⟩ := s
 obtain ⟨A', n', c'⟩ := s'
 dsimp only at *
 subst hnn
 have e1 : ((n' : Int) != (n' : Int)) = false := by simp
 go_enter Tryz.func69, Tryz.ntmps69
 go_wp2_with fail
 go_loopw [13] (fun i wr => ∃ k : Nat, k ≤ n' ∧ i = .int .i64 k ∧ Below w.heap.size w wr) (fun i _ => n' - (intOf i).toNat)
 case atStart => exact ⟨0, Nat.zero_le _, rfl, Below.refl _ _⟩
 case round =>
  obtain ⟨k, hk, rfl, hb⟩ := hrel
  by_cases hlt : k < n'
  ·have hkl : k < l.length := by have := Hn.out; omega
   obtain ⟨b, off, hA, hbb, c0, c1, c2, c3, c4, c5, c6⟩ := (H.out.below hb).at_ k hkl
   obtain ⟨b', off', hA', hbb', d0, d1, d2, d3, d4, d5, d6⟩ := (H'.out.below hb).at_ k hkl
   dsimp only at hA hA'
   subst hA hA'
   generalize l[k].name = y0 at *
   generalize l[k].object = y1 at *
   generalize l[k].mixed = y2 at *
   generalize l[k].coin = y3 at *
   generalize l[k].wear = y4 at *
   generalize l[k].bnd = y5 at *
   generalize l[k].level = y6 at *
   clear hkl
   have k0 : (0 : Int) ≤ (k : Int) := by omega
   have k1 : (k : Int) < (n' : Int) := by omega
   have hne := fun W => neq89 y0 y1 y2 y3 y4 y5 y6 W
   go_wp2_with fail
   go_quiet (fail)
   have HB := Lib.hid (bel_drewN hb nq)
   generalize wr.drewN nq = W at *
   clear c0 c1 c2 c3 c4 c5 c6 d0 d1 d2 d3 d4 d5 d6
   go_wp2_with fail
   go_roundw
   case rel => exact ⟨k + 1, by omega, by go_num, HB.out⟩
   case measure => simp [intOf]; omega
  ·go_wp2_with fail
   go_ret
   exact ⟨rfl, hb⟩
set_option maxRecDepth 100000 in
set_option maxHeartbeats 1000000 in
theorem eqs_am {w : World} {s s' : Sl} {l : List P2} (h : PrV w 136 s l) (h' : PrV w 136 s' l) : Calls Tryz.prog 76 #[.slice s.A s.n s.c, .slice s'.A s'.n s'.c] w fun e w' => e = .returned (.bool true) ∧ Below w.heap.size w w' := by
 have H := Lib.hid h
 have H' := Lib.hid h'
 have Hn := Lib.hid h.len
 have hs := h.small
 have hnn : s'.n = s.n := by rw [h.len, h'.len]
 clear h h'
 obtain ⟨A, n, c⟩ := s
 obtain ⟨A', n', c'⟩ := s'
 dsimp only at *
 subst hnn
 have e1 : ((n' : Int) != (n' : Int)) = false := by simp
 go_enter Tryz.func76, Tryz.ntmps76
 go_wp2_with fail
 go_loopw [13] (fun i wr => ∃ k : Nat, k ≤ n' ∧ i = .int .i64 k ∧ Below w.heap.size w wr) (fun i _ => n' - (intOf i).toNat)
 case atStart => exact ⟨0, Nat.zero_le _, rfl, Below.refl _ _⟩
 case round =>
  obtain ⟨k, hk, rfl, hb⟩ := hrel
  by_cases hlt : k < n'
  ·have hkl : k < l.length := by have := Hn.out; omega
   obtain ⟨b, off, hA, hbb, c0, c1⟩ := (H.out.below hb).at_ k hkl
   obtain ⟨b', off', hA', hbb', d0, d1⟩ := (H'.out.below hb).at_ k hkl
   dsimp only at hA hA'
   subst hA hA'
   generalize l[k].1 = y0 at *
   generalize l[k].2 = y1 at *
   clear hkl
   have k0 : (0 : Int) ≤ (k : Int) := by omega
   have k1 : (k : Int) < (n' : Int) := by omega
   have hne := fun W => neq136 y0 y1 W
   go_wp2_with fail
   go_quiet (fail)
   have HB := Lib.hid (bel_drewN hb nq)
   generalize wr.drewN nq = W at *
   clear c0 c1 d0 d1
   go_wp2_with fail
   go_roundw
   case rel => exact ⟨k + 1, by omega, by go_num, HB.out⟩
   case measure => simp [intOf]; omega
  ·go_wp2_with fail
   go_ret
   exact ⟨rfl, hb⟩
set_option maxRecDepth 100000 in
set_option maxHeartbeats 1000000 in
theorem eqs_br {w : World} {s s' : Sl} {l : List P2} (h : PrV w 129 s l) (h' : PrV w 129 s' l) : Calls Tryz.prog 79 #[.slice s.A s.n s.c, .slice s'.A s'.n s'.c] w fun e w' => e = .returned (.bool true) ∧ Below w.heap.size w w' := by
 have H := Lib.hid h
 have H' := Lib.hid h'
 have Hn := Lib.hid h.len
 have hs := h.small
 have hnn : s'.n = s.n := by rw [h.len, h'.len]
 clear h h'
 obtain ⟨A, n, c⟩ := s
 obtain ⟨A', n', c'⟩ := s'
 dsimp only at *
 subst hnn
 have e1 : ((n' : Int) != (n' : Int)) = false := by simp
 go_enter Tryz.func79, Tryz.ntmps79
 go_wp2_with fail
 go_loopw [13] (fun i wr => ∃ k : Nat, k ≤ n' ∧ i = .int .i64 k ∧ Below w.heap.size w wr) (fun i _ => n' - (intOf i).toNat)
 case atStart => exact ⟨0, Nat.zero_le _, rfl, Below.refl _ _⟩
 case round =>
  obtain ⟨k, hk, rfl, hb⟩ := hrel
  by_cases hlt : k < n'
  ·have hkl : k < l.length := by have := Hn.out; omega
   obtain ⟨b, off, hA, hbb, c0, c1⟩ := (H.out.below hb).at_ k hkl
   obtain ⟨b', off', hA', hbb', d0, d1⟩ := (H'.out.below hb).at_ k hkl
   dsimp only at hA hA'
   subst hA hA'
   generalize l[k].1 = y0 at *
   generalize l[k].2 = y1 at *
   clear hkl
   have k0 : (0 : Int) ≤ (k : Int) := by omega
   have k1 : (k : Int) < (n' : Int) := by omega
   have hne := fun W => neq129 y0 y1 W
   go_wp2_with fail
   go_quiet (fail)
   have HB := Lib.hid (bel_drewN hb nq)
   generalize wr.drewN nq = W at *
   clear c0 c1 d0 d1
   go_wp2_with fail
   go_roundw
   case rel => exact ⟨k + 1, by omega, by go_num, HB.out⟩
   case measure => simp [intOf]; omega
  ·go_wp2_with fail
   go_ret
   exact ⟨rfl, hb⟩
set_option maxRecDepth 100000 in
set_option maxHeartbeats 2000000 in
theorem eq1_ru {w : World} (r r' : RuM) (hr : r.Ok w) (hr' : r'.Ok w) (he : r'.core = r.core) : Calls Tryz.prog 71 #[r.val, r'.val] w (fun e w' => e = .returned (.bool true) ∧ Below w.heap.size w w') := by
 obtain ⟨nm, sp, le, ti, ch, of_, tk, gv, bk, ⟨A1, n1, c1⟩, ⟨A2, n2, c2⟩, ⟨A3, n3, c3⟩⟩ := r
 obtain ⟨nm', sp', le', ti', ch', of', tk', gv', bk', ⟨A4, n4, c4⟩, ⟨A5, n5, c5⟩, ⟨A6, n6, c6⟩⟩ := r'
 simp only [RuM.core, RuM.mk.injEq, and_true] at he
 obtain ⟨rfl, rfl, rfl, rfl, rfl, rfl, rfl, rfl, rfl⟩ := he
 have X0 : Below w.heap.size w ((w.alloc (.cells #[.string nm', .bool sp', .int .i64 le', .int .i64 ti', .int .i64 ch', .int .i64 of', .slice A1 n1 c1, .slice A2 n2 c2, .slice A3 n3 c3] 103)).alloc (.cells #[.string nm', .bool sp', .int .i64 le', .int .i64 ti', .int .i64 ch', .int .i64 of', .slice A4 n4 c4, .slice A5 n5 c5, .slice A6 n6 c6] 103)) := ((Below.refl _ _).alloc (Nat.le_refl _) _).alloc (by simp) _
 have B1 := (Bk.new w 103 [.string nm', .bool sp', .int .i64 le', .int .i64 ti', .int .i64 ch', .int .i64 of', .slice A1 n1 c1, .slice A2 n2 c2, .slice A3 n3 c3]).alloc (.cells #[.string nm', .bool sp', .int .i64 le', .int .i64 ti', .int .i64 ch', .int .i64 of', .slice A4 n4 c4, .slice A5 n5 c5, .slice A6 n6 c6] 103)
 have B2 := Bk.new (w.alloc (.cells #[.string nm', .bool sp', .int .i64 le', .int .i64 ti', .int .i64 ch', .int .i64 of', .slice A1 n1 c1, .slice A2 n2 c2, .slice A3 n3 c3] 103)) 103 [.string nm', .bool sp', .int .i64 le', .int .i64 ti', .int .i64 ch', .int .i64 of', .slice A4 n4 c4, .slice A5 n5 c5, .slice A6 n6 c6]
 rw [World.size_alloc] at B2
 have K0 : Hid (∀ W : World, Below w.heap.size w W → Calls Tryz.prog 76 #[.slice A1 n1 c1, .slice A4 n4 c4] W fun e w' => e = .returned (.bool true) ∧ Below W.heap.size W w') := fun W hW => eqs_am (s := ⟨A1, n1, c1⟩) (s' := ⟨A4, n4, c4⟩) (hr.take.below hW) (hr'.take.below hW)
 have K1 : Hid (∀ W : World, Below w.heap.size w W → Calls Tryz.prog 76 #[.slice A2 n2 c2, .slice A5 n5 c5] W fun e w' => e = .returned (.bool true) ∧ Below W.heap.size W w') := fun W hW => eqs_am (s := ⟨A2, n2, c2⟩) (s' := ⟨A5, n5, c5⟩) (hr.give.below hW) (hr'.give.below hW)
 have K2 : Hid (∀ W : World, Below w.heap.size w W → Calls Tryz.prog 76 #[.slice A3 n3 c3, .slice A6 n6 c6] W fun e w' => e = .returned (.bool true) ∧ Below W.heap.size W w') := fun W hW => eqs_am (s := ⟨A3, n3, c3⟩) (s' := ⟨A6, n6, c6⟩) (hr.back.below hW) (hr'.back.below hW)
 have HX0 := Lib.hid X0
 have HB1 := Lib.hid B1
 have HB2 := Lib.hid B2
 clear X0 B1 B2 hr hr'
 go_enter Tryz.func71, Tryz.ntmps71
 go_wp2_with fail
 (with_reducible refine (K0.out _ HX0.out).mono ?_)
 rintro e w1 ⟨rfl, hb1⟩
 have HX1 := Lib.hid (HX0.out.trans (hb1.mono HX0.out.size))
 have C1 := Lib.hid (HB1.out.below hb1 HB1.out.lt)
 have C2 := Lib.hid (HB2.out.below hb1 HB2.out.lt)
 have f1 : w1.cell? ⟨w.heap.size, 7, none⟩ = some (.slice A2 n2 c2) := C1.out.cell 7
 have f2 : w1.cell? ⟨w.heap.size + 1, 7, none⟩ = some (.slice A5 n5 c5) := C2.out.cell 7
 have l1 := C1.out.lt
 have l2 := C2.out.lt
 have D1 := Lib.hid C1.out
 have D2 := Lib.hid C2.out
 clear C1 C2 hb1
 go_wp2_with fail
 (with_reducible refine (K1.out _ HX1.out).mono ?_)
 rintro e w2 ⟨rfl, hb2⟩
 have HX2 := Lib.hid (HX1.out.trans (hb2.mono HX1.out.size))
 have C1 := Lib.hid (D1.out.below hb2 D1.out.lt)
 have C2 := Lib.hid (D2.out.below hb2 D2.out.lt)
 clear f1 f2 l1 l2 D1 D2
 have f1 : w2.cell? ⟨w.heap.size, 8, none⟩ = some (.slice A3 n3 c3) := C1.out.cell 8
 have f2 : w2.cell? ⟨w.heap.size + 1, 8, none⟩ = some (.slice A6 n6 c6) := C2.out.cell 8
 have l1 := C1.out.lt
 have l2 := C2.out.lt
 have D1 := Lib.hid C1.out
 have D2 := Lib.hid C2.out
 clear C1 C2 hb2
 go_wp2_with fail
 (with_reducible refine (K2.out _ HX2.out).mono ?_)
 rintro e w3 ⟨rfl, hb3⟩
 have HX3 := Lib.hid (HX2.out.trans (hb3.mono HX2.out.size))
 have C1 := Lib.hid (D1.out.below hb3 D1.out.lt)
 have C2 := Lib.hid (D2.out.below hb3 D2.out.lt)
 clear f1 f2 l1 l2 D1 D2
 clear hb3
 go_wp2_with fail
 go_ret
 exact ⟨rfl, HX3.out⟩
set_option maxRecDepth 100000 in
set_option maxHeartbeats 2000000 in
theorem eq1_rw {w : World} (r r' : RwM) (hr : r.Ok w) (hr' : r'.Ok w) (he : r'.core = r.core) : Calls Tryz.prog 75 #[r.val, r'.val] w (fun e w' => e = .returned (.bool true) ∧ Below w.heap.size w w') := by
 obtain ⟨we, gv, ⟨A1, n1, c1⟩⟩ := r
 obtain ⟨we', gv', ⟨A4, n4, c4⟩⟩ := r'
 simp only [RwM.core, RwM.mk.injEq, and_true] at he
 obtain ⟨rfl, rfl⟩ := he
 have X0 : Below w.heap.size w ((w.alloc (.cells #[.int .i64 we', .slice A1 n1 c1] 109)).alloc (.cells #[.int .i64 we', .slice A4 n4 c4] 109)) := ((Below.refl _ _).alloc (Nat.le_refl _) _).alloc (by simp) _
 have B1 := (Bk.new w 109 [.int .i64 we', .slice A1 n1 c1]).alloc (.cells #[.int .i64 we', .slice A4 n4 c4] 109)
 have B2 := Bk.new (w.alloc (.cells #[.int .i64 we', .slice A1 n1 c1] 109)) 109 [.int .i64 we', .slice A4 n4 c4]
 rw [World.size_alloc] at B2
 have K0 : Hid (∀ W : World, Below w.heap.size w W → Calls Tryz.prog 76 #[.slice A1 n1 c1, .slice A4 n4 c4] W fun e w' => e = .returned (.bool true) ∧ Below W.heap.size W w') := fun W hW => eqs_am (s := ⟨A1, n1, c1⟩) (s' := ⟨A4, n4, c4⟩) (PrV.below (show PrV w 136 ⟨A1, n1, c1⟩ _ from hr) hW) (PrV.below (show PrV w 136 ⟨A4, n4, c4⟩ _ from hr') hW)
 have HX0 := Lib.hid X0
 have HB1 := Lib.hid B1
 have HB2 := Lib.hid B2
 clear X0 B1 B2 hr hr'
 go_enter Tryz.func75, Tryz.ntmps75
 go_wp2_with fail
 (with_reducible refine (K0.out _ HX0.out).mono ?_)
 rintro e w1 ⟨rfl, hb1⟩
 have HX1 := Lib.hid (HX0.out.trans (hb1.mono HX0.out.size))
 have C1 := Lib.hid (HB1.out.below hb1 HB1.out.lt)
 have C2 := Lib.hid (HB2.out.below hb1 HB2.out.lt)
 clear hb1
 go_wp2_with fail
 go_ret
 exact ⟨rfl, HX1.out⟩
set_option maxRecDepth 100000 in
set_option maxHeartbeats 2000000 in
theorem eq1_tx {w : World} (r r' : TxM) (hr : r.Ok w) (hr' : r'.Ok w) (he : r'.core = r.core) : Calls Tryz.prog 78 #[r.val, r'.val] w (fun e w' => e = .returned (.bool true) ∧ Below w.heap.size w w') := by
 obtain ⟨nm, gv, ⟨A1, n1, c1⟩⟩ := r
 obtain ⟨nm', gv', ⟨A4, n4, c4⟩⟩ := r'
 simp only [TxM.core, TxM.mk.injEq, and_true] at he
 obtain ⟨rfl, rfl⟩ := he
 have X0 : Below w.heap.size w ((w.alloc (.cells #[.string nm', .slice A1 n1 c1] 115)).alloc (.cells #[.string nm', .slice A4 n4 c4] 115)) := ((Below.refl _ _).alloc (Nat.le_refl _) _).alloc (by simp) _
 have B1 := (Bk.new w 115 [.string nm', .slice A1 n1 c1]).alloc (.cells #[.string nm', .slice A4 n4 c4] 115)
 have B2 := Bk.new (w.alloc (.cells #[.string nm', .slice A1 n1 c1] 115)) 115 [.string nm', .slice A4 n4 c4]
 rw [World.size_alloc] at B2
 have K0 : Hid (∀ W : World, Below w.heap.size w W → Calls Tryz.prog 79 #[.slice A1 n1 c1, .slice A4 n4 c4] W fun e w' => e = .returned (.bool true) ∧ Below W.heap.size W w') := fun W hW => eqs_br (s := ⟨A1, n1, c1⟩) (s' := ⟨A4, n4, c4⟩) (hr.brs.below hW) (hr'.brs.below hW)
 have HX0 := Lib.hid X0
 have HB1 := Lib.hid B1
 have HB2 := Lib.hid B2
 clear X0 B1 B2 hr hr'
 go_enter Tryz.func78, Tryz.ntmps78
 go_wp2_with fail
 (with_reducible refine (K0.out _ HX0.out).mono ?_)
 rintro e w1 ⟨rfl, hb1⟩
 have HX1 := Lib.hid (HX0.out.trans (hb1.mono HX0.out.size))
 have C1 := Lib.hid (HB1.out.below hb1 HB1.out.lt)
 have C2 := Lib.hid (HB2.out.below hb1 HB2.out.lt)
 clear hb1
 go_wp2_with fail
 go_ret
 exact ⟨rfl, HX1.out⟩
theorem RuM.okb {w w' : World} {r : RuM} (h : r.Ok w) (hb : Below w.heap.size w w') : r.Ok w' := h.keep (.below hb)
theorem RwM.okb {w w' : World} {r : RwM} (h : r.Ok w) (hb : Below w.heap.size w w') : r.Ok w' := PrV.below h hb
theorem TbM.okb {w w' : World} {r : TbM} (h : r.Ok w) (hb : Below w.heap.size w w') : r.Ok w' := ⟨h.rows.below hb, h.name⟩
theorem TxM.okb {w w' : World} {r : TxM} (h : r.Ok w) (hb : Below w.heap.size w w') : r.Ok w' := ⟨h.brs.below hb, h.name⟩
set_option maxRecDepth 100000 in
set_option maxHeartbeats 2000000 in
theorem eqf_ru {w : World} {s s' : Sl} {l l' : List RuM} (h : RulesV w s l) (h' : RulesV w s' l') (he : l'.map RuM.core = l.map RuM.core) : Calls Tryz.prog 70 #[.slice s.A s.n s.c, .slice s'.A s'.n s'.c, .func (.func 71) #[] #[]] w (fun e w' => e = .returned (.bool true) ∧ Below w.heap.size w w') := by
 have H := Lib.hid h
 have H' := Lib.hid h'
 have hll : l'.length = l.length := by have := congrArg List.length he; simpa using this
 have Hn := Lib.hid h.len
 have Hn' := Lib.hid h'.len
 have He : Hid (∀ k (h1 : k < l.length) (h2 : k < l'.length), (l'[k]).core = (l[k]).core) := by
  show ∀ k (h1 : k < l.length) (h2 : k < l'.length), (l'[k]).core = (l[k]).core
  intro k h1 h2
  have := congrArg (fun x => x[k]?) he
  simpa [h1, h2] using this
 have hs := h.small
 have hnn : s'.n = s.n := by rw [h.len, h'.len, hll]
 have Hll := Lib.hid hll
 clear h h' he hll
 obtain ⟨A, n, c⟩ := s
 obtain ⟨A', n', c'⟩ := s'
 dsimp only at *
 subst hnn
 have e1 : ((n' : Int) != (n' : Int)) = false := by simp
 go_enter Tryz.func70, Tryz.ntmps70
 go_wp2_with fail
 go_loopw [17] (fun i wr => ∃ k : Nat, k ≤ n' ∧ i = .int .i64 k ∧ Below w.heap.size w wr) (fun i _ => n' - (intOf i).toNat)
 case atStart => exact ⟨0, Nat.zero_le _, rfl, Below.refl _ _⟩
 case round =>
  obtain ⟨k, hk, rfl, hb⟩ := hrel
  by_cases hlt : k < n'
  ·have hkl : k < l.length := by have := Hn.out; omega
   have hkl' : k < l'.length := by have := Hll.out; omega
   obtain ⟨b, off, hA, hbb, c0, c1, c2, c3, c4, c5, c6, c7, c8⟩ := (H.out.below hb).at_ k hkl
   obtain ⟨b', off', hA', hbb', d0, d1, d2, d3, d4, d5, d6, d7, d8⟩ := (H'.out.below hb).at_ k hkl'
   dsimp only at hA hA'
   subst hA hA'
   have hr := (H.out.below hb).each _ (List.getElem_mem hkl)
   have hr' := (H'.out.below hb).each _ (List.getElem_mem hkl')
   have hc := He.out k hkl hkl'
   generalize l[k] = r at *
   generalize l'[k] = r' at *
   clear hkl hkl'
   have hsz := hb.size
   have y0 : Below wr.heap.size wr ((wr.alloc (.cells #[.string r.name, .bool r.spawn, .int .i64 r.level, .int .i64 r.time, .int .i64 r.chance, .int .i64 r.of_, .slice r.st.A r.st.n r.st.c, .slice r.sg.A r.sg.n r.sg.c, .slice r.sb.A r.sb.n r.sb.c] 103)).alloc (.cells #[.string r'.name, .bool r'.spawn, .int .i64 r'.level, .int .i64 r'.time, .int .i64 r'.chance, .int .i64 r'.of_, .slice r'.st.A r'.st.n r'.st.c, .slice r'.sg.A r'.sg.n r'.sg.c, .slice r'.sb.A r'.sb.n r'.sb.c] 103)) := ((Below.refl _ _).alloc (Nat.le_refl _) _).alloc (by simp) _
   have KC := Lib.hid (eq1_ru r r' (RuM.okb hr y0) (RuM.okb hr' y0) hc)
   have HX := Lib.hid (hb.trans (y0.mono hsz))
   have k0 : (0 : Int) ≤ (k : Int) := by omega
   have k1 : (k : Int) < (n' : Int) := by omega
   clear hr hr' hc y0
   go_wp2_with fail
   (with_reducible refine KC.out.mono ?_)
   rintro e w1 ⟨rfl, hb1⟩
   have HF := Lib.hid (HX.out.trans (hb1.mono HX.out.size))
   clear KC HX hb1
   go_wp2_with fail
   go_roundw
   case rel => exact ⟨k + 1, by omega, by go_num, HF.out⟩
   case measure => simp [intOf]; omega
  ·go_wp2_with fail
   go_ret
   exact ⟨rfl, hb⟩
set_option maxRecDepth 100000 in
set_option maxHeartbeats 2000000 in
theorem eqf_rw {w : World} {s s' : Sl} {l l' : List RwM} (h : RowsV w s l) (h' : RowsV w s' l') (he : l'.map RwM.core = l.map RwM.core) : Calls Tryz.prog 74 #[.slice s.A s.n s.c, .slice s'.A s'.n s'.c, .func (.func 75) #[] #[]] w (fun e w' => e = .returned (.bool true) ∧ Below w.heap.size w w') := by
 have H := Lib.hid h
 have H' := Lib.hid h'
 have hll : l'.length = l.length := by have := congrArg List.length he; simpa using this
 have Hn := Lib.hid h.len
 have Hn' := Lib.hid h'.len
 have He : Hid (∀ k (h1 : k < l.length) (h2 : k < l'.length), (l'[k]).core = (l[k]).core) := by
  show ∀ k (h1 : k < l.length) (h2 : k < l'.length), (l'[k]).core = (l[k]).core
  intro k h1 h2
  have := congrArg (fun x => x[k]?) he
  simpa [h1, h2] using this
 have hs := h.small
 have hnn : s'.n = s.n := by rw [h.len, h'.len, hll]
 have Hll := Lib.hid hll
 clear h h' he hll
 obtain ⟨A, n, c⟩ := s
 obtain ⟨A', n', c'⟩ := s'
 dsimp only at *
 subst hnn
 have e1 : ((n' : Int) != (n' : Int)) = false := by simp
 go_enter Tryz.func74, Tryz.ntmps74
 go_wp2_with fail
 go_loopw [17] (fun i wr => ∃ k : Nat, k ≤ n' ∧ i = .int .i64 k ∧ Below w.heap.size w wr) (fun i _ => n' - (intOf i).toNat)
 case atStart => exact ⟨0, Nat.zero_le _, rfl, Below.refl _ _⟩
 case round =>
  obtain ⟨k, hk, rfl, hb⟩ := hrel
  by_cases hlt : k < n'
  ·have hkl : k < l.length := by have := Hn.out; omega
   have hkl' : k < l'.length := by have := Hll.out; omega
   obtain ⟨b, off, hA, hbb, c0, c1⟩ := (H.out.below hb).at_ k hkl
   obtain ⟨b', off', hA', hbb', d0, d1⟩ := (H'.out.below hb).at_ k hkl'
   dsimp only at hA hA'
   subst hA hA'
   have hr := (H.out.below hb).each _ (List.getElem_mem hkl)
   have hr' := (H'.out.below hb).each _ (List.getElem_mem hkl')
   have hc := He.out k hkl hkl'
   generalize l[k] = r at *
   generalize l'[k] = r' at *
   clear hkl hkl'
   have hsz := hb.size
   have y0 : Below wr.heap.size wr ((wr.alloc (.cells #[.int .i64 r.weight, .slice r.sg.A r.sg.n r.sg.c] 109)).alloc (.cells #[.int .i64 r'.weight, .slice r'.sg.A r'.sg.n r'.sg.c] 109)) := ((Below.refl _ _).alloc (Nat.le_refl _) _).alloc (by simp) _
   have KC := Lib.hid (eq1_rw r r' (RwM.okb hr y0) (RwM.okb hr' y0) hc)
   have HX := Lib.hid (hb.trans (y0.mono hsz))
   have k0 : (0 : Int) ≤ (k : Int) := by omega
   have k1 : (k : Int) < (n' : Int) := by omega
   clear hr hr' hc y0
   go_wp2_with fail
   (with_reducible refine KC.out.mono ?_)
   rintro e w1 ⟨rfl, hb1⟩
   have HF := Lib.hid (HX.out.trans (hb1.mono HX.out.size))
   clear KC HX hb1
   go_wp2_with fail
   go_roundw
   case rel => exact ⟨k + 1, by omega, by go_num, HF.out⟩
   case measure => simp [intOf]; omega
  ·go_wp2_with fail
   go_ret
   exact ⟨rfl, hb⟩
set_option maxRecDepth 100000 in
set_option maxHeartbeats 2000000 in
theorem eqf_tx {w : World} {s s' : Sl} {l l' : List TxM} (h : TaxesV w s l) (h' : TaxesV w s' l') (he : l'.map TxM.core = l.map TxM.core) : Calls Tryz.prog 77 #[.slice s.A s.n s.c, .slice s'.A s'.n s'.c, .func (.func 78) #[] #[]] w (fun e w' => e = .returned (.bool true) ∧ Below w.heap.size w w') := by
 have H := Lib.hid h
 have H' := Lib.hid h'
 have hll : l'.length = l.length := by have := congrArg List.length he; simpa using this
 have Hn := Lib.hid h.len
 have Hn' := Lib.hid h'.len
 have He : Hid (∀ k (h1 : k < l.length) (h2 : k < l'.length), (l'[k]).core = (l[k]).core) := by
  show ∀ k (h1 : k < l.length) (h2 : k < l'.length), (l'[k]).core = (l[k]).core
  intro k h1 h2
  have := congrArg (fun x => x[k]?) he
  simpa [h1, h2] using this
 have hs := h.small
 have hnn : s'.n = s.n := by rw [h.len, h'.len, hll]
 have Hll := Lib.hid hll
 clear h h' he hll
 obtain ⟨A, n, c⟩ := s
 obtain ⟨A', n', c'⟩ := s'
 dsimp only at *
 subst hnn
 have e1 : ((n' : Int) != (n' : Int)) = false := by simp
 go_enter Tryz.func77, Tryz.ntmps77
 go_wp2_with fail
 go_loopw [17] (fun i wr => ∃ k : Nat, k ≤ n' ∧ i = .int .i64 k ∧ Below w.heap.size w wr) (fun i _ => n' - (intOf i).toNat)
 case atStart => exact ⟨0, Nat.zero_le _, rfl, Below.refl _ _⟩
 case round =>
  obtain ⟨k, hk, rfl, hb⟩ := hrel
  by_cases hlt : k < n'
  ·have hkl : k < l.length := by have := Hn.out; omega
   have hkl' : k < l'.length := by have := Hll.out; omega
   obtain ⟨b, off, hA, hbb, c0, c1⟩ := (H.out.below hb).at_ k hkl
   obtain ⟨b', off', hA', hbb', d0, d1⟩ := (H'.out.below hb).at_ k hkl'
   dsimp only at hA hA'
   subst hA hA'
   have hr := (H.out.below hb).each _ (List.getElem_mem hkl)
   have hr' := (H'.out.below hb).each _ (List.getElem_mem hkl')
   have hc := He.out k hkl hkl'
   generalize l[k] = r at *
   generalize l'[k] = r' at *
   clear hkl hkl'
   have hsz := hb.size
   have y0 : Below wr.heap.size wr ((wr.alloc (.cells #[.string r.name, .slice r.sb.A r.sb.n r.sb.c] 115)).alloc (.cells #[.string r'.name, .slice r'.sb.A r'.sb.n r'.sb.c] 115)) := ((Below.refl _ _).alloc (Nat.le_refl _) _).alloc (by simp) _
   have KC := Lib.hid (eq1_tx r r' (TxM.okb hr y0) (TxM.okb hr' y0) hc)
   have HX := Lib.hid (hb.trans (y0.mono hsz))
   have k0 : (0 : Int) ≤ (k : Int) := by omega
   have k1 : (k : Int) < (n' : Int) := by omega
   clear hr hr' hc y0
   go_wp2_with fail
   (with_reducible refine KC.out.mono ?_)
   rintro e w1 ⟨rfl, hb1⟩
   have HF := Lib.hid (HX.out.trans (hb1.mono HX.out.size))
   clear KC HX hb1
   go_wp2_with fail
   go_roundw
   case rel => exact ⟨k + 1, by omega, by go_num, HF.out⟩
   case measure => simp [intOf]; omega
  ·go_wp2_with fail
   go_ret
   exact ⟨rfl, hb⟩
set_option maxRecDepth 100000 in
set_option maxHeartbeats 2000000 in
theorem eq1_tb {w : World} (r r' : TbM) (hr : r.Ok w) (hr' : r'.Ok w) (he : r'.core = r.core) : Calls Tryz.prog 73 #[r.val, r'.val] w (fun e w' => e = .returned (.bool true) ∧ Below w.heap.size w w') := by
 obtain ⟨nm, rows, ⟨A1, n1, c1⟩⟩ := r
 obtain ⟨nm', rows', ⟨A4, n4, c4⟩⟩ := r'
 simp only [TbM.core, TbM.mk.injEq, and_true] at he
 obtain ⟨rfl, he⟩ := he
 have X0 : Below w.heap.size w ((w.alloc (.cells #[.string nm', .slice A1 n1 c1] 107)).alloc (.cells #[.string nm', .slice A4 n4 c4] 107)) := ((Below.refl _ _).alloc (Nat.le_refl _) _).alloc (by simp) _
 have B1 := (Bk.new w 107 [.string nm', .slice A1 n1 c1]).alloc (.cells #[.string nm', .slice A4 n4 c4] 107)
 have B2 := Bk.new (w.alloc (.cells #[.string nm', .slice A1 n1 c1] 107)) 107 [.string nm', .slice A4 n4 c4]
 rw [World.size_alloc] at B2
 have K0 : Hid (∀ W : World, Below w.heap.size w W → Calls Tryz.prog 74 #[.slice A1 n1 c1, .slice A4 n4 c4, .func (.func 75) #[] #[]] W fun e w' => e = .returned (.bool true) ∧ Below W.heap.size W w') := fun W hW => eqf_rw (s := ⟨A1, n1, c1⟩) (s' := ⟨A4, n4, c4⟩) (hr.rows.below hW) (hr'.rows.below hW) he
 have HX0 := Lib.hid X0
 have HB1 := Lib.hid B1
 have HB2 := Lib.hid B2
 clear X0 B1 B2 hr hr'
 go_enter Tryz.func73, Tryz.ntmps73
 go_wp2_with fail
 (with_reducible refine (K0.out _ HX0.out).mono ?_)
 rintro e w1 ⟨rfl, hb1⟩
 have HX1 := Lib.hid (HX0.out.trans (hb1.mono HX0.out.size))
 have C1 := Lib.hid (HB1.out.below hb1 HB1.out.lt)
 have C2 := Lib.hid (HB2.out.below hb1 HB2.out.lt)
 clear hb1
 go_wp2_with fail
 go_ret
 exact ⟨rfl, HX1.out⟩
set_option maxRecDepth 100000 in
set_option maxHeartbeats 2000000 in
theorem eqf_tb {w : World} {s s' : Sl} {l l' : List TbM} (h : TablesV w s l) (h' : TablesV w s' l') (he : l'.map TbM.core = l.map TbM.core) : Calls Tryz.prog 72 #[.slice s.A s.n s.c, .slice s'.A s'.n s'.c, .func (.func 73) #[] #[]] w (fun e w' => e = .returned (.bool true) ∧ Below w.heap.size w w') := by
 have H := Lib.hid h
 have H' := Lib.hid h'
 have hll : l'.length = l.length := by have := congrArg List.length he; simpa using this
 have Hn := Lib.hid h.len
 have Hn' := Lib.hid h'.len
 have He : Hid (∀ k (h1 : k < l.length) (h2 : k < l'.length), (l'[k]).core = (l[k]).core) := by
  show ∀ k (h1 : k < l.length) (h2 : k < l'.length), (l'[k]).core = (l[k]).core
  intro k h1 h2
  have := congrArg (fun x => x[k]?) he
  simpa [h1, h2] using this
 have hs := h.small
 have hnn : s'.n = s.n := by rw [h.len, h'.len, hll]
 have Hll := Lib.hid hll
 clear h h' he hll
 obtain ⟨A, n, c⟩ := s
 obtain ⟨A', n', c'⟩ := s'
 dsimp only at *
 subst hnn
 have e1 : ((n' : Int) != (n' : Int)) = false := by simp
 go_enter Tryz.func72, Tryz.ntmps72
 go_wp2_with fail
 go_loopw [17] (fun i wr => ∃ k : Nat, k ≤ n' ∧ i = .int .i64 k ∧ Below w.heap.size w wr) (fun i _ => n' - (intOf i).toNat)
 case atStart => exact ⟨0, Nat.zero_le _, rfl, Below.refl _ _⟩
 case round =>
  obtain ⟨k, hk, rfl, hb⟩ := hrel
  by_cases hlt : k < n'
  ·have hkl : k < l.length := by have := Hn.out; omega
   have hkl' : k < l'.length := by have := Hll.out; omega
   obtain ⟨b, off, hA, hbb, c0, c1⟩ := (H.out.below hb).at_ k hkl
   obtain ⟨b', off', hA', hbb', d0, d1⟩ := (H'.out.below hb).at_ k hkl'
   dsimp only at hA hA'
   subst hA hA'
   have hr := (H.out.below hb).each _ (List.getElem_mem hkl)
   have hr' := (H'.out.below hb).each _ (List.getElem_mem hkl')
   have hc := He.out k hkl hkl'
   generalize l[k] = r at *
   generalize l'[k] = r' at *
   clear hkl hkl'
   have hsz := hb.size
   have y0 : Below wr.heap.size wr ((wr.alloc (.cells #[.string r.name, .slice r.sr.A r.sr.n r.sr.c] 107)).alloc (.cells #[.string r'.name, .slice r'.sr.A r'.sr.n r'.sr.c] 107)) := ((Below.refl _ _).alloc (Nat.le_refl _) _).alloc (by simp) _
   have KC := Lib.hid (eq1_tb r r' (TbM.okb hr y0) (TbM.okb hr' y0) hc)
   have HX := Lib.hid (hb.trans (y0.mono hsz))
   have k0 : (0 : Int) ≤ (k : Int) := by omega
   have k1 : (k : Int) < (n' : Int) := by omega
   clear hr hr' hc y0
   go_wp2_with fail
   (with_reducible refine KC.out.mono ?_)
   rintro e w1 ⟨rfl, hb1⟩
   have HF := Lib.hid (HX.out.trans (hb1.mono HX.out.size))
   clear KC HX hb1
   go_wp2_with fail
   go_roundw
   case rel => exact ⟨k + 1, by omega, by go_num, HF.out⟩
   case measure => simp [intOf]; omega
  ·go_wp2_with fail
   go_ret
   exact ⟨rfl, hb⟩
set_option maxRecDepth 100000 in
set_option maxHeartbeats 2000000 in
theorem Equal_eq {w : World} {a b : CatM} (ha : a.Ok w) (hb : b.Ok w) (he : b.core = a.core) : Calls Tryz.prog 33 #[a.val, b.val] w (fun e w' => e = .returned (.bool true) ∧ Below w.heap.size w w') := by
 obtain ⟨i1, r1, t1, x1, ⟨Ai, ain, aic⟩, ⟨Ar, arn, arc⟩, ⟨At, atn, atc⟩, ⟨Ax, axn, axc⟩⟩ := a
 obtain ⟨i2, r2, t2, x2, ⟨Bi, bin, bic⟩, ⟨Br, brn, brc⟩, ⟨Bt, btn, btc⟩, ⟨Bx, bxn, bxc⟩⟩ := b
 simp only [CatM.core, CatM.mk.injEq, and_true] at he
 obtain ⟨rfl, e2, e3, e4⟩ := he
 have X0 : Below w.heap.size w ((w.alloc (.cells #[.slice Ai ain aic, .slice Ar arn arc, .slice At atn atc, .slice Ax axn axc] 28)).alloc (.cells #[.slice Bi bin bic, .slice Br brn brc, .slice Bt btn btc, .slice Bx bxn bxc] 28)) := ((Below.refl _ _).alloc (Nat.le_refl _) _).alloc (by simp) _
 have B1 := (Bk.new w 28 [.slice Ai ain aic, .slice Ar arn arc, .slice At atn atc, .slice Ax axn axc]).alloc (.cells #[.slice Bi bin bic, .slice Br brn brc, .slice Bt btn btc, .slice Bx bxn bxc] 28)
 have B2 := Bk.new (w.alloc (.cells #[.slice Ai ain aic, .slice Ar arn arc, .slice At atn atc, .slice Ax axn axc] 28)) 28 [.slice Bi bin bic, .slice Br brn brc, .slice Bt btn btc, .slice Bx bxn bxc]
 rw [World.size_alloc] at B2
 have K0 : Hid (∀ W : World, Below w.heap.size w W → Calls Tryz.prog 69 #[.slice Ai ain aic, .slice Bi bin bic] W fun e w' => e = .returned (.bool true) ∧ Below W.heap.size W w') := fun W hW => eqs_it (s := ⟨Ai, ain, aic⟩) (s' := ⟨Bi, bin, bic⟩) (ha.items.below hW) (hb.items.below hW)
 have K1 : Hid (∀ W : World, Below w.heap.size w W → Calls Tryz.prog 70 #[.slice Ar arn arc, .slice Br brn brc, .func (.func 71) #[] #[]] W fun e w' => e = .returned (.bool true) ∧ Below W.heap.size W w') := fun W hW => eqf_ru (s := ⟨Ar, arn, arc⟩) (s' := ⟨Br, brn, brc⟩) (ha.rules.below hW) (hb.rules.below hW) e2
 have K2 : Hid (∀ W : World, Below w.heap.size w W → Calls Tryz.prog 72 #[.slice At atn atc, .slice Bt btn btc, .func (.func 73) #[] #[]] W fun e w' => e = .returned (.bool true) ∧ Below W.heap.size W w') := fun W hW => eqf_tb (s := ⟨At, atn, atc⟩) (s' := ⟨Bt, btn, btc⟩) (ha.tables.below hW) (hb.tables.below hW) e3
 have K3 : Hid (∀ W : World, Below w.heap.size w W → Calls Tryz.prog 77 #[.slice Ax axn axc, .slice Bx bxn bxc, .func (.func 78) #[] #[]] W fun e w' => e = .returned (.bool true) ∧ Below W.heap.size W w') := fun W hW => eqf_tx (s := ⟨Ax, axn, axc⟩) (s' := ⟨Bx, bxn, bxc⟩) (ha.taxes.below hW) (hb.taxes.below hW) e4
 have HX0 := Lib.hid X0
 have D1 := Lib.hid B1
 have D2 := Lib.hid B2
 clear X0 B1 B2 ha hb e2 e3 e4
 go_enter Tryz.func33, Tryz.ntmps33
 go_wp2_with fail
 (with_reducible refine (K0.out _ HX0.out).mono ?_)
 rintro e w1 ⟨rfl, hb1⟩
 have HX1 := Lib.hid (HX0.out.trans (hb1.mono HX0.out.size))
 have E1 := Lib.hid (D1.out.below hb1 D1.out.lt)
 have E2 := Lib.hid (D2.out.below hb1 D2.out.lt)
 clear D1 D2 hb1
 have f1 : w1.cell? ⟨w.heap.size, 1, none⟩ = some (.slice Ar arn arc) := E1.out.cell 1
 have f2 : w1.cell? ⟨w.heap.size + 1, 1, none⟩ = some (.slice Br brn brc) := E2.out.cell 1
 have l1 := E1.out.lt
 have l2 := E2.out.lt
 have D1 := Lib.hid E1.out
 have D2 := Lib.hid E2.out
 clear E1 E2
 go_wp2_with fail
 (with_reducible refine (K1.out _ HX1.out).mono ?_)
 rintro e w2 ⟨rfl, hb2⟩
 have HX2 := Lib.hid (HX1.out.trans (hb2.mono HX1.out.size))
 clear f1 f2 l1 l2
 have E1 := Lib.hid (D1.out.below hb2 D1.out.lt)
 have E2 := Lib.hid (D2.out.below hb2 D2.out.lt)
 clear D1 D2 hb2
 have f1 : w2.cell? ⟨w.heap.size, 2, none⟩ = some (.slice At atn atc) := E1.out.cell 2
 have f2 : w2.cell? ⟨w.heap.size + 1, 2, none⟩ = some (.slice Bt btn btc) := E2.out.cell 2
 have l1 := E1.out.lt
 have l2 := E2.out.lt
 have D1 := Lib.hid E1.out
 have D2 := Lib.hid E2.out
 clear E1 E2
 go_wp2_with fail
 (with_reducible refine (K2.out _ HX2.out).mono ?_)
 rintro e w3 ⟨rfl, hb3⟩
 have HX3 := Lib.hid (HX2.out.trans (hb3.mono HX2.out.size))
 clear f1 f2 l1 l2
 have E1 := Lib.hid (D1.out.below hb3 D1.out.lt)
 have E2 := Lib.hid (D2.out.below hb3 D2.out.lt)
 clear D1 D2 hb3
 have f1 : w3.cell? ⟨w.heap.size, 3, none⟩ = some (.slice Ax axn axc) := E1.out.cell 3
 have f2 : w3.cell? ⟨w.heap.size + 1, 3, none⟩ = some (.slice Bx bxn bxc) := E2.out.cell 3
 have l1 := E1.out.lt
 have l2 := E2.out.lt
 have D1 := Lib.hid E1.out
 have D2 := Lib.hid E2.out
 clear E1 E2
 go_wp2_with fail
 (with_reducible refine (K3.out _ HX3.out).mono ?_)
 rintro e w4 ⟨rfl, hb4⟩
 have HX4 := Lib.hid (HX3.out.trans (hb4.mono HX3.out.size))
 go_wp2_with fail
 go_ret
 exact ⟨rfl, HX4.out⟩
theorem sort_at {n : Nat} {l : List P2} : ∀ {k : Nat}, sortTo n l k = true → ∀ j, j < k → lastAt l j < itemK l j ∧ itemK l j < (n : Int) := by
 intro k
 induction k with
 | zero => intro _ j hj; omega
 | succ k ih =>
   intro h j hj
   simp only [sortTo, Bool.and_eq_true, decide_eq_true_eq] at h
   by_cases e : j = k
   ·subst e; exact ⟨h.2.1, h.2.2⟩
   ·exact ih h.1 j (by omega)
theorem itemK_get {l : List P2} {k : Nat} (h : k < l.length) : itemK l k = l[k].1 := by simp [itemK, h]
theorem sort_lt {n : Nat} {l : List P2} (h : sortB n l = true) : ∀ j, j < l.length → (∀ i, i < j → itemK l i < itemK l j) ∧ 0 ≤ itemK l j ∧ itemK l j < (n : Int) := by
 intro j
 induction j with
 | zero =>
   intro hj
   have := sort_at h 0 hj
   simp only [lastAt, if_pos] at this
   exact ⟨fun i hi => by omega, by omega, this.2⟩
 | succ j ih =>
   intro hj
   have h1 := sort_at h (j + 1) hj
   have h2 := ih (by omega)
   have h3 : lastAt l (j + 1) = itemK l j := by simp [lastAt, itemK]
   rw [h3] at h1
   refine ⟨fun i hi => ?_, by omega, h1.2⟩
   by_cases e : i = j
   ·subst e; exact h1.1
   ·have := h2.1 i (by omega); omega
theorem bkt_sort {n K : Nat} {l : List P2} (h : sortB n l = true) (hn : n ≤ K) : bkt l K = l := by
 have key : ∀ k, k ≤ l.length → bkt (l.take k) K = l.take k := by
  intro k
  induction k with
  | zero =>
    intro _
    have : ∀ K, bkt ([] : List P2) K = [] := fun K => by induction K with | zero => rfl | succ K ih => simp [bkt, ih]
    simp [this]
  | succ k ih =>
    intro hk
    have e : l.take (k + 1) = l.take k ++ [l[k]] := by rw [List.take_add_one, List.getElem?_eq_getElem (by omega)]; rfl
    obtain ⟨h1, h2, h3⟩ := sort_lt h k (by omega)
    rw [itemK_get (by omega)] at h2 h3
    rw [e, bkt_snoc _ _ _ h2 (by omega), ih (by omega), insR]
    have hall : ∀ p ∈ l.take k, p.1 < l[k].1 := by
     intro p hp
     obtain ⟨i, hi, rfl⟩ := List.getElem_of_mem hp
     have hi' : i < k := by simp at hi; omega
     rw [List.getElem_take]
     have := h1 i hi'
     rw [itemK_get (by omega), itemK_get (by omega)] at this
     exact this
    rw [filt_all _ (fun a ha => by have := hall a ha; simp; omega), filt_none _ (fun a ha => by have := hall a ha; simp; omega)]
 have := key l.length (Nat.le_refl _)
 rw [List.take_length] at this
 exact this
theorem sort_range {n : Nat} {l : List P2} (h : sortB n l = true) : ∀ p ∈ l, 0 ≤ p.1 ∧ p.1 < (n : Int) := by
 intro p hp
 obtain ⟨i, hi, rfl⟩ := List.getElem_of_mem hp
 have := sort_lt h i hi
 rw [itemK_get hi] at this
 exact this.2
def idT (n : Nat) : List Tr := (List.range n).map fun i : Nat => ((i : Int), 1, 1)
theorem alike_self (t : It) : alikeB t t = true := by simp [alikeB]
theorem idx_self {l : List It} (hd : Dist l) {k : Nat} (hk : k < l.length) : idxTo l l.length (itAt l k).name = some k := idx_some hd (Nat.le_refl _) hk rfl
theorem keepErr_self {l : List It} (hd : Dist l) {k : Nat} (hk : k < l.length) : keepErr l (itAt l k) = 0 := by
 unfold keepErr
 rw [idx_self hd hk]
 simp [alike_self]
theorem new_same {l : List It} (hd : Dist l) : newE l l [] = 0 ∧ newL l l [] = idT l.length := by
 have hE : ∀ k, k ≤ l.length → endE l l (renTo l l [] 0) k = 0 := by
  intro k
  induction k with
  | zero => intro _; rfl
  | succ k ih =>
    intro hk
    simp only [endE, ih (by omega), keepErr_self hd (show k < l.length by omega)]
    simp
 have h0 : newE l l [] = 0 := by
  have := hE l.length (Nat.le_refl _)
  simp only [newE, List.length_nil, renE]
  simpa using this
 refine ⟨h0, ?_⟩
 unfold newL
 rw [if_pos h0]
 simp only [endTo, idT, List.length_nil]
 apply List.map_congr_left
 intro i hi
 have hi' := List.mem_range.1 hi
 rw [if_pos hi']
 have hb : bAt (renTo l l [] 0).1 i = false := by simp [renTo, bAt, hi']
 simp only [endAt, hb]
 simp [keepT, idx_self hd hi']
theorem codeBoth_self {m : CatM} (h : codeC m = 0) : codeBoth m m = 0 := by simp [codeBoth, h]
theorem newC_same {m : CatM} (h : codeC m = 0) : newCE m m [] = 0 ∧ newCL m m [] = idT m.items.length := by
 obtain ⟨h1, h2⟩ := new_same (dist_cat h)
 simp only [newCE, newCL, codeBoth_self h]
 exact ⟨by simpa using h1, by simpa using h2⟩
/-- The amounts of a valid catalog are sorted. -/
theorem code_sorted {m : CatM} (h : codeC m = 0) : ∀ x ∈ allL m, sortB m.items.length x.2 = true := by
 have hw := (code_parts h).2.2.2.1
 simp only [wfC, Bool.and_eq_true, List.all_eq_true] at hw
 intro x hx
 rcases List.mem_append.1 hx with hx | hx
 ·obtain ⟨r, hr, hx⟩ := List.mem_flatMap.1 hx
  have := hw.1.1.2 r hr
  simp only [wfR, Bool.and_eq_true] at this
  simp only [ruL, List.mem_cons, List.not_mem_nil, or_false] at hx
  rcases hx with rfl | rfl | rfl
  ·exact this.1.1.1.1
  ·exact this.1.1.1.2
  ·exact this.1.1.2
 ·obtain ⟨t, ht, hx⟩ := List.mem_flatMap.1 hx
  have := hw.1.2 t ht
  simp only [wfT, Bool.and_eq_true, List.all_eq_true] at this
  obtain ⟨r, hr, rfl⟩ := List.mem_map.1 hx
  exact this.2 r hr
theorem code_range {m : CatM} (h : codeC m = 0) : ∀ x ∈ allL m, ∀ p ∈ x.2, 0 ≤ p.1 ∧ p.1 < (m.items.length : Int) := fun x hx => sort_range (code_sorted h x hx)
theorem code_64 {m : CatM} (h : codeC m = 0) : m.items.length ≤ 64 := by
 have := (code_parts h).1
 simp only [limC, Bool.and_eq_true, decide_eq_true_eq] at this
 exact this.1.1.1.1.1.1
theorem newTo_self {l : List It} (hd : Dist l) : ∀ k, k ≤ l.length → newTo l l k = [] := by
 intro k
 induction k with
 | zero => intro _; rfl
 | succ k ih =>
   intro hk
   simp only [newTo, idx_self hd (show k < l.length by omega), ih (by omega)]
   simp
theorem mergeL_self {l : List It} (hd : Dist l) : mergeL l l l.length = l := by
 simp only [mergeL, newTo_self hd l.length (Nat.le_refl _), List.append_nil]
 refine it_ext (by simp) fun i hi => ?_
 have hi' : i < l.length := by simpa using hi
 rw [itAt_merge _ _ _ _ hi', if_pos hi']
 simp [mergeIt, idx_self hd hi']
theorem placeL_self {l : List It} (hd : Dist l) : placeL l l = (List.range l.length).map fun i : Nat => (i : Int) := by
 simp only [placeL]
 apply List.map_congr_left
 intro i hi
 simp [placeOf, idx_self hd (List.mem_range.1 hi)]
theorem amL_self {l : List It} (hd : Dist l) {a : List P2} (h : sortB l.length a = true) : amL (placeL l l) l.length a = a := by
 have e : a.map (mvA (placeL l l)) = a := by
  rw [placeL_self hd]
  refine (List.map_congr_left fun p hp => ?_).trans (List.map_id _)
  have := sort_range h p hp
  have h2 : p.1.toNat < l.length := by omega
  have h3 : ((p.1.toNat : Nat) : Int) = p.1 := by omega
  simp [mvA, plAt, h2, h3]
 rw [amL, e, bkt_sort h (Nat.le_refl _)]
theorem mg_same {m : CatM} (h : codeC m = 0) : mgE m m = 0 ∧ (mgC m m).core = m.core := by
 have hd := dist_cat h
 have hE : ∀ k, k ≤ m.items.length → mgErr m.items m.items k = 0 := by
  intro k
  induction k with
  | zero => intro _; rfl
  | succ k ih =>
    intro hk
    simp only [mgErr, ih (by omega), keepErr_self hd (show k < m.items.length by omega)]
    simp
 have h0 : mgE m m = 0 := by
  simp only [mgE, codeBoth_self h, hE _ (Nat.le_refl _), mergeL_self hd]
  have := code_64 h
  simp; omega
 refine ⟨h0, ?_⟩
 rw [mgC, if_neg (by rw [h0]; decide), mergeL_self hd]
 have hs := code_sorted h
 have hr : m.rules.map (mvR (placeL m.items m.items) m.items.length) = m.rules := by
  refine (List.map_congr_left fun r hr => ?_).trans (List.map_id _)
  have k : ∀ x ∈ ruL r, amL (placeL m.items m.items) m.items.length x.2 = x.2 := fun x hx => amL_self hd (hs x (List.mem_append_left _ (List.mem_flatMap.2 ⟨r, hr, hx⟩)))
  have k1 := k (r.st, r.take) (by simp [ruL])
  have k2 := k (r.sg, r.give) (by simp [ruL])
  have k3 := k (r.sb, r.back) (by simp [ruL])
  dsimp only at k1 k2 k3
  simp only [mvR, k1, k2, k3, id]
 have ht : m.tables.map (mvT (placeL m.items m.items) m.items.length) = m.tables := by
  refine (List.map_congr_left fun t ht => ?_).trans (List.map_id _)
  have e : t.rows.map (mvW (placeL m.items m.items) m.items.length) = t.rows := by
   refine (List.map_congr_left fun r hr => ?_).trans (List.map_id _)
   have k1 := amL_self hd (hs (r.sg, r.give) (List.mem_append_right _ (List.mem_flatMap.2 ⟨t, ht, List.mem_map.2 ⟨r, hr, rfl⟩⟩)))
   dsimp only at k1
   simp only [mvW, k1, id]
  simp only [mvT, e, id]
 simp only [CatM.core, mvC, hr, ht]
theorem idT_at {n k : Nat} (h : k < n) : itemAt (idT n) k = k ∧ numAt (idT n) k = 1 ∧ denAt (idT n) k = 1 := by
 have : (idT n)[k]? = some ((k : Int), 1, 1) := by simp [idT, h]
 simp [itemAt, numAt, denAt, this]
theorem conv_same {n : Nat} {hs : List Int} (hl : hs.length = n) (hn : n ≤ 64) (hu : unitsB hs = true) :
 argB (idT n) n hs = true ∧ convE (idT n) n hs = 0 ∧ nowL (idT n) n hs = hs ∧ leftL (idT n) n hs = List.replicate n 0 := by
 have hlen : (idT n).length = n := by simp [idT]
 have hv : ∀ k, k ≤ n → validTo (idT n) n k = true := by
  intro k
  induction k with
  | zero => intro _; rfl
  | succ k ih =>
    intro hk
    obtain ⟨a, b, c⟩ := idT_at (n := n) (k := k) (by omega)
    simp only [validTo, ih (by omega), okAt, okT, a, b, c, Bool.true_and, decide_eq_true_eq]
    right; omega
 have ha : argB (idT n) n hs = true := by
  simp only [argB, validB, hlen, hv n (Nat.le_refl _), hl, hu, Bool.and_true, decide_true]
  simp; omega
 have hu' := hu
 simp only [unitsB, decide_eq_true_eq] at hu'
 have hsum : ∀ (j : Nat) (k : Nat), k ≤ n → sumTo (idT n) hs (j : Int) k = if j < k then wAt hs j else 0 := by
  intro j k
  induction k with
  | zero => intro _; simp [sumTo]
  | succ k ih =>
    intro hk
    obtain ⟨a, b, c⟩ := idT_at (n := n) (k := k) (by omega)
    simp only [sumTo, ih (by omega), term, a, b, c, Int.ediv_one, Int.mul_one]
    by_cases e : k = j
    ·subst e; simp
    ·have e1 : ¬ ((k : Int) = (j : Int)) := by omega
     rw [if_neg e1]
     by_cases e2 : j < k
     ·rw [if_pos e2, if_pos (by omega)]; omega
     ·rw [if_neg e2, if_neg (by omega)]; rfl
 have hlim : limB (idT n) n hs = true := by
  simp only [limB, decide_eq_true_eq, hlen, Int.toNat_natCast]
  intro j hj
  rw [hsum j n (Nat.le_refl _), if_pos hj]
  exact (hu' j (by omega)).2
 have h0 : convE (idT n) n hs = 0 := convE_ok ha hlim
 refine ⟨ha, h0, ?_, ?_⟩
 ·rw [nowL, if_pos h0, hlen, Int.toNat_natCast]
  apply List.ext_getElem
  ·simp [hl]
  ·intro i h1 h2
   have hi : i < n := by simpa using h1
   simp only [List.getElem_map, List.getElem_range]
   rw [hsum i n (Nat.le_refl _), if_pos hi]
   simp [wAt, h2]
 ·rw [leftL, if_pos h0, hlen]
  apply List.ext_getElem
  ·simp
  ·intro i h1 h2
   have hi : i < n := by simpa using h1
   obtain ⟨a, b, c⟩ := idT_at (n := n) (k := i) hi
   simp only [List.getElem_map, List.getElem_range, List.getElem_replicate, leftAt, a, c]
   rw [if_neg (by omega), Int.emod_one]
theorem neq64 (x0 : Int) (x1 : Int) (x2 : Int) (W : World) : (binOp .neq 64 (.agg #[.int .i64 x0, .int .i64 x1, .int .i64 x2]) (.agg #[.int .i64 x0, .int .i64 x1, .int .i64 x2])).run Tryz.prog W = .ok (.bool false) W := by
 rw [run_neq_struct, run_equalIn_struct W 9999 64 _ _ (by kernel_rfl) (by kernel_rfl)]
 have hf : (Tryz.prog.fieldsOf 64).toList.map (fun f => (f.name, f.type, f.offset)) = [("Item", 3, 0), ("Num", 3, 1), ("Den", 3, 2)] := by kernel_rfl
 generalize (Tryz.prog.fieldsOf 64).toList = L at hf ⊢
 obtain ⟨f0, f1, f2, rfl⟩ : ∃ f0 f1 f2, L = [f0, f1, f2] := by
  have hl : L.length = 3 := by have := congrArg List.length hf; simpa using this
  rcases L with _ | ⟨f0, _ | ⟨f1, _ | ⟨f2, _ | ⟨f3, L⟩⟩⟩⟩ <;> simp at hl
  exact ⟨f0, f1, f2, rfl⟩
 ·skip
  simp only [List.map_cons, List.map_nil, List.cons.injEq, Prod.mk.injEq, and_true] at hf
  obtain ⟨⟨n0, t0, o0⟩, ⟨n1, t1, o1⟩, ⟨n2, t2, o2⟩⟩ := hf
  have p0 : ∀ (W : World), (part 3 #[Value.int .i64 x0, .int .i64 x1, .int .i64 x2] 0).run Tryz.prog W = .ok (.int .i64 x0) W := fun W => by kernel_rfl
  have p1 : ∀ (W : World), (part 3 #[Value.int .i64 x0, .int .i64 x1, .int .i64 x2] 1).run Tryz.prog W = .ok (.int .i64 x1) W := fun W => by kernel_rfl
  have p2 : ∀ (W : World), (part 3 #[Value.int .i64 x0, .int .i64 x1, .int .i64 x2] 2).run Tryz.prog W = .ok (.int .i64 x2) W := fun W => by kernel_rfl
  have qi : ∀ (W : World) (u : Int), (Op.equalIn 9999 3 (.int .i64 u) (.int .i64 u)).run Tryz.prog W = .ok true W := fun W u => by
   rw [run_equalIn_int W 9998 3 .i64 .i64 u u Tryz.underlying3]; simp
  simp [Op.eqFields, n0, t0, o0, p0, n1, t1, o1, p1, n2, t2, o2, p2, Sem.run_bind, qi]
theorem heldL_units2 (zs : List Int) (a k : Nat) : unitsB (heldL zs a k) = true := by
 have bd : ∀ n : Int, 0 ≤ heldOf n ∧ heldOf n ≤ 1099511627776 := fun n => by
  unfold heldOf
  split
  ·omega
  ·split <;> omega
 simp only [unitsB, decide_eq_true_eq]
 intro i hi
 have hi' : i < k := by simpa using hi
 have e : wAt (heldL zs a k) i = heldAt zs a i := by simp [wAt, heldL, hi']
 rw [e]
 exact bd _
theorem newS {w : World} {m : CatM} (hok : m.Ok w) (hT : Tab w) (hc : codeC m = 0) : Calls Tryz.prog 12 #[m.val, m.val, .slice none 0 0] w fun e w' => ∃ A c, e = .returned (.tuple #[.slice A m.si.n c, .int .i64 0]) ∧ TosV w' A m.si.n (idT m.si.n) ∧ Below w.heap.size w w' := by
 have h0 : RensV w none 0 [] := ⟨.inl rfl, rfl, by omega, fun k hk => absurd hk (by omega)⟩
 refine (New_cat (R := ⟨none, 0, 0⟩) hok hok h0 hT).mono ?_
 rintro e w' ⟨A, c, rfl, hrow, hb⟩
 obtain ⟨e1, e2⟩ := newC_same hc
 have hn : m.si.n = m.items.length := hok.items.len
 have hl : (idT m.items.length).length = m.items.length := by simp [idT]
 rw [e2] at hrow
 rw [hn]
 exact ⟨A, c, by rw [e1, e2, hl], ⟨hrow, hl.symm⟩, hb⟩
theorem mgS {w : World} {m : CatM} (hok : m.Ok w) (hT : Tab w) (hs : CatSm m) : Calls Tryz.prog 18 #[m.val, m.val] w fun e w' => ∃ d : CatM, e = .returned (.tuple #[d.val, .int .i64 0]) ∧ d.Ok w' ∧ d.core = m.core ∧ Below w.heap.size w w' := by
 have hsh : ∀ x ∈ allL m, x.2.length ≤ 12 := by
  intro x hx
  rcases List.mem_append.1 hx with hx | hx
  ·obtain ⟨r, hr, hx⟩ := List.mem_flatMap.1 hx
   have := hs.short r hr
   simp only [ruL, List.mem_cons, List.not_mem_nil, or_false] at hx
   unfold ruSmall at this
   rcases hx with rfl | rfl | rfl <;> (dsimp only; omega)
  ·obtain ⟨t, ht, hx⟩ := List.mem_flatMap.1 hx
   obtain ⟨r, hr, rfl⟩ := List.mem_map.1 hx
   have := hs.rows t ht r hr
   dsimp only; omega
 refine (Merge_any hok hok hT hsh code_64 code_range).mono ?_
 rintro e w' ⟨d, rfl, hd, hc, hb⟩
 obtain ⟨e1, e2⟩ := mg_same hs.code
 exact ⟨d, by rw [e1], hd, by rw [hc, e2], hb⟩
theorem heldS {w : World} {A : Option Addr} {n K : Nat} (c : Nat) {zs : List Int} (h : IntsV w A n zs) (hK : K ≤ 64) : Calls Tryz.prog 23 #[.int .i64 K, .slice A n c, .int .i64 0] w fun e w' => ∃ A' c', e = .returned (.slice A' K c') ∧ IntsV w' A' K (heldL zs 0 K) ∧ (A' = none → K = 0 ∧ c' = 0) ∧ Below w.heap.size w w' := by
 refine (held_anyS c K 0 h (by omega) (by omega)).mono ?_
 rintro e w' ⟨v, rfl, ho, hb⟩
 obtain ⟨A', c', rfl, hr, hn, _⟩ := row_form ho
 refine ⟨A', c', rfl, ⟨hr, by simp, fun z hz => ?_⟩, hn, hb⟩
 have hu := heldL_units2 zs 0 K
 simp only [unitsB, decide_eq_true_eq] at hu
 obtain ⟨i, hi, rfl⟩ := List.getElem_of_mem hz
 have := hu i hi
 simp only [wAt, List.getElem?_eq_getElem hi, Option.getD_some] at this
 omega
theorem convS {w : World} {A A' : Option Addr} {n : Nat} (c c' : Nat) {hs : List Int} (ht : TosV w A n (idT n)) (hh : IntsV w A' n hs) (hn : n ≤ 64) (hA' : A' = none → n = 0 ∧ c' = 0) (hu : unitsB hs = true) :
 Calls Tryz.prog 27 #[.slice A n c, .int .i64 n, .slice A' n c'] w fun e w' => ∃ A1 c1 A2 c2, e = .returned (.tuple #[.slice A1 n c1, .slice A2 n c2, .int .i64 0]) ∧ Row w' w'.heap.size A1 (ints hs) ∧ Row w' w'.heap.size A2 (ints (List.replicate n 0)) ∧ Below w.heap.size w w' := by
 have hl : hs.length = n := hh.len.symm
 obtain ⟨e0, e1, e2, e3⟩ := conv_same hl hn hu
 refine (conv_good c c' n ht hh (by omega) (by omega) hA' e0).mono ?_
 rintro e w' ⟨A1, c1, A2, c2, rfl, h1, h2, hb⟩
 rw [e2] at h1
 rw [e3] at h2
 exact ⟨A1, c1, A2, c2, by rw [e1, e2, e3, hl, List.length_replicate], h1, h2, hb⟩
set_option maxRecDepth 100000 in
set_option maxHeartbeats 4000000 in
theorem same_walk {w : World} {A A' : Option Addr} {n n' : Nat} (c c' : Nat) {zs zs' : List Int} (h : IntsV w A n zs) (h' : IntsV w A' n' zs') (hT : Tab w) (hf : ∀ b off, A = some ⟨b, off, none⟩ → b < w.heap.size)
 (hlv : ∀ W, Tab W → Calls Tryz.prog 17 #[] W fun e w' => e = .returned (.bool true) ∧ Below W.heap.size W w') :
 Calls Tryz.prog 8 #[.slice A n c, .slice A' n' c'] w fun e w' => e = .returned (.bool true) ∧ Below w.heap.size w w' := by
 have KG := Lib.hid (Catalog_g c h hf)
 have HI := Lib.hid h'
 have HT := Lib.hid hT
 have HL := Lib.hid hlv
 clear h h' hT hf hlv
 go_enter Tryz.func8, Tryz.ntmps8
 go_wp2_with fail
 (with_reducible refine KG.out.mono ?_)
 rintro e w1 ⟨⟨i1, r1, t1, x1, ⟨Ai, ain, aic⟩, ⟨Ar, arn, arc⟩, ⟨At, atn, atc⟩, ⟨Ax, axn, axc⟩⟩, rfl, hok, hsm, hb1⟩
 have y1 := (Below.refl w1.heap.size w1).alloc (Nat.le_refl _) (.cells #[.slice Ai ain aic, .slice Ar arn arc, .slice At atn atc, .slice Ax axn axc] 28)
 have HK := Lib.hid (Bk.new w1 28 [.slice Ai ain aic, .slice Ar arn arc, .slice At atn atc, .slice Ax axn axc])
 have HB := Lib.hid (hb1.trans (y1.mono hb1.size))
 have HO := Lib.hid (hok.below y1)
 have HTb := Lib.hid ((HT.out.below hb1 HT.out.1).below y1 (HT.out.below hb1 HT.out.1).1)
 have HI1 := Lib.hid ((HI.out.below hb1).below y1)
 have HS := Lib.hid hsm
 have hn64 : ain ≤ 64 := by have h1 := hsm.items.2; have h2 : ain = i1.length := hok.items.len; dsimp only at h1; omega
 clear hok hsm hb1 y1 KG HI HT
 have K1 := Lib.hid (newS HO.out HTb.out HS.out.code)
 try dsimp only at K1
 go_wp2_with fail
 obtain ⟨b5, hb5⟩ : ∃ b5, w1.heap.size = b5 := ⟨_, rfl⟩
 generalize w1.alloc (.cells #[.slice Ai ain aic, .slice Ar arn arc, .slice At atn atc, .slice Ax axn axc] 28) = W1 at HK HB HO HTb HI1 K1 ⊢
 rw [hb5] at HK
 (try rw [hb5])
 clear hb5
 (with_reducible refine K1.out.mono ?_)
 rintro e w2 ⟨P, pc, rfl, hx, hb2⟩
 have HX := Lib.hid hx
 have HK2 := Lib.hid (HK.out.below hb2 HK.out.lt)
 have HB2 := Lib.hid (HB.out.trans (hb2.mono HB.out.size))
 have HO2 := Lib.hid (HO.out.below hb2)
 have HT2 := Lib.hid (HTb.out.below hb2 HTb.out.1)
 have HI2 := Lib.hid (HI1.out.below hb2)
 clear hx hb2 K1 HK HB HO HTb HI1
 have K2 := Lib.hid (mgS HO2.out HT2.out HS.out)
 try dsimp only at K2
 have e0 : w2.cell? ⟨b5, 0, none⟩ = some (.slice Ai ain aic) := HK2.out.cell 0; have e1 : w2.cell? ⟨b5, 1, none⟩ = some (.slice Ar arn arc) := HK2.out.cell 1; have e2 : w2.cell? ⟨b5, 2, none⟩ = some (.slice At atn atc) := HK2.out.cell 2; have e3 : w2.cell? ⟨b5, 3, none⟩ = some (.slice Ax axn axc) := HK2.out.cell 3
 have el := HK2.out.lt
 go_wp2_with fail
 (with_reducible refine K2.out.mono ?_)
 rintro e w3 ⟨⟨i2, r2, t2, x2, ⟨Bi, bin, bic⟩, ⟨Br, brn, brc⟩, ⟨Bt, btn, btc⟩, ⟨Bx, bxn, bxc⟩⟩, rfl, hd, hco, hb3⟩
 have y3 := (Below.refl w3.heap.size w3).alloc (Nat.le_refl _) (.cells #[.slice Bi bin bic, .slice Br brn brc, .slice Bt btn btc, .slice Bx bxn bxc] 28)
 have z3 := hb3.trans (y3.mono hb3.size)
 have HK3 := Lib.hid (HK2.out.below z3 HK2.out.lt)
 have HB3 := Lib.hid (HB2.out.trans (z3.mono HB2.out.size))
 have HO3 := Lib.hid (HO2.out.below z3)
 have HT3 := Lib.hid (HT2.out.below z3 HT2.out.1)
 have HI3 := Lib.hid (HI2.out.below z3)
 have HX3 := Lib.hid (HX.out.below z3)
 have HD3 := Lib.hid (hd.below y3)
 have HC := Lib.hid hco
 have HK8 := Lib.hid (Bk.new w3 28 [.slice Bi bin bic, .slice Br brn brc, .slice Bt btn btc, .slice Bx bxn bxc])
 clear e0 e1 e2 e3 el hd hco hb3 y3 z3 K2 HK2 HB2 HO2 HT2 HI2 HX
 have K3 := Lib.hid (heldS (K := ain) c' HI3.out hn64)
 have e0 : (w3.alloc (.cells #[.slice Bi bin bic, .slice Br brn brc, .slice Bt btn btc, .slice Bx bxn bxc] 28)).cell? ⟨b5, 0, none⟩ = some (.slice Ai ain aic) := HK3.out.cell 0
 have el := HK3.out.lt
 go_upto_region 4 with fail
 obtain ⟨b8, hb8⟩ : ∃ b8, w3.heap.size = b8 := ⟨_, rfl⟩
 generalize w3.alloc (.cells #[.slice Bi bin bic, .slice Br brn brc, .slice Bt btn btc, .slice Bx bxn bxc] 28) = W3 at HK3 HB3 HO3 HT3 HI3 HX3 HD3 HK8 K3 e0 el ⊢
 rw [hb8] at HK8
 (try rw [hb8])
 clear hb8
 go_wp2_with fail
 (with_reducible refine K3.out.mono ?_)
 rintro e w4 ⟨AH, ch, rfl, hh, hAH, hb4⟩
 have HK4 := Lib.hid (HK3.out.below hb4 HK3.out.lt)
 have HB4 := Lib.hid (HB3.out.trans (hb4.mono HB3.out.size))
 have HO4 := Lib.hid (HO3.out.below hb4)
 have HT4 := Lib.hid (HT3.out.below hb4 HT3.out.1)
 have HX4 := Lib.hid (HX3.out.below hb4)
 have HD4 := Lib.hid (HD3.out.below hb4)
 have HK84 := Lib.hid (HK8.out.below hb4 HK8.out.lt)
 have HH := Lib.hid hh
 clear e0 el hh hb4 K3 HK3 HB3 HO3 HT3 HI3 HX3 HD3 HK8
 have K4 := Lib.hid (convS pc ch HX4.out HH.out hn64 hAH (heldL_units2 zs' 0 ain))
 try dsimp only at K4
 have e0 : w4.cell? ⟨b5, 0, none⟩ = some (.slice Ai ain aic) := HK4.out.cell 0
 have el := HK4.out.lt
 go_wp2_with fail
 (with_reducible refine K4.out.mono ?_)
 rintro e w5 ⟨N1, nc1, N2, nc2, rfl, hr1, hr2, hb5⟩
 have HK5 := Lib.hid (HK4.out.below hb5 HK4.out.lt)
 have HB5 := Lib.hid (HB4.out.trans (hb5.mono HB4.out.size))
 have HO5 := Lib.hid (HO4.out.below hb5)
 have HT5 := Lib.hid (HT4.out.below hb5 HT4.out.1)
 have HX5 := Lib.hid (HX4.out.below hb5)
 have HD5 := Lib.hid (HD4.out.below hb5)
 have HK85 := Lib.hid (HK84.out.below hb5 HK84.out.lt)
 have HH5 := Lib.hid (HH.out.below hb5)
 have HR1 := Lib.hid hr1
 have HR2 := Lib.hid hr2
 clear e0 el hr1 hr2 hb5 hAH K4 HK4 HB4 HO4 HT4 HX4 HD4 HK84 HH
 have K5 := Lib.hid (Equal_eq HO5.out HD5.out HC.out)
 try dsimp only at K5
 have e0 : w5.cell? ⟨b5, 0, none⟩ = some (.slice Ai ain aic) := HK5.out.cell 0; have e1 : w5.cell? ⟨b5, 1, none⟩ = some (.slice Ar arn arc) := HK5.out.cell 1; have e2 : w5.cell? ⟨b5, 2, none⟩ = some (.slice At atn atc) := HK5.out.cell 2; have e3 : w5.cell? ⟨b5, 3, none⟩ = some (.slice Ax axn axc) := HK5.out.cell 3
 have d0 : w5.cell? ⟨b8, 0, none⟩ = some (.slice Bi bin bic) := HK85.out.cell 0; have d1 : w5.cell? ⟨b8, 1, none⟩ = some (.slice Br brn brc) := HK85.out.cell 1; have d2 : w5.cell? ⟨b8, 2, none⟩ = some (.slice Bt btn btc) := HK85.out.cell 2; have d3 : w5.cell? ⟨b8, 3, none⟩ = some (.slice Bx bxn bxc) := HK85.out.cell 3
 have el := HK5.out.lt
 have dl := HK85.out.lt
 go_wp2_with fail
 (with_reducible refine K5.out.mono ?_)
 rintro e w6 ⟨rfl, hb6⟩
 have HK6 := Lib.hid (HK5.out.below hb6 HK5.out.lt)
 have HB6 := Lib.hid (HB5.out.trans (hb6.mono HB5.out.size))
 have HT6 := Lib.hid (HT5.out.below hb6 HT5.out.1)
 have HX6 := Lib.hid (HX5.out.below hb6)
 have HH6 := Lib.hid (HH5.out.below hb6)
 have HR16 := Lib.hid ((HR1.out.below hb6).more hb6.size)
 have HR26 := Lib.hid ((HR2.out.below hb6).more hb6.size)
 clear e0 d0 e1 d1 e2 d2 e3 d3 el dl hb6 K5 HK5 HB5 HO5 HT5 HX5 HD5 HK85 HH5 HR1 HR2 HC HS
 have e0 : w6.cell? ⟨b5, 0, none⟩ = some (.slice Ai ain aic) := HK6.out.cell 0
 have el := HK6.out.lt
 have eq1 : ((ain : Int) != (ain : Int)) = false := by simp
 go_wp2_with fail
 clear e0 el HK6
 go_loopw [14] (fun i wr => ∃ k : Nat, k ≤ ain ∧ i = .int .i64 k ∧ Below w6.heap.size w6 wr) (fun i _ => ain - (intOf i).toNat)
 case atStart => exact ⟨0, Nat.zero_le _, rfl, Below.refl _ _⟩
 case round =>
  obtain ⟨k, hk, rfl, hb⟩ := hrel
  by_cases hlt : k < ain
  ·have hkl : k < (idT ain).length := by simp [idT]; exact hlt
   obtain ⟨b, off, hP, hbb, hc⟩ := (HX6.out.below hb).row.at_ 0 (by rw [tcells_length]; omega)
   subst hP
   obtain ⟨t1', t2', t3'⟩ := tcells_at (idT ain) k hkl
   obtain ⟨v1, v2, v3⟩ := idT_at (n := ain) (k := k) hlt
   rw [v1] at t1'
   rw [v2] at t2'
   rw [v3] at t3'
   have c1 := hc _ _ t1'
   have c2 := hc _ _ t2'
   have c3 := hc _ _ t3'
   simp only [← Nat.add_assoc] at c2 c3
   clear hc t1' t2' t3' v1 v2 v3 hkl
   have k0 : (0 : Int) ≤ (k : Int) := by omega
   have k1 : (k : Int) < (ain : Int) := by omega
   have hne := fun W => neq64 (k : Int) 1 1 W
   have HF := Lib.hid hb
   go_wp2_with fail
   clear c1 c2 c3
   go_roundw
   case rel => exact ⟨k + 1, by omega, by go_num, HF.out⟩
   case measure => simp [intOf]; omega
  ·have HB7 := Lib.hid (HB6.out.trans (hb.mono HB6.out.size))
   have HT7 := Lib.hid (HT6.out.below hb HT6.out.1)
   have HH7 := Lib.hid (HH6.out.below hb)
   have HR17 := Lib.hid ((HR16.out.below hb).more hb.size)
   have HR27 := Lib.hid ((HR26.out.below hb).more hb.size)
   have hlh : (heldL zs' 0 ain).length = ain := by simp
   have hlr : Hid (ain = (List.replicate ain (0 : Int)).length) := by show ain = _; simp
   have K6 := Lib.hid (same_any (c := nc1) (c' := ch) (n := ain) (m := ain) HR17.out HH7.out.row hlh.symm hlh.symm (by omega))
   have hsb : sameB (heldL zs' 0 ain) (heldL zs' 0 ain) = true := by simp [sameB]
   rw [hsb] at K6
   clear hsb hlh hb HB6 HT6 HX6 HH6 HR16 HR26
   go_wp2_with fail
   (with_reducible refine K6.out.mono ?_)
   rintro e w8 ⟨rfl, hb8⟩
   have mk := make_ints ain (by omega) w8
   have y8 := (Below.refl w8.heap.size w8).alloc (Nat.le_refl _) (.cells (ints (List.replicate ain 0)).toArray 3)
   have z8 := hb8.trans (y8.mono hb8.size)
   have HB8 := Lib.hid (HB7.out.trans (z8.mono HB7.out.size))
   have HT8 := Lib.hid (HT7.out.below z8 HT7.out.1)
   have HR28 := Lib.hid ((HR27.out.below z8).more z8.size)
   have HZ := Lib.hid (Bk.new w8 3 (ints (List.replicate ain 0))).row
   clear hb8 y8 z8 K6 HB7 HT7 HH7 HR17 HR27
   have K7 := Lib.hid (same_any (c := nc2) (c' := ain) (n := ain) (m := ain) HR28.out HZ.out hlr.out hlr.out (by omega))
   have hsb : sameB (List.replicate ain (0 : Int)) (List.replicate ain (0 : Int)) = true := by simp [sameB]
   rw [hsb] at K7
   clear hsb
   go_wp2_with fail
   (with_reducible refine K7.out.mono ?_)
   rintro e w9 ⟨rfl, hb9⟩
   have HB9 := Lib.hid (HB8.out.trans (hb9.mono HB8.out.size))
   have HT9 := Lib.hid (HT8.out.below hb9 HT8.out.1)
   have K8 := Lib.hid (HL.out w9 HT9.out)
   clear hb9 K7 HB8 HT8 HR28 HZ mk
   go_wp2_with fail
   (with_reducible refine K8.out.mono ?_)
   rintro e wz ⟨rfl, hbz⟩
   have HBz := Lib.hid (HB9.out.trans (hbz.mono HB9.out.size))
   clear hbz K8
   go_wp2_with fail
   go_ret
   exact ⟨rfl, HBz.out⟩
end Go.Proofs.YthjfdfdgbpbanaaGreatDoor
