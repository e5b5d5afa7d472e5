/- The contracts of the reference's bag and factor. The contracts of plain and of the reference's Same. The walk of version.Merge on catalogs of items alone, where nothing stands against it. The contracts of Missing, Last, Start, and of Add where an item without counterpart is held. The contract of Add where an item without counterpart is held. The contract of lives: the example of the section. The walk of lives. -/
import Derived.Test.YthjfdfdgbpbanaaGreatDoorV1
import Derived.Test.YthjfdfdgbpbanaaGreatDoorV12
import Derived.Test.YthjfdfdgbpbanaaGreatDoorV13
import Derived.Laws.StructEq
import Derived.StillTailTactics
import Derived.Deep.MidRow
set_option linter.unusedVariables false
set_option linter.unusedSimpArgs false
open Go.RowKit
namespace Go.Proofs.YthjfdfdgbpbanaaGreatDoor
set_option maxRecDepth 100000 in
theorem factor_any (w : World) (x : Int) : Calls Tryz.prog 48 #[.int .i64 x] w fun e w' => e = .returned (.bool (decide (1 ≤ x ∧ x ≤ 1048576))) ∧ w = w' := by
 by_cases h1 : 1 ≤ x
 ·by_cases h2 : x ≤ 1048576
  ·have E : Hid (decide (1 ≤ x ∧ x ≤ 1048576) = true) := decide_eq_true ⟨h1, h2⟩
   go_enter Tryz.func48, Tryz.ntmps48
   go_wp2
   go_ret
   exact ⟨by first | rfl | (rw [E.out]; rfl), rfl⟩
  ·have E : Hid (decide (1 ≤ x ∧ x ≤ 1048576) = false) := decide_eq_false (by omega)
   have e1 : decide (1 ≤ x) = true := by simp [h1]
   have e2 : decide (x ≤ 1048576) = false := by simp [h2]
   go_enter Tryz.func48, Tryz.ntmps48
   go_wp2
   go_ret
   exact ⟨by first | rfl | (rw [E.out]; rfl), rfl⟩
 ·have E : Hid (decide (1 ≤ x ∧ x ≤ 1048576) = false) := decide_eq_false (by omega)
  have e1 : decide (1 ≤ x) = false := by simp [h1]
  go_enter Tryz.func48, Tryz.ntmps48
  go_wp2
  go_ret
  exact ⟨by first | rfl | (rw [E.out]; rfl), rfl⟩
set_option maxRecDepth 100000 in
set_option maxHeartbeats 1000000 in
theorem plain_any {w : World} {A : Option Addr} {n : Nat} (c : Nat) {ts : List Tr} (h : TosV w A n ts) (hs : n ≤ 1000000) :
 Calls Tryz.prog 16 #[.slice A n c] w (RowPost w 68 3 n (tcells ts)) := by
 obtain ⟨i0, hi, hz0, hz1, hz2⟩ := info_parts info68
 have Hn := Lib.hid h.len
 have H := Lib.hid h
 clear h
 go_enter Tryz.func16, Tryz.ntmps16
 go_wp2_with fail
 go_loopw [3, 4] (fun v i wr => ∃ k : Nat, k ≤ n ∧ i = .int .i64 k ∧ wr.ownsRow w.heap.size 68 3 v k (tcells (ts.take k)) ∧ Below w.heap.size w wr) (fun _ i _ => n - (intOf i).toNat)
 case atStart => exact ⟨0, Nat.zero_le _, rfl, World.ownsRow_nil _ _ _ _, Below.refl _ _⟩
 case round =>
  obtain ⟨k, hk, rfl, hown, hb⟩ := hrel
  by_cases hlt : k < n
  ·have hkl : k < ts.length := by have := Hn.out; omega
   obtain ⟨b, off, rfl, hbb, hc⟩ := H.out.row.at_ 0 (by rw [tcells_length]; omega)
   obtain ⟨t1, t2, t3⟩ := tcells_at ts k hkl
   have c1 := hc _ _ t1
   have c2 := hc _ _ t2
   have c3 := hc _ _ t3
   simp only [← Nat.add_assoc] at c2 c3
   have HC : Hid (∀ U : World, Below w.heap.size w U → U.cell? ⟨b, off + k * 3, none⟩ = some (.int .i64 (itemAt ts k)) ∧ U.cell? ⟨b, off + k * 3 + 1, none⟩ = some (.int .i64 (numAt ts k)) ∧ U.cell? ⟨b, off + k * 3 + 2, none⟩ = some (.int .i64 (denAt ts k))) :=
    fun U hU => ⟨(hU.cell (p := ⟨b, _, none⟩) hbb).trans c1, (hU.cell (p := ⟨b, _, none⟩) hbb).trans c2, (hU.cell (p := ⟨b, _, none⟩) hbb).trans c3⟩
   have HT := Lib.hid (take_tr ts k hkl)
   have hsz := hb.size
   have OWN : Hid ((wr.drew.alloc (.cells #[.int .i64 (itemAt ts k), .int .i64 (numAt ts k), .int .i64 (denAt ts k)] 68)).ownsRow w.heap.size 68 3 u3 k (tcells (ts.take k))) := (hown.drew).alloc _
   clear t1 t2 t3 hc hown hkl c1 c2 c3
   generalize itemAt ts k = x at *
   generalize numAt ts k = y at *
   generalize denAt ts k = z at *
   have C1 := Lib.hid (new3 wr.drew 68 (.int .i64 x) (.int .i64 y) (.int .i64 z))
   have k0 : (0 : Int) ≤ (k : Int) := by omega
   have k1 : (k : Int) < (n : Int) := by omega
   have B1 : Below w.heap.size w (wr.drew.alloc (.cells #[.int .i64 x, .int .i64 y, .int .i64 z] 68)) := hb.drew.alloc hsz _
   have C3 : Hid (k + 1 ≤ maxLen) := by show k + 1 ≤ maxLen; unfold maxLen; omega
   have C5 : Hid (w.heap.size ≤ (wr.drew.alloc (.cells #[.int .i64 x, .int .i64 y, .int .i64 z] 68)).heap.size) := by show w.heap.size ≤ _; simp; omega
   have C6 : Hid ((wr.drew.alloc (.cells #[.int .i64 x, .int .i64 y, .int .i64 z] 68)).heap.size = wr.heap.size + 1) := by show _ = _; simp
   go_wp2_with fail
   go_region_held3 (fun U => U.cell? ⟨b, off + k * 3, none⟩ = some (.int .i64 x) ∧ U.cell? ⟨b, off + k * 3 + 1, none⟩ = some (.int .i64 y) ∧ U.cell? ⟨b, off + k * 3 + 2, none⟩ = some (.int .i64 z)) (first | exact HC.out _ hb.drew | exact HC.out _ B1 | exact HC.out _ BN)
    ((refine step_append_lies _ (by rfl) (.tmp 11) (.tmp 28) 39 (by rfl) w.heap.size 68 i0 (.agg #[.int .i64 0, .int .i64 0, .int .i64 0]) 3 24 Tryz.underlying39 hi hz0 hz1 hz2 rfl (by decide) _ k (tcells (ts.take k)) (by rfl) OWN.out ⟨wr.heap.size, 0, none⟩ 1 1 [.int .i64 x, .int .i64 y, .int .i64 z] (by rfl) rfl C1.out (one3 x y z) (by omega) C3.out (by omega) C5.out (wr.heap.size + 1) C6.out ?_; intro g' cap w3 hown hgr hat hlt3; have BN := B1.grown hgr C5.out (row_base OWN.out); have HO1 := Lib.hid hown; clear hown hgr hat))
   go_wp2
   go_roundw
   case rel => exact ⟨k + 1, by omega, by go_num, by rw [HT.out, tcells_snoc]; exact HO1.out, BN⟩
   case measure => simp [intOf]; omega
  ·obtain rfl : k = n := by omega
   rw [List.take_of_length_le (by have := Hn.out; omega)] at hown
   have HO := Lib.hid hown
   clear hown
   go_wp2
   go_ret
   exact ⟨_, rfl, HO.out, hb⟩
theorem neq68 (x y z : Int) (W : World) : (binOp .neq 68 (.agg #[.int .i64 x, .int .i64 y, .int .i64 z]) (.agg #[.int .i64 x, .int .i64 y, .int .i64 z])).run Tryz.prog W = .ok (.bool false) W := by
 rw [run_neq_struct, run_equalIn_struct W 9999 68 _ _ (by kernel_rfl) (by kernel_rfl)]
 have hf : (Tryz.prog.fieldsOf 68).toList.map (fun f => (f.name, f.type, f.offset)) = [("Item", 3, 0), ("Num", 3, 1), ("Den", 3, 2)] := by kernel_rfl
 generalize (Tryz.prog.fieldsOf 68).toList = L at hf ⊢
 obtain ⟨f1, f2, f3, rfl⟩ : ∃ f1 f2 f3, L = [f1, f2, f3] := by
  have hl : L.length = 3 := by have := congrArg List.length hf; simpa using this
  rcases L with _ | ⟨f1, _ | ⟨f2, _ | ⟨f3, _ | ⟨f4, L⟩⟩⟩⟩ <;> simp at hl
  exact ⟨f1, f2, f3, rfl⟩
 ·skip
  simp only [List.map_cons, List.map_nil, List.cons.injEq, Prod.mk.injEq, and_true] at hf
  obtain ⟨⟨n1, t1, o1⟩, ⟨n2, t2, o2⟩, ⟨n3, t3, o3⟩⟩ := hf
  have p1 : ∀ (W : World), (part 3 #[Value.int .i64 x, .int .i64 y, .int .i64 z] 0).run Tryz.prog W = .ok (.int .i64 x) W := fun W => by kernel_rfl
  have p2 : ∀ (W : World), (part 3 #[Value.int .i64 x, .int .i64 y, .int .i64 z] 1).run Tryz.prog W = .ok (.int .i64 y) W := fun W => by kernel_rfl
  have p3 : ∀ (W : World), (part 3 #[Value.int .i64 x, .int .i64 y, .int .i64 z] 2).run Tryz.prog W = .ok (.int .i64 z) W := fun W => by kernel_rfl
  have q : ∀ (W : World) (u : Int), (Op.equalIn 9999 3 (.int .i64 u) (.int .i64 u)).run Tryz.prog W = .ok true W := fun W u => by
   rw [run_equalIn_int W 9998 3 .i64 .i64 u u Tryz.underlying3]; simp
  simp [Op.eqFields, n1, n2, n3, t1, t2, t3, o1, o2, o3, Sem.run_bind, p1, p2, p3, q]
set_option maxRecDepth 100000 in
set_option maxHeartbeats 1000000 in
theorem Same_eq {w : World} {A A' : Option Addr} {n n' : Nat} (c c' : Nat) {ts : List Tr} (h : TosV w A n ts) (h' : TosV w A' n' ts) (hs : n ≤ 1000000) :
 Calls Tryz.prog 15 #[.slice A n c, .slice A' n' c'] w fun e w' => e = .returned (.bool true) ∧ Below w.heap.size w w' := by
 have Hn := Lib.hid h.len
 have H := Lib.hid h
 have H' := Lib.hid h'
 obtain rfl : n' = n := by rw [h.len, h'.len]
 clear h h'
 have e1 : ((n' : Int) != (n' : Int)) = false := by simp
 go_enter Tryz.func15, Tryz.ntmps15
 go_wp2_with fail
 go_loopw [5] (fun i wr => ∃ k : Nat, k ≤ n' ∧ i = .int .i64 k ∧ Below w.heap.size w wr) (fun i _ => n' - (intOf i).toNat)
 case atStart => exact ⟨0, Nat.zero_le _, rfl, Below.refl _ _⟩
 case round =>
  obtain ⟨k, hk, rfl, hb⟩ := hrel
  by_cases hlt : k < n'
  ·have hkl : k < ts.length := by have := Hn.out; omega
   obtain ⟨b, off, rfl, hbb, hc⟩ := (H.out.below hb).row.at_ 0 (by rw [tcells_length]; omega)
   obtain ⟨b', off', rfl, hbb', hc'⟩ := (H'.out.below hb).row.at_ 0 (by rw [tcells_length]; omega)
   obtain ⟨t1, t2, t3⟩ := tcells_at ts k hkl
   have c1 := hc _ _ t1
   have c2 := hc _ _ t2
   have c3 := hc _ _ t3
   have d1 := hc' _ _ t1
   have d2 := hc' _ _ t2
   have d3 := hc' _ _ t3
   simp only [← Nat.add_assoc] at c2 c3 d2 d3
   clear hc hc' t1 t2 t3 hkl
   generalize itemAt ts k = x at *
   generalize numAt ts k = y at *
   generalize denAt ts k = z at *
   have k0 : (0 : Int) ≤ (k : Int) := by omega
   have k1 : (k : Int) < (n' : Int) := by omega
   have hne := fun W => neq68 x y z W
   go_wp2_with fail
   go_quiet (fail)
   have HB := Lib.hid (bel_drewN hb nq)
   generalize wr.drewN nq = W at *
   clear c1 c2 c3 d1 d2 d3
   go_wp2_with fail
   go_roundw
   case rel => exact ⟨k + 1, by omega, by go_num, HB.out⟩
   case measure => simp [intOf]; omega
  ·go_wp2_with fail
   go_ret
   exact ⟨rfl, hb⟩
section
abbrev nilS : Value := .slice none 0 0
structure MgAt (w W : World) (so sx : Sl) (bo bn : Nat) (lo ln : List It) (v : Value) (its : List It) : Prop where
 mo : MapI W bo so.n (idxTo lo so.n)
 mn : MapI W bn sx.n (idxTo ln sx.n)
 b1 : Bk W w.heap.size 28 [.slice so.A so.n so.c, nilS, nilS, nilS]
 b2 : Bk W (w.heap.size + 1) 28 [.slice sx.A sx.n sx.c, nilS, nilS, nilS]
 b3 : Bk W (w.heap.size + 2) 28 [nilS, nilS, nilS, nilS]
 own : W.ownsRow (w.heap.size + 3) 89 7 v its.length (icells its)
 below : Below w.heap.size w W
section
variable {w W W' : World} {so sx : Sl} {bo bn : Nat} {lo ln : List It} {v : Value} {its : List It}
theorem MgAt.grow (h : MgAt w W so sx bo bn lo ln v its) (hb : Below W.heap.size W W') : MgAt w W' so sx bo bn lo ln v its :=
 ⟨h.mo.below hb, h.mn.below hb, h.b1.below hb h.b1.lt, h.b2.below hb h.b2.lt, h.b3.below hb h.b3.lt, h.own.kept (grown_of_below hb none) (by cases v.ownBlock <;> simp), h.below.trans (hb.mono h.below.size)⟩
theorem MapI.ne_row {b n : Nat} {M : ByteArray → Option Nat} {base e size m : Nat} {u : Value} {xs : List Value} (h : MapI W b n M) (ho : W.ownsRow base e size u m xs) : some b ≠ u.ownBlock := by
 intro e1
 obtain ⟨D, ⟨es, clock, hh, _⟩, _⟩ := h
 rcases ho.2 with ⟨rfl, _⟩ | ⟨g, cap, cur, rfl, _, hg, _⟩
 ·simp [Value.ownBlock] at e1
 ·simp [Value.ownBlock] at e1
  subst e1
  rw [hh] at hg
  cases hg
/-- Whatever is done to the row alone. -/
theorem MgAt.turn {its' : List It} {v' : Value} (h : MgAt w W so sx bo bn lo ln v its) (hg : W.grownBy W' v.ownBlock) (ho : W'.ownsRow (w.heap.size + 3) 89 7 v' its'.length (icells its')) : MgAt w W' so sx bo bn lo ln v' its' := by
 have hr := row_base h.own
 refine ⟨h.mo.kept hg (h.mo.ne_row h.own), h.mn.kept hg (h.mn.ne_row h.own), h.b1.grown hg ?_, h.b2.grown hg ?_, h.b3.grown hg ?_, ho, h.below.grown hg h.below.size (fun g e => by have := hr g e; omega)⟩
 ·intro e; have := hr _ e.symm; omega
 ·intro e; have := hr _ e.symm; omega
 ·intro e; have := hr _ e.symm; omega
theorem MgAt.setIt {g cap : Nat} (h : MgAt w W so sx bo bn lo ln (.slice (some ⟨g, 0, none⟩) its.length cap) its) (k : Nat) (t : It) (hk : k < its.length) :
 MgAt w (((((((W.setCell ⟨g, k * 7, none⟩ (.string t.name)).setCell ⟨g, k * 7 + 1, none⟩ (.bool t.object)).setCell ⟨g, k * 7 + 2, none⟩ (.bool t.mixed)).setCell ⟨g, k * 7 + 3, none⟩ (.bool t.coin)).setCell ⟨g, k * 7 + 4, none⟩ (.int .i64 t.wear)).setCell ⟨g, k * 7 + 5, none⟩ (.int .i64 t.bnd)).setCell ⟨g, k * 7 + 6, none⟩ (.int .i64 t.level)) so sx bo bn lo ln (.slice (some ⟨g, 0, none⟩) its.length cap) (its.set k t) := by
 have hr := row_base h.own g rfl
 have o7 := (((((((h.own.stored (k * 7) (.string t.name)).1.stored (k * 7 + 1) (.bool t.object)).1.stored (k * 7 + 2) (.bool t.mixed)).1.stored (k * 7 + 3) (.bool t.coin)).1.stored (k * 7 + 4) (.int .i64 t.wear)).1.stored (k * 7 + 5) (.int .i64 t.bnd)).1.stored (k * 7 + 6) (.int .i64 t.level)).1
 rw [← icells_set its k t hk] at o7
 have hl : (its.set k t).length = its.length := by simp
 refine ⟨?_, ?_, ?_, ?_, ?_, by rw [hl]; exact o7, ?_⟩
 ·have hne : some bo ≠ some g := h.mo.ne_row h.own
  exact ((((((h.mo.kept (grown_setCell W g _ _) hne).kept (grown_setCell _ g _ _) hne).kept (grown_setCell _ g _ _) hne).kept (grown_setCell _ g _ _) hne).kept (grown_setCell _ g _ _) hne).kept (grown_setCell _ g _ _) hne).kept (grown_setCell _ g _ _) hne
 ·have hne : some bn ≠ some g := h.mn.ne_row h.own
  exact ((((((h.mn.kept (grown_setCell W g _ _) hne).kept (grown_setCell _ g _ _) hne).kept (grown_setCell _ g _ _) hne).kept (grown_setCell _ g _ _) hne).kept (grown_setCell _ g _ _) hne).kept (grown_setCell _ g _ _) hne).kept (grown_setCell _ g _ _) hne
 ·have hne : w.heap.size ≠ g := by omega
  exact ((((((h.b1.far hne _).far hne _).far hne _).far hne _).far hne _).far hne _).far hne _
 ·have hne : w.heap.size + 1 ≠ g := by omega
  exact ((((((h.b2.far hne _).far hne _).far hne _).far hne _).far hne _).far hne _).far hne _
 ·have hne : w.heap.size + 2 ≠ g := by omega
  exact ((((((h.b3.far hne _).far hne _).far hne _).far hne _).far hne _).far hne _).far hne _
 ·have hle : w.heap.size ≤ g := by omega
  exact ((((((h.below.setCell (p := ⟨g, _, none⟩) hle _).setCell (p := ⟨g, _, none⟩) hle _).setCell (p := ⟨g, _, none⟩) hle _).setCell (p := ⟨g, _, none⟩) hle _).setCell (p := ⟨g, _, none⟩) hle _).setCell (p := ⟨g, _, none⟩) hle _).setCell (p := ⟨g, _, none⟩) hle _
end
def MergePost (w : World) (l : List It) (e : Ending) (w' : World) : Prop :=
 ∃ A c, e = .returned (.tuple #[.agg #[.slice A l.length c, nilS, nilS, nilS], .int .i64 0]) ∧ Row w' w'.heap.size A (icells l) ∧ Below w.heap.size w w'
theorem row_ne {W : World} {base : Nat} {e t : TypeId} {size n g : Nat} {v : Value} {xs ys : List Value} (h : W.ownsRow base e size v n xs) (hg : Bk W g t ys) (hne : e ≠ t) : v.ownBlock ≠ some g := by
 rcases h.2 with ⟨rfl, _⟩ | ⟨g', cap, cur, rfl, _, hh, _⟩
 ·simp [Value.ownBlock]
 ·intro he
  have : g' = g := by simpa [Value.ownBlock] using he
  subst this
  unfold Bk at hg
  rw [hg] at hh
  cases hh
  exact hne rfl
theorem MgAt.setP {w W : World} {so sx : Sl} {bo bn : Nat} {lo ln : List It} {v : Value} {its : List It} {g t : Nat} {xs : List Value} (h : MgAt w W so sx bo bn lo ln v its) (hk : Bk W g t xs) (ht : 89 ≠ t) (hg : w.heap.size + 3 ≤ g) (j : Nat) (u : Value) : MgAt w (W.setCell ⟨g, j, none⟩ u) so sx bo bn lo ln v its := by
 have gr := grown_setCell W g j u
 exact ⟨h.mo.kept gr (fun e => h.mo.ne_bk hk (Option.some.inj e)), h.mn.kept gr (fun e => h.mn.ne_bk hk (Option.some.inj e)), h.b1.far (by simp; omega) _, h.b2.far (by simp; omega) _, h.b3.far (by simp; omega) _, h.own.kept gr (.inr (row_ne h.own hk ht)), h.below.setCell (by simp; omega) _⟩
theorem mergeL_succ_old {lo ln : List It} {k : Nat} (h : (idxTo lo lo.length (itAt ln k).name).isSome = true) : mergeL lo ln (k + 1) = mergeL lo ln k := by simp [mergeL, newTo, h]
theorem mergeL_succ_new {lo ln : List It} {k : Nat} (h : (idxTo lo lo.length (itAt ln k).name).isSome = false) : mergeL lo ln (k + 1) = mergeL lo ln k ++ [itAt ln k] := by simp [mergeL, newTo, h]
theorem newTo_le (lo ln : List It) (k : Nat) : (newTo lo ln k).length ≤ k := by
 induction k with
 | zero => simp [newTo]
 | succ k ih =>
   simp only [newTo]
   split
   ·omega
   ·simp; omega
theorem mergeL_le (lo ln : List It) (k : Nat) : (mergeL lo ln k).length ≤ lo.length + k := by
 have := newTo_le lo ln k
 simp [mergeL]; omega
theorem new7a (w : World) (t : TypeId) (a b c d e f g : Value) : ∀ j u, ([a, b, c, d, e, f, g] : List Value)[j]? = some u → (w.alloc (.cells #[a, b, c, d, e, f, g] t)).cell? ((⟨w.heap.size, 0, none⟩ : Addr).add j) = some u := by
 intro j u hj
 match j, hj with
 | 0, hj => simp at hj; subst hj; simp [Addr.add]
 | 1, hj => simp at hj; subst hj; simp [Addr.add]
 | 2, hj => simp at hj; subst hj; simp [Addr.add]
 | 3, hj => simp at hj; subst hj; simp [Addr.add]
 | 4, hj => simp at hj; subst hj; simp [Addr.add]
 | 5, hj => simp at hj; subst hj; simp [Addr.add]
 | 6, hj => simp at hj; subst hj; simp [Addr.add]
 | j + 7, hj => simp at hj
theorem merge_end {w W w' : World} {so sx : Sl} {bo bn n c : Nat} {A : Option Addr} {lo ln its : List It} {u0 u1 u2 u3 : Value} (h : MgAt w W so sx bo bn lo ln (.slice A n c) its) (hn : n = its.length) (hb : Below W.heap.size W w') :
 MergePost w its (.returned (.tuple #[.agg #[.slice A n c, nilS, nilS, nilS], .int .i64 0])) ((((w'.setCell ⟨w.heap.size + 2, 0, none⟩ u0).setCell ⟨w.heap.size + 2, 1, none⟩ u1).setCell ⟨w.heap.size + 2, 2, none⟩ u2).setCell ⟨w.heap.size + 2, 3, none⟩ u3) := by
 have h2 := h.grow hb
 have hx : ∀ (X : World) (j : Nat) (u : Value), X.ownsRow (w.heap.size + 3) 89 7 (.slice A n c) its.length (icells its) → (X.setCell ⟨w.heap.size + 2, j, none⟩ u).ownsRow (w.heap.size + 3) 89 7 (.slice A n c) its.length (icells its) := fun X j u h =>
  h.kept (grown_setCell X _ j u) (.inr (ne_row h (by omega)))
 have h4 := hx _ 3 u3 (hx _ 2 u2 (hx _ 1 u1 (hx _ 0 u0 h2.own)))
 obtain ⟨A', c', e, hr⟩ := row_of_owns h4
 cases e
 refine ⟨A, c, by rw [hn], hr, ?_⟩
 exact (((h2.below.setCell (p := ⟨w.heap.size + 2, 0, none⟩) (by simp) _).setCell (p := ⟨w.heap.size + 2, 1, none⟩) (by simp) _).setCell (p := ⟨w.heap.size + 2, 2, none⟩) (by simp) _).setCell (p := ⟨w.heap.size + 2, 3, none⟩) (by simp) _
set_option maxRecDepth 100000 in
set_option maxHeartbeats 4000000 in
theorem Merge_ok {w : World} {ao ax : Addr} {no nx : Nat} (co cx : Nat) {lo ln : List It} (ho : CatV w (some ao) no lo) (hn : CatV w (some ax) nx ln) (hE : ∀ k, k < no → keepErr ln (itAt lo k) = 0) (h64 : no + nx ≤ 64) (h1 : 0 < no) :
 Calls Tryz.prog 18 #[catV (some ao) no co, catV (some ax) nx cx] w (MergePost w (mergeL lo ln nx)) := by
 obtain ⟨i0, hi, hz0, hz1, hz2⟩ := info_parts info89
 have Ho := Lib.hid ho
 have Hn := Lib.hid hn
 have HE := Lib.hid hE
 have Hlo := Lib.hid ho.items.len
 have Hln := Lib.hid hn.items.len
 clear ho hn hE
 have hb0 : Below w.heap.size w (((w.alloc (catO (some ao) no co)).alloc (catO (some ax) nx cx)).alloc (.cells #[nilS, nilS, nilS, nilS] 28)) := (((Below.refl _ _).alloc (Nat.le_refl _) _).alloc (by simp) _).alloc (by simp; omega) _
 have k0 := ((Bk.new w 28 (catL (some ao) no co)).alloc (catO (some ax) nx cx)).alloc (.cells #[nilS, nilS, nilS, nilS] 28)
 have k0' := (Bk.new (w.alloc (catO (some ao) no co)) 28 (catL (some ax) nx cx)).alloc (.cells #[nilS, nilS, nilS, nilS] 28)
 have k0'' := Bk.new ((w.alloc (catO (some ao) no co)).alloc (catO (some ax) nx cx)) 28 [nilS, nilS, nilS, nilS]
 rw [World.size_alloc] at k0'
 rw [World.size_alloc, World.size_alloc] at k0''
 have HV := Lib.hid (both_items co cx (Ho.out.below hb0) (Hn.out.below hb0))
 have HK0 := Lib.hid k0
 have HK0' := Lib.hid k0'
 have HK0'' := Lib.hid k0''
 clear k0 k0' k0''
 go_enter Tryz.func18, Tryz.ntmps18
 go_wp2_with fail
 refine HV.out.mono ?_
 rintro e w1 ⟨rfl, hb1⟩
 have K1 := Lib.hid (HK0.out.below hb1 (by simp; omega))
 have K2 := Lib.hid (HK0'.out.below hb1 (by simp))
 have K3 := Lib.hid (HK0''.out.below hb1 (by simp))
 have G1 : Below w.heap.size w w1 := hb0.trans (hb1.mono (by simp; omega))
 have N1 : Hid (∀ W : World, Below w1.heap.size w1 W → Calls Tryz.prog 44 #[catV (some ao) no co] W (NamesPost W lo no)) := fun W hW => names_any (i := ⟨some ao, no, co⟩) (r := ⟨none, 0, 0⟩) (t := ⟨none, 0, 0⟩) (x := ⟨none, 0, 0⟩) (Ho.out.items.below (G1.trans (hW.mono G1.size)))
 have N2 : Hid (∀ W : World, Below w1.heap.size w1 W → Calls Tryz.prog 44 #[catV (some ax) nx cx] W (NamesPost W ln nx)) := fun W hW => names_any (i := ⟨some ax, nx, cx⟩) (r := ⟨none, 0, 0⟩) (t := ⟨none, 0, 0⟩) (x := ⟨none, 0, 0⟩) (Hn.out.items.below (G1.trans (hW.mono G1.size)))
 have HC : Hid (∀ U : World, Below w1.heap.size w1 U → (U.cell? ⟨w.heap.size, 0, none⟩ = some (.slice (some ao) no co) ∧ U.cell? ⟨w.heap.size, 1, none⟩ = some nilS ∧ U.cell? ⟨w.heap.size, 2, none⟩ = some nilS ∧ U.cell? ⟨w.heap.size, 3, none⟩ = some nilS ∧
  U.cell? ⟨w.heap.size + 1, 0, none⟩ = some (.slice (some ax) nx cx) ∧ U.cell? ⟨w.heap.size + 1, 1, none⟩ = some nilS ∧ U.cell? ⟨w.heap.size + 1, 2, none⟩ = some nilS ∧ U.cell? ⟨w.heap.size + 1, 3, none⟩ = some nilS)) := fun U hU => by
  have q1 := K1.out.below hU K1.out.lt
  have q2 := K2.out.below hU K2.out.lt
  exact ⟨q1.cell 0, q1.cell 1, q1.cell 2, q1.cell 3, q2.cell 0, q2.cell 1, q2.cell 2, q2.cell 3⟩
 obtain ⟨p0, p1, p2, p3, r0, r1, r2, r3⟩ := HC.out w1 (Below.refl _ _)
 clear hb1 hb0 HK0 HK0' HK0'' HV
 go_wp2_with fail
 go_cut [7, 8] (fun a b wx => ∃ bo bn, a = .map (some bo) ∧ b = .map (some bn) ∧ MapI wx bo no (idxTo lo no) ∧ MapI wx bn nx (idxTo ln nx) ∧ Below w1.heap.size w1 wx)
 case first =>
  go_region_with (first
   | (go_at_call 44; (with_reducible refine (N1.out _ ?_).mono ?_); (first | exact (Below.refl _ _).drew | exact GB); rintro e wA ⟨b, rfl, hm, hge, hba⟩; (first | (have GC := GB.trans (hba.mono GB.size); have hm1 := hm; have hm2 := hmB.below hba) | (have GA := (Below.refl w1.heap.size w1).drew.trans hba; have hmA := hm; obtain ⟨p0, p1, p2, p3, r0, r1, r2, r3⟩ := HC.out _ GA)))
   | (go_at_call 44; (with_reducible refine (N2.out _ ?_).mono ?_); (first | exact (Below.refl _ _).drew | exact GA); rintro e wA ⟨b, rfl, hm, hge, hba⟩; (first | (have GC := GA.trans (hba.mono GA.size); have hm2 := hm; have hm1 := hmA.below hba) | (have GB := (Below.refl w1.heap.size w1).drew.trans hba; have hmB := hm; obtain ⟨p0, p1, p2, p3, r0, r1, r2, r3⟩ := HC.out _ GB))))
  all_goals (try go_wp2_with fail)
  all_goals go_meet
  all_goals exact ⟨_, _, rfl, rfl, hm1, hm2, GC⟩
 case rest =>
  obtain ⟨bo, bn, rfl, rfl, hm1, hm2, hbc⟩ := hcut
  obtain ⟨q0, q1, q2, q3, q4, q5, q6, q7⟩ := HC.out _ hbc
  have G2 := G1.trans (hbc.mono G1.size)
  have KC := Lib.hid (clone_items (c := co) (Ho.out.items.below G2) Ho.out.items.small)
  have K1' := Lib.hid (K1.out.below hbc K1.out.lt)
  have K2' := Lib.hid (K2.out.below hbc K2.out.lt)
  have K3' := Lib.hid (K3.out.below hbc K3.out.lt)
  have HM1 := Lib.hid hm1
  have HM2 := Lib.hid hm2
  clear hm1 hm2 hbc p0 p1 p2 p3 r0 r1 r2 r3 N1 N2 HC K1 K2 K3 G1
  go_wp2_with fail
  refine KC.out.mono ?_
  rintro e wB ⟨v, rfl, hoB, hbB⟩
  have hs3 : w.heap.size + 3 ≤ wc.heap.size := K3'.out.lt
  have S0 : MgAt w wB ⟨some ao, no, co⟩ ⟨some ax, nx, cx⟩ bo bn lo ln v (mergeTo lo ln 0) :=
   ⟨HM1.out.below hbB, HM2.out.below hbB, K1'.out.below hbB K1'.out.lt, K2'.out.below hbB K2'.out.lt, K3'.out.below hbB K3'.out.lt, by rw [mergeTo_zero, ← Hlo.out]; exact ⟨hoB.1, hoB.2.imp id fun ⟨g, cap, cur, h1, h2, h3⟩ => ⟨g, cap, cur, h1, by omega, h3⟩⟩, G2.trans (hbB.mono G2.size)⟩
  obtain ⟨gi, cap, rfl⟩ := row_some hoB h1
  have HS0 := Lib.hid S0
  clear S0 hoB hbB KC K1' K2' K3' HM1 HM2 q0 q1 q2 q3 q4 q5 q6 q7 G2 hs3
  go_wp2_with fail
  go_loopw [35] (fun i wr => ∃ k : Nat, k ≤ no ∧ i = .int .i64 k ∧ MgAt w wr ⟨some ao, no, co⟩ ⟨some ax, nx, cx⟩ bo bn lo ln (.slice (some ⟨gi, 0, none⟩) no cap) (mergeTo lo ln k)) (fun i _ => no - (intOf i).toNat)
  case atStart => exact ⟨0, Nat.zero_le _, rfl, HS0.out⟩
  case round =>
   obtain ⟨k, hk, rfl, hA⟩ := hrel
   have HA := Lib.hid hA
   clear hA HS0
   by_cases hlt : k < no
   ·have hkl : k < lo.length := by have := Hlo.out; omega
    have hlen : (mergeTo lo ln k).length = no := by simp [Hlo.out]
    have hown := HA.out.own
    rw [hlen] at hown
    have hit : itAt (mergeTo lo ln k) k = itAt lo k := by rw [itAt_merge _ _ _ _ hkl, if_neg (by omega)]
    have gc := fun r (hr : r < 7) => (hown.cellAt (k * 7 + r) (by omega)).trans (icells_get (mergeTo lo ln k) k r (by rw [hlen]; exact hlt) hr)
    rw [hit] at gc
    have c0 : wr.cell? ⟨gi, k * 7, none⟩ = some (.string (itAt lo k).name) := gc 0 (by omega)
    have c1 : wr.cell? ⟨gi, k * 7 + 1, none⟩ = some (.bool (itAt lo k).object) := gc 1 (by omega)
    have c2 : wr.cell? ⟨gi, k * 7 + 2, none⟩ = some (.bool (itAt lo k).mixed) := gc 2 (by omega)
    have c3 : wr.cell? ⟨gi, k * 7 + 3, none⟩ = some (.bool (itAt lo k).coin) := gc 3 (by omega)
    have c4 : wr.cell? ⟨gi, k * 7 + 4, none⟩ = some (.int .i64 (itAt lo k).wear) := gc 4 (by omega)
    have c5 : wr.cell? ⟨gi, k * 7 + 5, none⟩ = some (.int .i64 (itAt lo k).bnd) := gc 5 (by omega)
    have c6 : wr.cell? ⟨gi, k * 7 + 6, none⟩ = some (.int .i64 (itAt lo k).level) := gc 6 (by omega)
    have hgi : gi < wr.heap.size := (hown.lt gi rfl).2
    have hpm := plain_max (Ho.out.items.name _ (itAt_mem hkl))
    have HA1 := Lib.hid (HA.out.grow ((Below.refl _ wr).alloc (Nat.le_refl _) (.cells #[.string (itAt lo k).name, .bool (itAt lo k).object, .bool (itAt lo k).mixed, .bool (itAt lo k).coin, .int .i64 (itAt lo k).wear, .int .i64 (itAt lo k).bnd, .int .i64 (itAt lo k).level] 89)))
    have HX := Lib.hid (Bk.new wr 89 [.string (itAt lo k).name, .bool (itAt lo k).object, .bool (itAt lo k).mixed, .bool (itAt lo k).coin, .int .i64 (itAt lo k).wear, .int .i64 (itAt lo k).bnd, .int .i64 (itAt lo k).level])
    have lk := HA1.out.mn.look hpm
    have Hsk := Lib.hid (mergeTo_skip lo ln k hkl)
    have Hse := Lib.hid (mergeTo_set lo ln k hkl)
    have hke := HE.out k hlt
    have Hmi : Hid (mergeIt ln (itAt lo k) = match idxTo ln nx (itAt lo k).name with | some b => itAt ln b | none => itAt lo k) := by show mergeIt ln (itAt lo k) = _; rw [Hln.out]; rfl
    have Hke : Hid ((match idxTo ln nx (itAt lo k).name with | some b => if alikeB (itAt lo k) (itAt ln b) = false then 9 else 0 | none => 0) = (0 : Int)) := by show _ = _; rw [Hln.out]; exact hke
    have Hlen := Lib.hid hlen
    have k0 : (0 : Int) ≤ (k : Int) := by omega
    have k1 : (k : Int) < (no : Int) := by omega
    clear hkl hlen hown hit gc hke HA
    generalize itAt lo k = ta at *
    cases hb : idxTo ln nx ta.name with
    | none =>
      rw [hb] at lk Hmi
      dsimp only at Hmi
      have Hs2 := Lib.hid (Hsk.out Hmi.out)
      simp only [Option.isSome_none, Option.getD_none] at lk
      obtain ⟨n1, o1, m1, c1', w1', b1, l1⟩ := ta
      dsimp only at *
      clear hb Hke Hse Hsk Hmi
      go_wp2_with fail
      go_roundw
      case rel => exact ⟨k + 1, by omega, by go_num, by rw [← Hs2.out]; exact HA1.out⟩
      case measure => simp [intOf]; omega
    | some b' =>
      have hb1 := (idxTo_lt hb).1
      rw [hb] at lk Hmi Hke
      dsimp only at Hmi Hke
      rw [Hmi.out] at Hse
      have hal : alikeB ta (itAt ln b') = true := by
       cases hq : alikeB ta (itAt ln b')
       ·have := Hke.out
        rw [if_pos hq] at this
        exact absurd this (by decide)
       ·rfl
      simp only [Option.isSome_some, Option.getD_some] at lk
      have AK0 := fun U : World => alike_any ta (itAt ln b') U
      rw [hal] at AK0
      have AK := Lib.hid AK0
      clear hb Hke Hsk Hmi hal AK0
      have i2 : (0 : Int) ≤ (b' : Int) := by omega
      have i3 : (b' : Int) < (nx : Int) := by omega
      obtain ⟨bp, op, hax, hbp, pc0, pc1, pc2, pc3, pc4, pc5, pc6⟩ := (Hn.out.items.below HA1.out.below).at_ b' hb1
      cases hax
      have p0 := HA1.out.b2.cell 0
      generalize itAt ln b' = tb at *
      obtain ⟨n1, o1, m1, c1', w1', b1, l1⟩ := ta
      obtain ⟨n2, o2, m2, c2', w2', b2, l2⟩ := tb
      dsimp only at *
      have x0 := HX.out.cell 0
      have x1 := HX.out.cell 1
      have x2 := HX.out.cell 2
      have x3 := HX.out.cell 3
      have x4 := HX.out.cell 4
      have x5 := HX.out.cell 5
      have x6 := HX.out.cell 6
      go_wp2_with fail
      generalize wr.alloc (.cells #[.string n1, .bool o1, .bool m1, .bool c1', .int .i64 w1', .int .i64 b1, .int .i64 l1] 89) = W at *
      clear c0 c1 c2 c3 c4 c5 c6 hgi lk
      generalize wr.heap.size = gx at *
      go_still_tail 6, (by kernel_rfl)
      change wpList _ _ _ _ _ W.drew
      go_wp2_with fail
      refine (AK.out _).mono ?_
      rintro e wA ⟨rfl, hbA⟩
      have BA : Below W.heap.size W wA := (Below.refl W.heap.size W).drew.trans hbA
      have HA3 := Lib.hid (HA1.out.grow BA)
      have s0 := HA3.out.b2.cell 0
      have t0 : wA.cell? ⟨bp, op + b' * 7, none⟩ = some (.string n2) := (BA.cell (p := ⟨bp, _, none⟩) hbp).trans pc0
      have t1 : wA.cell? ⟨bp, op + b' * 7 + 1, none⟩ = some (.bool o2) := (BA.cell (p := ⟨bp, _, none⟩) hbp).trans pc1
      have t2 : wA.cell? ⟨bp, op + b' * 7 + 2, none⟩ = some (.bool m2) := (BA.cell (p := ⟨bp, _, none⟩) hbp).trans pc2
      have t3 : wA.cell? ⟨bp, op + b' * 7 + 3, none⟩ = some (.bool c2') := (BA.cell (p := ⟨bp, _, none⟩) hbp).trans pc3
      have t4 : wA.cell? ⟨bp, op + b' * 7 + 4, none⟩ = some (.int .i64 w2') := (BA.cell (p := ⟨bp, _, none⟩) hbp).trans pc4
      have t5 : wA.cell? ⟨bp, op + b' * 7 + 5, none⟩ = some (.int .i64 b2) := (BA.cell (p := ⟨bp, _, none⟩) hbp).trans pc5
      have t6 : wA.cell? ⟨bp, op + b' * 7 + 6, none⟩ = some (.int .i64 l2) := (BA.cell (p := ⟨bp, _, none⟩) hbp).trans pc6
      have ho3 := HA3.out.own
      rw [Hlen.out] at ho3
      have hg3 : gi < wA.heap.size := (ho3.lt gi rfl).2
      have ex := fun r (hr : r < 7) => (ho3.cellAt (k * 7 + r) (by omega)).trans (icells_get (mergeTo lo ln k) k r (by rw [Hlen.out]; exact hlt) hr)
      generalize itAt (mergeTo lo ln k) k = tq at *
      obtain ⟨y1, y2, y3, y4, y5, y6, y7⟩ := tq
      have e0 : wA.cell? ⟨gi, k * 7, none⟩ = some (.string y1) := ex 0 (by omega)
      have e1 : wA.cell? ⟨gi, k * 7 + 1, none⟩ = some (.bool y2) := ex 1 (by omega)
      have e2 : wA.cell? ⟨gi, k * 7 + 2, none⟩ = some (.bool y3) := ex 2 (by omega)
      have e3 : wA.cell? ⟨gi, k * 7 + 3, none⟩ = some (.bool y4) := ex 3 (by omega)
      have e4 : wA.cell? ⟨gi, k * 7 + 4, none⟩ = some (.int .i64 y5) := ex 4 (by omega)
      have e5 : wA.cell? ⟨gi, k * 7 + 5, none⟩ = some (.int .i64 y6) := ex 5 (by omega)
      have e6 : wA.cell? ⟨gi, k * 7 + 6, none⟩ = some (.int .i64 y7) := ex 6 (by omega)
      have z0 := ho3.frozenAt (k * 7)
      have z1 := ho3.frozenAt (k * 7 + 1)
      have z2 := ho3.frozenAt (k * 7 + 2)
      have z3 := ho3.frozenAt (k * 7 + 3)
      have z4 := ho3.frozenAt (k * 7 + 4)
      have z5 := ho3.frozenAt (k * 7 + 5)
      have z6 := ho3.frozenAt (k * 7 + 6)
      have hset : MgAt w (((((((wA.setCell ⟨gi, k * 7, none⟩ (.string n2)).setCell ⟨gi, k * 7 + 1, none⟩ (.bool o2)).setCell ⟨gi, k * 7 + 2, none⟩ (.bool m2)).setCell ⟨gi, k * 7 + 3, none⟩ (.bool c2')).setCell ⟨gi, k * 7 + 4, none⟩ (.int .i64 w2')).setCell ⟨gi, k * 7 + 5, none⟩ (.int .i64 b2)).setCell ⟨gi, k * 7 + 6, none⟩ (.int .i64 l2)) ⟨some ao, no, co⟩ ⟨some ⟨bp, op, none⟩, nx, cx⟩ bo bn lo ln (.slice (some ⟨gi, 0, none⟩) no cap) (mergeTo lo ln (k + 1)) := by
       have hx := HA3.out
       rw [← Hlen.out] at hx
       have h2 := hx.setIt k ⟨n2, o2, m2, c2', w2', b2, l2⟩ (by rw [Hlen.out]; exact hlt)
       rw [Hse.out, Hlen.out] at h2
       exact h2
      have HF := Lib.hid hset
      clear hset ho3 ex pc0 pc1 pc2 pc3 pc4 pc5 pc6 x0 x1 x2 x3 x4 x5 x6 p0 hbA BA HA3 HA1 HX
      go_wp2_with fail
      go_roundw
      case rel => exact ⟨k + 1, by omega, by go_num, HF.out⟩
      case measure => simp [intOf]; omega
   ·obtain rfl : no = k := by omega
    have hA0 := HA.out
    have hmL : mergeTo lo ln no = mergeL lo ln 0 := by simp [mergeL, newTo, Hlo.out]
    rw [hmL] at hA0
    have q4 : wr.cell? ⟨w.heap.size + 1, 0, none⟩ = some (.slice (some ax) nx cx) := hA0.b2.cell 0
    have hl1 := hA0.b1.lt
    have hl2 := hA0.b2.lt
    have hl3 := hA0.b3.lt
    have mk := fun W => make_ints nx (by omega) W
    have hgw : Below wr.heap.size wr ((wr.alloc (.cells (ints (List.replicate nx 0)).toArray 3)).alloc (.cells #[.slice (some ⟨wr.heap.size, 0, none⟩) nx nx] 22)) := ((Below.refl _ _).alloc (Nat.le_refl _) _).alloc (by simp) _
    have HS := Lib.hid (hA0.grow hgw)
    have kp := (Bk.new wr 3 (ints (List.replicate nx 0))).alloc (.cells #[.slice (some ⟨wr.heap.size, 0, none⟩) nx nx] 22)
    have kb := Bk.new (wr.alloc (.cells (ints (List.replicate nx 0)).toArray 3)) 22 [.slice (some ⟨wr.heap.size, 0, none⟩) nx nx]
    rw [World.size_alloc] at kb
    have KP := Lib.hid kp
    have KB := Lib.hid kb
    have hgp : w.heap.size + 3 ≤ wr.heap.size := by omega
    clear hA0 hmL hgw kp kb HA
    go_wp2_with fail
    generalize (wr.alloc (.cells (ints (List.replicate nx 0)).toArray 3)).alloc (.cells #[.slice (some ⟨wr.heap.size, 0, none⟩) nx nx] 22) = W0 at *
    have hgb : w.heap.size + 3 ≤ wr.heap.size + 1 := by omega
    have hgbp : wr.heap.size + 1 ≠ wr.heap.size := by omega
    generalize wr.heap.size + 1 = gb at *
    generalize wr.heap.size = gp at *
    clear q4 mk hl1 hl2 hl3
    go_loopw [9, 74] (fun x i wz => ∃ k : Nat, k ≤ nx ∧ i = .int .i64 k ∧ MgAt w wz ⟨some ao, no, co⟩ ⟨some ax, nx, cx⟩ bo bn lo ln x (mergeL lo ln k) ∧ Bk wz gb 22 [.slice (some ⟨gp, 0, none⟩) nx nx] ∧ ∃ pl : List Int, pl.length = nx ∧ Bk wz gp 3 (ints pl)) (fun _ i _ => nx - (intOf i).toNat)
    case atStart => exact ⟨0, Nat.zero_le _, rfl, HS.out, KB.out, _, by simp, KP.out⟩
    case round =>
     obtain ⟨k, hk, rfl, hA, kb, pl, hpl, kp⟩ := hrel
     have HA := Lib.hid hA
     have KB1 := Lib.hid kb
     have KP1 := Lib.hid kp
     have Hpl := Lib.hid hpl
     clear hA kb kp hpl HS KB KP
     have hll := mergeL_le lo ln k
     rw [← Hlo.out] at hll
     by_cases hlt : k < nx
     ·have hkl : k < ln.length := by have := Hln.out; omega
      obtain ⟨bp, op, hax, hbp, pc0, pc1, pc2, pc3, pc4, pc5, pc6⟩ := (Hn.out.items.below HA.out.below).at_ k hlt
      cases hax
      have hpm := plain_max (Hn.out.items.name _ (itAt_mem hkl))
      have HA1 := Lib.hid (HA.out.grow ((Below.refl _ wr).alloc (Nat.le_refl _) (.cells #[.string (itAt ln k).name, .bool (itAt ln k).object, .bool (itAt ln k).mixed, .bool (itAt ln k).coin, .int .i64 (itAt ln k).wear, .int .i64 (itAt ln k).bnd, .int .i64 (itAt ln k).level] 89)))
      have lk := HA1.out.mo.look hpm
      have Hso : Hid ((idxTo lo no (itAt ln k).name).isSome = true → mergeL lo ln (k + 1) = mergeL lo ln k) := fun h => mergeL_succ_old (by rw [← Hlo.out]; exact h)
      have Hsn : Hid ((idxTo lo no (itAt ln k).name).isSome = false → mergeL lo ln (k + 1) = mergeL lo ln k ++ [itAt ln k]) := fun h => mergeL_succ_new (by rw [← Hlo.out]; exact h)
      have HX := Lib.hid (Bk.new wr 89 [.string (itAt ln k).name, .bool (itAt ln k).object, .bool (itAt ln k).mixed, .bool (itAt ln k).coin, .int .i64 (itAt ln k).wear, .int .i64 (itAt ln k).bnd, .int .i64 (itAt ln k).level])
      have k0 : (0 : Int) ≤ (k : Int) := by omega
      have k1 : (k : Int) < (nx : Int) := by omega
      obtain ⟨Ax9, cx9, hx9, _, _, _⟩ := row_form HA.out.own
      subst hx9
      clear hkl
      generalize itAt ln k = tb at *
      obtain ⟨n2, o2, m2, c2', w2', b2, l2⟩ := tb
      dsimp only at *
      have hgpl : gp < wr.heap.size := KP1.out.lt
      have hgbl : gb < wr.heap.size := KB1.out.lt
      have hpc : ∀ X : World, Bk X gp 3 (ints pl) → X.cell? ⟨gp, k, none⟩ = some (.int .i64 (wAt pl k)) := fun X hX => (hX.cell k).trans (ints_at pl k (by rw [Hpl.out]; exact hlt))
      cases hb : idxTo lo no n2 with
      | some a =>
        rw [hb] at lk Hso
        simp only [Option.isSome_some, Option.getD_some] at lk
        have Hs := Lib.hid (Hso.out rfl)
        have y0 : wr.cell? ⟨gb, 0, none⟩ = some (.slice (some ⟨gp, 0, none⟩) nx nx) := KB1.out.cell 0
        have y1 := hpc _ KP1.out
        have y2 := KP1.out.frozen k
        have hF := (HA.out.setP KP1.out (by decide) hgp k (.int .i64 (a : Int))).grow ((Below.refl _ _).alloc (Nat.le_refl _) (.cells #[.string n2, .bool o2, .bool m2, .bool c2', .int .i64 w2', .int .i64 b2, .int .i64 l2] 89))
        have kp3 := (KP1.out.set k (.int .i64 (a : Int))).alloc (.cells #[.string n2, .bool o2, .bool m2, .bool c2', .int .i64 w2', .int .i64 b2, .int .i64 l2] 89)
        rw [ints_set] at kp3
        have kb3 := (KB1.out.far (p := ⟨gp, k, none⟩) hgbp (.int .i64 (a : Int))).alloc (.cells #[.string n2, .bool o2, .bool m2, .bool c2', .int .i64 w2', .int .i64 b2, .int .i64 l2] 89)
        have HF := Lib.hid hF
        have KP3 := Lib.hid kp3
        have KB3 := Lib.hid kb3
        clear hF kp3 kb3 hb Hso Hsn hpc
        go_wp2_with fail
        go_roundw
        case rel => exact ⟨k + 1, by omega, by go_num, by rw [Hs.out]; exact HF.out, KB3.out, _, by rw [List.length_set]; exact Hpl.out, KP3.out⟩
        case measure => simp [intOf]; omega
      | none =>
        rw [hb] at lk Hsn
        simp only [Option.isSome_none, Option.getD_none] at lk
        have Hs := Lib.hid (Hsn.out rfl)
        have hown2 := HA1.out.own.alloc (.cells #[.string n2, .bool o2, .bool m2, .bool c2', .int .i64 w2', .int .i64 b2, .int .i64 l2] 89)
        have HO2 := Lib.hid hown2
        have kb2 := (KB1.out.alloc (.cells #[.string n2, .bool o2, .bool m2, .bool c2', .int .i64 w2', .int .i64 b2, .int .i64 l2] 89)).alloc (.cells #[.string n2, .bool o2, .bool m2, .bool c2', .int .i64 w2', .int .i64 b2, .int .i64 l2] 89)
        have kp2 := (KP1.out.alloc (.cells #[.string n2, .bool o2, .bool m2, .bool c2', .int .i64 w2', .int .i64 b2, .int .i64 l2] 89)).alloc (.cells #[.string n2, .bool o2, .bool m2, .bool c2', .int .i64 w2', .int .i64 b2, .int .i64 l2] 89)
        have HA2 := Lib.hid (HA1.out.grow ((Below.refl _ _).alloc (Nat.le_refl _) (.cells #[.string n2, .bool o2, .bool m2, .bool c2', .int .i64 w2', .int .i64 b2, .int .i64 l2] 89)))
        have KB2 := Lib.hid kb2
        have KP2 := Lib.hid kp2
        have C1 := new7a (wr.alloc (.cells #[.string n2, .bool o2, .bool m2, .bool c2', .int .i64 w2', .int .i64 b2, .int .i64 l2] 89)) 89 (.string n2) (.bool o2) (.bool m2) (.bool c2') (.int .i64 w2') (.int .i64 b2) (.int .i64 l2)
        rw [World.size_alloc] at C1
        have HC1 := Lib.hid C1
        have hbig : w.heap.size + 3 ≤ wr.heap.size := by omega
        clear kb2 kp2 hown2 C1 hb Hso Hsn
        go_wp2_with (at_builtin; refine wpList_append_own_at _ rfl _ _ 23 rfl (w.heap.size + 3) 89 i0 (.agg #[.string ⟨#[]⟩, .bool false, .bool false, .bool false, .int .i64 0, .int .i64 0, .int .i64 0]) 7 48 Tryz.underlying23 hi hz0 hz1 hz2 rfl (by decide) _ (mergeL lo ln k).length (icells (mergeL lo ln k)) rfl HO2.out ⟨wr.heap.size + 1, 0, none⟩ 1 1 [.string n2, .bool o2, .bool m2, .bool c2', .int .i64 w2', .int .i64 b2, .int .i64 l2] rfl rfl HC1.out (icells_one [⟨n2, o2, m2, c2', w2', b2, l2⟩]) ?c3 ?c4 ?c5 ?_)
        case c3 => unfold maxLen; omega
        case c4 => omega
        case c5 => simp; omega
        intro v' w3 hown' hgrow _ _
        have h1 := row_ne HO2.out KB2.out (by decide)
        have h2 := row_ne HO2.out KP2.out (by decide)
        have hT : MgAt w w3 ⟨some ao, no, co⟩ ⟨some ⟨bp, op, none⟩, nx, cx⟩ bo bn lo ln v' (mergeL lo ln (k + 1)) := by
         refine HA2.out.turn hgrow ?_
         rw [Hs.out, icells_snoc, List.length_append]
         exact hown'
        have kb4 := KB2.out.grown hgrow (Ne.symm h1)
        have kp4 := KP2.out.grown hgrow (Ne.symm h2)
        have y0 : w3.cell? ⟨gb, 0, none⟩ = some (.slice (some ⟨gp, 0, none⟩) nx nx) := kb4.cell 0
        have y1 := hpc _ kp4
        have y2 := kp4.frozen k
        have y3 := kp4.lt
        have hF := hT.setP kp4 (by decide) hgp k (.int .i64 ((mergeL lo ln k).length : Int))
        have kp5 := kp4.set k (.int .i64 ((mergeL lo ln k).length : Int))
        rw [ints_set] at kp5
        have kb5 := kb4.far (p := ⟨gp, k, none⟩) hgbp (.int .i64 ((mergeL lo ln k).length : Int))
        have HF := Lib.hid hF
        have KP3 := Lib.hid kp5
        have KB3 := Lib.hid kb5
        clear hF kp5 kb5 hT kb4 kp4 h1 h2 hown' hgrow hpc
        go_wp2_with fail
        go_roundw
        case rel => exact ⟨k + 1, by omega, by go_num, HF.out, KB3.out, _, by rw [List.length_set]; exact Hpl.out, KP3.out⟩
        case measure => simp [intOf]; omega
     ·obtain rfl : nx = k := by omega
      obtain ⟨Ax9, cx9, hx9, _, _, _⟩ := row_form HA.out.own
      subst hx9
      have KR := Lib.hid (fun F p => rewrite_items cx (Hn.out.items.below HA.out.below) Ax9 (mergeL lo ln nx).length cx9 F p)
      have q0 : wr.cell? ⟨w.heap.size + 1, 0, none⟩ = some (.slice (some ax) nx cx) := HA.out.b2.cell 0
      have q1 : wr.cell? ⟨w.heap.size + 1, 1, none⟩ = some nilS := HA.out.b2.cell 1
      have q2 : wr.cell? ⟨w.heap.size + 1, 2, none⟩ = some nilS := HA.out.b2.cell 2
      have q3 : wr.cell? ⟨w.heap.size + 1, 3, none⟩ = some nilS := HA.out.b2.cell 3
      go_wp2_with fail
      refine (KR.out _ _).mono ?_
      rintro e w3 ⟨rfl, hb3⟩
      have k3 := HA.out.b3.below hb3 HA.out.b3.lt
      have z0 : w3.cell? ⟨w.heap.size + 1 + 1, 0, none⟩ = some nilS := k3.cell 0
      have z1 : w3.cell? ⟨w.heap.size + 1 + 1, 1, none⟩ = some nilS := k3.cell 1
      have z2 : w3.cell? ⟨w.heap.size + 1 + 1, 2, none⟩ = some nilS := k3.cell 2
      have z3 : w3.cell? ⟨w.heap.size + 1 + 1, 3, none⟩ = some nilS := k3.cell 3
      have f0 : w3.frozen? ⟨w.heap.size + 1 + 1, 0, none⟩ = false := k3.frozen 0
      have f1 : w3.frozen? ⟨w.heap.size + 1 + 1, 1, none⟩ = false := k3.frozen 1
      have f2 : w3.frozen? ⟨w.heap.size + 1 + 1, 2, none⟩ = false := k3.frozen 2
      have f3 : w3.frozen? ⟨w.heap.size + 1 + 1, 3, none⟩ = false := k3.frozen 3
      have zl : w.heap.size + 1 + 1 < w3.heap.size := k3.lt
      have HF := Lib.hid (merge_end (u0 := .slice Ax9 (mergeL lo ln nx).length cx9) (u1 := nilS) (u2 := nilS) (u3 := nilS) HA.out rfl hb3)
      have k9 := (((k3.set 0 (.slice Ax9 (mergeL lo ln nx).length cx9)).set 1 nilS).set 2 nilS).set 3 nilS
      have K9 := Lib.hid k9
      clear k3 k9 hb3
      go_wp2_with fail
      have r0 := K9.out.cell 0
      have r1 := K9.out.cell 1
      have r2 := K9.out.cell 2
      have r3 := K9.out.cell 3
      exact bodyPost_ret (v := .tuple #[.agg #[.slice Ax9 (mergeL lo ln nx).length cx9, nilS, nilS, nilS], .int .i64 0]) (by simp [results, Tryz.results18, go_sem, r0, r1, r2, r3]) rfl HF.out
end
def missB (ts : List Tr) (hs : List Int) (i : Nat) : Bool := decide (0 < wAt hs i) && (decide (ts.length ≤ i) || decide (itemAt ts i < 0))
def missTo (ts : List Tr) (hs : List Int) : Nat → Option Nat
 | 0 => none
 | k + 1 => match missTo ts hs k with | some i => some i | none => if missB ts hs k = true then some k else none
theorem missTo_stays {ts : List Tr} {hs : List Int} {k i : Nat} (h : missTo ts hs k = some i) : ∀ m, k ≤ m → missTo ts hs m = some i := by
 intro m hm
 induction m with
 | zero => obtain rfl : k = 0 := by omega
           exact h
 | succ m ih =>
   by_cases e : k = m + 1
   ·subst e; exact h
   ·simp only [missTo, ih (by omega)]
def missI (ts : List Tr) (hs : List Int) : Option Nat := missTo ts hs hs.length
def MissPost (w : World) (ts : List Tr) (hs : List Int) (e : Ending) (w' : World) : Prop := e = .returned (.tuple #[.int .i64 (((missI ts hs).getD 0 : Nat) : Int), .bool (missI ts hs).isSome]) ∧ w = w'
set_option maxRecDepth 100000 in
set_option maxHeartbeats 1000000 in
theorem missing_any {w : World} {A A' : Option Addr} {m m' : Nat} (c c' : Nat) {ts : List Tr} {hs : List Int} (ht : TosV w A m ts) (hh : IntsV w A' m' hs) (hm : m ≤ 1000000) (hm' : m' ≤ 1000000) :
 Calls Tryz.prog 24 #[.slice A m c, .slice A' m' c'] w (MissPost w ts hs) := by
 have Hlt := Lib.hid ht.len
 have Hlh := Lib.hid hh.len
 have HT := Lib.hid ht
 have HU := Lib.hid hh
 clear ht hh
 go_enter Tryz.func24, Tryz.ntmps24
 go_wp2_with fail
 go_loop [10] (fun i => ∃ k : Nat, k ≤ m' ∧ i = .int .i64 k ∧ missTo ts hs k = none) (fun i => m' - (intOf i).toNat)
 case atStart => exact ⟨0, Nat.zero_le _, rfl, rfl⟩
 case round =>
  obtain ⟨k, hk, rfl, hN⟩ := hrel
  have HN := Lib.hid hN
  clear hN
  by_cases hlt : k < m'
  ·obtain ⟨b', off', rfl, hbb', hc'⟩ := HU.out.row.at_ k (by rw [ints_length]; have := Hlh.out; omega)
   have d1 : w.cell? ⟨b', off' + k, none⟩ = some (.int .i64 (wAt hs k)) := hc' k _ (ints_at hs k (by have := Hlh.out; omega))
   have Hno : Hid (missB ts hs k = false → missTo ts hs (k + 1) = none) := fun h => by simp [missTo, HN.out, h]
   have Hyes : Hid (missB ts hs k = true → missI ts hs = some k) := fun h => by
    have : missTo ts hs (k + 1) = some k := by simp [missTo, HN.out, h]
    exact missTo_stays this _ (by have := Hlh.out; omega)
   have Hd : Hid (missB ts hs k = (decide (0 < wAt hs k) && (decide (m ≤ k) || decide (itemAt ts k < 0)))) := by show missB ts hs k = _; rw [Hlt.out]; rfl
   clear hc'
   by_cases h0 : 0 < wAt hs k
   ·by_cases h1 : m ≤ k
    ·have Hq := Lib.hid (Hyes.out (by rw [Hd.out]; simp [h0, h1]))
     clear Hyes Hno Hd
     generalize wAt hs k = x at *
     have e1 : decide (m ≤ k) = true := by simpa using h1
     go_wp2_with fail
     go_ret2
     exact ⟨by rw [Hq.out]; rfl, rfl⟩
    ·obtain ⟨b, off, rfl, hbb, hc⟩ := HT.out.row.at_ 0 (by rw [tcells_length]; have := Hlt.out; omega)
     have c1 := hc _ _ (tcells_at ts k (by have := Hlt.out; omega)).1
     have e1 : decide (m ≤ k) = false := by simpa using h1
     have k0 : (0 : Int) ≤ (k : Int) := by omega
     have k1 : (k : Int) < (m : Int) := by omega
     clear hc
     by_cases h2 : itemAt ts k < 0
     ·have Hq := Lib.hid (Hyes.out (by rw [Hd.out]; simp [h0, h2]))
      clear Hyes Hno Hd
      generalize wAt hs k = x at *
      generalize itemAt ts k = y at *
      go_wp2_with fail
      go_ret2
      exact ⟨by rw [Hq.out]; rfl, rfl⟩
     ·have Hq := Lib.hid (Hno.out (by rw [Hd.out]; simp [e1]; omega))
      clear Hyes Hno Hd
      generalize wAt hs k = x at *
      generalize itemAt ts k = y at *
      go_wp2_with fail
      go_round
      case rel => exact ⟨k + 1, by omega, by go_num, Hq.out⟩
      case measure => simp [intOf]; omega
   ·have Hq := Lib.hid (Hno.out (by rw [Hd.out]; simp [h0]))
    have e0 : decide (0 < wAt hs k) = false := by simpa using h0
    clear Hyes Hno Hd
    generalize wAt hs k = x at *
    go_wp2_with fail
    go_round
    case rel => exact ⟨k + 1, by omega, by go_num, Hq.out⟩
    case measure => simp [intOf]; omega
  ·have hkn : k = hs.length := by have := Hlh.out; omega
   have Hq : Hid (missI ts hs = none) := by show missI ts hs = none; unfold missI; rw [← hkn]; exact HN.out
   clear hkn
   go_wp2_with fail
   go_ret2
   exact ⟨by rw [Hq.out]; rfl, rfl⟩
theorem last_any {w : World} {h n c : Nat} {A : Option Addr} (hn : n ≤ 1000000) (hc : w.cell? ⟨h, 0, none⟩ = some (.slice A n c)) :
 Calls Tryz.prog 38 #[.pointer (some ⟨h, 0, none⟩)] w fun e w' => e = .returned (.int .i64 ((n : Int) - 1)) ∧ w = w' := by
 go_enter Tryz.func38, Tryz.ntmps38
 go_wp2
 go_ret
 exact ⟨rfl, rfl⟩
/-- What Start leaves: a history with one version. -/
structure HistAt (W : World) (h gc : Nat) (A : Option Addr) (n c : Nat) (l : List It) : Prop where
 bh : Bk W h 143 [.slice (some ⟨gc, 0, none⟩) 1 1, nilS]
 bc : Bk W gc 28 [.slice A n c, nilS, nilS, nilS]
 items : ItemsV W A n l
theorem HistAt.grow {W W' : World} {h gc : Nat} {A : Option Addr} {n c : Nat} {l : List It} (H : HistAt W h gc A n c l) (hb : Below W.heap.size W W') : HistAt W' h gc A n c l := ⟨H.bh.below hb H.bh.lt, H.bc.below hb H.bc.lt, H.items.below hb⟩
def StartPost (w : World) (n : Nat) (l : List It) (e : Ending) (w' : World) : Prop := ∃ h gc a c, e = .returned (.tuple #[.pointer (some ⟨h, 0, none⟩), .int .i64 0]) ∧ HistAt w' h gc (some a) n c l ∧ Below w.heap.size w w'
set_option maxRecDepth 100000 in
set_option maxHeartbeats 1000000 in
theorem start_items {w : World} {a : Addr} {n : Nat} (c : Nat) {l : List It} (h : CatV w (some a) n l) (h1 : 0 < n) : Calls Tryz.prog 34 #[catV (some a) n c] w (StartPost w n l) := by
 have hb0 : Below w.heap.size w (w.alloc (catO (some a) n c)) := (Below.refl _ _).alloc (Nat.le_refl _) _
 have H := Lib.hid h
 clear h
 go_enter Tryz.func34, Tryz.ntmps34
 go_wp2_with fail
 refine (valid_items c (H.out.below hb0)).mono ?_
 rintro e w1 ⟨rfl, hb1⟩
 have k1 : Bk w1 w.heap.size 28 (catL (some a) n c) := (Bk.new w 28 (catL (some a) n c)).below hb1 (by simp)
 have G1 : Below w.heap.size w w1 := hb0.trans (hb1.mono (by simp))
 have KC := Lib.hid (copies_items c (H.out.items.below G1))
 have s0 : w1.cell? ⟨w.heap.size, 0, none⟩ = some (.slice (some a) n c) := k1.cell 0
 have s1 : w1.cell? ⟨w.heap.size, 1, none⟩ = some (.slice none 0 0) := k1.cell 1
 have s2 : w1.cell? ⟨w.heap.size, 2, none⟩ = some (.slice none 0 0) := k1.cell 2
 have s3 : w1.cell? ⟨w.heap.size, 3, none⟩ = some (.slice none 0 0) := k1.cell 3
 clear hb0 hb1 k1
 go_wp2_with fail
 refine KC.out.mono ?_
 rintro e w2 ⟨v, rfl, ho, hb2⟩
 obtain ⟨g, cap, rfl⟩ := row_some ho h1
 have hit : ItemsV w2 (some ⟨g, 0, none⟩) n l := by
  obtain ⟨A, c', e, hr⟩ := row_of_owns ho
  cases e
  exact ⟨hr, H.out.items.len, H.out.items.small, H.out.items.name⟩
 have G2 := G1.trans (hb2.mono G1.size)
 have Hit := Lib.hid hit
 clear s0 s1 s2 s3 hb2 ho hit KC
 go_wp2
 go_ret2
 have kb := Bk.new (w2.alloc (.cells #[.slice (some ⟨g, 0, none⟩) n cap, nilS, nilS, nilS] 28)) 143 [.slice (some ⟨w2.heap.size, 0, none⟩) 1 1, nilS]
 rw [World.size_alloc] at kb
 refine ⟨w2.heap.size + 1, w2.heap.size, ⟨g, 0, none⟩, cap, rfl, ⟨kb, (Bk.new w2 28 [.slice (some ⟨g, 0, none⟩) n cap, nilS, nilS, nilS]).alloc _, ?_⟩, ?_⟩
 ·exact Hit.out.below (((Below.refl _ w2).alloc (Nat.le_refl _) _).alloc (by simp) _)
 ·exact (G2.alloc G2.size _).alloc (by have := G2.size; simp; omega) _
theorem rensV_nil (w : World) : RensV w none 0 [] := ⟨.inl rfl, rfl, by omega, fun k hk => by omega⟩
set_option maxRecDepth 100000 in
set_option maxHeartbeats 2000000 in
theorem add_busy {w : World} {h gc : Nat} {a ax : Addr} {n nx c : Nat} (cx : Nat) {lo ln : List It} {Ah : Option Addr} {ch i : Nat} {hs : List Int} (hH : HistAt w h gc (some a) n c lo) (ho : CatV w (some a) n lo) (hn : CatV w (some ax) nx ln)
 (hh : IntsV w Ah n hs) (hu : unitsB hs = true) (hE : newE lo ln [] = 0) (hM : missI (newL lo ln []) hs = some i) :
 Calls Tryz.prog 37 #[.pointer (some ⟨h, 0, none⟩), catV (some ax) nx cx, .slice none 0 0, .slice Ah n ch] w fun e w' => e = .returned (.tuple #[.int .i64 (i : Int), .int .i64 13]) ∧ Below w.heap.size w w' := by
 have hb0 : Below w.heap.size w (w.alloc (catO (some ax) nx cx)) := (Below.refl _ _).alloc (Nat.le_refl _) _
 have hn64 := ho.n64
 have HH := Lib.hid hH
 have Ho := Lib.hid ho
 have Hn := Lib.hid hn
 have Hh := Lib.hid hh
 have Hu := Lib.hid hu
 have HE := Lib.hid hE
 have HM := Lib.hid hM
 clear hH ho hn hh hu hE hM
 have kx := Bk.new w 28 (catL (some ax) nx cx)
 have HKX := Lib.hid kx
 clear kx
 go_enter Tryz.func37, Tryz.ntmps37
 go_wp2_with fail
 have HH1 := Lib.hid (HH.out.grow hb0)
 have Ho1 := Lib.hid (Ho.out.below hb0)
 have Hn1 := Lib.hid (Hn.out.below hb0)
 have Hh1 := Lib.hid (Hh.out.below hb0)
 generalize w.alloc (catO (some ax) nx cx) = W at *
 generalize hgx : w.heap.size = gx at *
 have Hgx := Lib.hid hgx
 clear hgx HH Ho Hn Hh
 have hLs : Hid (∀ U : World, Below W.heap.size W U → Calls Tryz.prog 38 #[.pointer (some ⟨h, 0, none⟩)] U fun e w' => e = .returned (.int .i64 (((1 : Nat) : Int) - 1)) ∧ U = w') := fun U hU => last_any (by omega) ((HH1.out.grow hU).bh.cell 0)
 have HS : Hid (∀ U : World, Below W.heap.size W U → U.cell? ⟨h, 0, none⟩ = some (.slice (some ⟨gc, 0, none⟩) 1 1) ∧ U.cell? ⟨gc, 0, none⟩ = some (.slice (some a) n c) ∧ U.cell? ⟨gc, 1, none⟩ = some nilS ∧ U.cell? ⟨gc, 2, none⟩ = some nilS ∧ U.cell? ⟨gc, 3, none⟩ = some nilS) := fun U hU => by
  have e := HH1.out.grow hU
  exact ⟨e.bh.cell 0, e.bc.cell 0, e.bc.cell 1, e.bc.cell 2, e.bc.cell 3⟩
 go_cut [10] (fun x wx => ∃ g, x = .pointer (some ⟨g, 0, none⟩) ∧ Bk wx g 28 [.slice (some a) n c, nilS, nilS, nilS] ∧ Below W.heap.size W wx)
 case first =>
  go_region_held3 (fun U => U.cell? ⟨h, 0, none⟩ = some (.slice (some ⟨gc, 0, none⟩) 1 1) ∧ U.cell? ⟨gc, 0, none⟩ = some (.slice (some a) n c) ∧ U.cell? ⟨gc, 1, none⟩ = some nilS ∧ U.cell? ⟨gc, 2, none⟩ = some nilS ∧ U.cell? ⟨gc, 3, none⟩ = some nilS) (first | exact HS.out _ (Below.refl _ W).drew | exact HS.out _ ((Below.refl _ W).drew.alloc (Nat.le_refl _) _))
   (first | (go_at_call 38; (with_reducible refine (hLs.out _ ?_).mono ?_); (first | exact (Below.refl _ W).drew | exact (Below.refl _ W).drew.alloc (Nat.le_refl _) _); rintro e w' ⟨rfl, rfl⟩))
  all_goals (try go_wp2_with fail)
  all_goals go_meet
  all_goals exact ⟨_, rfl, Bk.new _ 28 [.slice (some a) n c, nilS, nilS, nilS], (Below.refl _ W).drew.alloc (Nat.le_refl _) _⟩
 case rest =>
  obtain ⟨g, rfl, kg, hbc⟩ := hcut
  have kx := HKX.out.below hbc HKX.out.lt
  have p0 : wc.cell? ⟨g, 0, none⟩ = some (.slice (some a) n c) := kg.cell 0
  have p1 : wc.cell? ⟨g, 1, none⟩ = some nilS := kg.cell 1
  have p2 : wc.cell? ⟨g, 2, none⟩ = some nilS := kg.cell 2
  have p3 : wc.cell? ⟨g, 3, none⟩ = some nilS := kg.cell 3
  have q0 : wc.cell? ⟨gx, 0, none⟩ = some (.slice (some ax) nx cx) := kx.cell 0
  have q1 : wc.cell? ⟨gx, 1, none⟩ = some nilS := kx.cell 1
  have q2 : wc.cell? ⟨gx, 2, none⟩ = some nilS := kx.cell 2
  have q3 : wc.cell? ⟨gx, 3, none⟩ = some nilS := kx.cell 3
  have Ho2 := Ho1.out.below hbc
  have Hn2 := Hn1.out.below hbc
  have KN := Lib.hid (New_valid (w := wc) (io := ⟨some a, n, c⟩) (ro := ⟨none, 0, 0⟩) (to_ := ⟨none, 0, 0⟩) (xo := ⟨none, 0, 0⟩) (ix := ⟨some ax, nx, cx⟩) (rx := ⟨none, 0, 0⟩) (tx := ⟨none, 0, 0⟩) (xx := ⟨none, 0, 0⟩) (R := ⟨none, 0, 0⟩) (rs := []) Ho2.items Hn2.items (rensV_nil wc) (fun V hV => both_items c cx (Ho2.below hV) (Hn2.below hV)))
  have Hh2 := Lib.hid (Hh1.out.below hbc)
  have HB := Lib.hid hbc
  have KG := Lib.hid kg
  clear kx hbc Ho2 Hn2 HS hLs
  go_wp2_with fail
  refine KN.out.mono ?_
  rintro e w1 ⟨A1, c1, rfl, hr1, hb1⟩
  rw [HE.out]
  have kg1 := KG.out.below hb1 KG.out.lt
  have r0 : w1.cell? ⟨g, 0, none⟩ = some (.slice (some a) n c) := kg1.cell 0
  have KU := units_any (c := ch) (Hh2.out.below hb1).row (Hh2.out.below hb1).len (by omega)
  rw [Hu.out] at KU
  have HKU := Lib.hid KU
  have en : ((n : Int) != (n : Int)) = false := by simp
  have hlen : (newL lo ln []).length ≤ 1000000 := by
   have h1 : (newL lo ln []).length ≤ lo.length := by unfold newL; split <;> simp
   have := Ho1.out.items.len; omega
  have KM := missing_any (c := c1) (c' := ch) (⟨hr1, rfl⟩ : TosV w1 A1 (newL lo ln []).length (newL lo ln [])) (Hh2.out.below hb1) hlen (by omega)
  have HKM := Lib.hid KM
  have G1 := HB.out.trans (hb1.mono HB.out.size)
  clear p0 p1 p2 p3 q0 q1 q2 q3 KN KU KM kg1 hb1 hr1 KG
  go_wp2_with fail
  refine HKU.out.mono ?_
  rintro e w2 ⟨rfl, rfl⟩
  go_wp2_with fail
  refine HKM.out.mono ?_
  rintro e w2 ⟨rfl, rfl⟩
  rw [HM.out]
  simp only [Option.getD_some, Option.isSome_some]
  go_wp2_with fail
  go_ret2
  refine ⟨rfl, ?_⟩
  rw [Hgx.out]
  exact hb0.trans (G1.mono (by have := HKX.out.lt; omega))
def sOre : ByteArray := ⟨#[111, 114, 101]⟩
def sWood : ByteArray := ⟨#[119, 111, 111, 100]⟩
def sIron : ByteArray := ⟨#[105, 114, 111, 110]⟩
theorem plain_of_letters (s : ByteArray) (hl : s.size ≤ 16) (h : ∀ i, i < s.size → kindAt s i = 3) : PlainName s :=
 ⟨hl, fun p hp => .inl ⟨h p hp, fun i _ hi => by rw [h i hi]; rfl⟩⟩
theorem plain_ore : PlainName sOre := by
 refine plain_of_letters sOre (by decide) fun i hi => ?_
 have hi' : i < 3 := hi
 rcases (show i = 0 ∨ i = 1 ∨ i = 2 by omega) with rfl | rfl | rfl <;> decide +kernel
theorem plain_wood : PlainName sWood := by
 refine plain_of_letters sWood (by decide) fun i hi => ?_
 have hi' : i < 4 := hi
 rcases (show i = 0 ∨ i = 1 ∨ i = 2 ∨ i = 3 by omega) with rfl | rfl | rfl | rfl <;> decide +kernel
theorem plain_iron : PlainName sIron := by
 refine plain_of_letters sIron (by decide) fun i hi => ?_
 have hi' : i < 4 := hi
 rcases (show i = 0 ∨ i = 1 ∨ i = 2 ∨ i = 3 by omega) with rfl | rfl | rfl | rfl <;> decide +kernel
def bare (s : ByteArray) : It := ⟨s, false, false, false, 0, 0, 0⟩
def oldL : List It := [bare sOre, bare sWood]
def nextL : List It := [bare sWood, bare sIron]
def renL : List Ren := [⟨sOre, sIron, 1, 2⟩]
theorem good_old : GoodIt oldL := ⟨by decide, by decide +kernel, by decide +kernel, by decide +kernel, by decide +kernel⟩
theorem good_next : GoodIt nextL := ⟨by decide, by decide +kernel, by decide +kernel, by decide +kernel, by decide +kernel⟩
theorem names_old : ∀ t ∈ oldL, PlainName t.name := by
 intro t ht
 simp only [oldL, List.mem_cons, List.not_mem_nil, or_false] at ht
 rcases ht with rfl | rfl
 ·exact plain_ore
 ·exact plain_wood
theorem names_next : ∀ t ∈ nextL, PlainName t.name := by
 intro t ht
 simp only [nextL, List.mem_cons, List.not_mem_nil, or_false] at ht
 rcases ht with rfl | rfl
 ·exact plain_wood
 ·exact plain_iron
theorem new_e1 : newE oldL nextL renL = 0 := by decide +kernel
theorem new_l1 : newL oldL nextL renL = [(1, 1, 2), (0, 1, 1)] := by decide +kernel
theorem new_e2 : newE oldL nextL [] = 0 := by decide +kernel
theorem new_l2 : newL oldL nextL [] = [(-1, 0, 0), (0, 1, 1)] := by decide +kernel
theorem miss_2 : missI (newL oldL nextL []) [5, 0] = some 0 := by rw [new_l2]; decide +kernel
theorem conv_arg : argB [(1, 1, 2), (0, 1, 1)] 2 [5, 3] = true := by decide +kernel
theorem conv_e : convE [(1, 1, 2), (0, 1, 1)] 2 [5, 3] = 0 := by decide +kernel
theorem conv_now : nowL [(1, 1, 2), (0, 1, 1)] 2 [5, 3] = [3, 2] := by decide +kernel
theorem conv_left : leftL [(1, 1, 2), (0, 1, 1)] 2 [5, 3] = [1, 0] := by decide +kernel
theorem units_50 : unitsB [5, 0] = true := by decide +kernel
theorem keep_ok : ∀ k, k < 2 → keepErr nextL (itAt oldL k) = 0 := by
 intro k hk
 rcases (show k = 0 ∨ k = 1 by omega) with rfl | rfl <;> decide +kernel
structure LvAt (W : World) (n : Nat) : Prop where
 i0 : Bk W n 89 (icells oldL)
 c0 : Bk W (n + 1) 28 [.slice (some ⟨n, 0, none⟩) 2 2, nilS, nilS, nilS]
 i1 : Bk W (n + 2) 89 (icells nextL)
 c1 : Bk W (n + 3) 28 [.slice (some ⟨n + 2, 0, none⟩) 2 2, nilS, nilS, nilS]
 tab : Tab W
theorem LvAt.grow {W W' : World} {n : Nat} (h : LvAt W n) (hb : Below W.heap.size W W') : LvAt W' n := ⟨h.i0.below hb h.i0.lt, h.c0.below hb h.c0.lt, h.i1.below hb h.i1.lt, h.c1.below hb h.c1.lt, h.tab.below hb h.tab.1⟩
theorem LvAt.old {W : World} {n : Nat} (h : LvAt W n) : CatV W (some ⟨n, 0, none⟩) 2 oldL := ⟨⟨h.i0.row, rfl, by omega, names_old⟩, good_old, h.tab⟩
theorem LvAt.next {W : World} {n : Nat} (h : LvAt W n) : CatV W (some ⟨n + 2, 0, none⟩) 2 nextL := ⟨⟨h.i1.row, rfl, by omega, names_next⟩, good_next, h.tab⟩
abbrev lvW (w : World) : World := ((((w.alloc (.cells #[.string sOre, .bool false, .bool false, .bool false, .int .i64 0, .int .i64 0, .int .i64 0, .string sWood, .bool false, .bool false, .bool false, .int .i64 0, .int .i64 0, .int .i64 0] 89)).alloc (.cells #[.slice (some ⟨w.heap.size, 0, none⟩) 2 2, nilS, nilS, nilS] 28)).alloc (.cells #[.string sWood, .bool false, .bool false, .bool false, .int .i64 0, .int .i64 0, .int .i64 0, .string sIron, .bool false, .bool false, .bool false, .int .i64 0, .int .i64 0, .int .i64 0] 89)).alloc (.cells #[.slice (some ⟨w.heap.size + 1 + 1, 0, none⟩) 2 2, nilS, nilS, nilS] 28)).alloc (.cells #[.string sOre, .string sIron, .int .i64 1, .int .i64 2] 94)
theorem lives_start (w : World) (hT : Tab w) : LvAt (lvW w) w.heap.size ∧ Below w.heap.size w (lvW w) ∧ Bk (lvW w) (w.heap.size + 4) 94 (rcells renL) := by
 have hB : Below w.heap.size w (lvW w) := (((((Below.refl _ w).alloc (Nat.le_refl _) _).alloc (by simp) _).alloc (by simp; omega) _).alloc (by simp; omega) _).alloc (by simp; omega) _
 refine ⟨⟨?_, ?_, ?_, ?_, hT.below hB hT.1⟩, hB, ?_⟩
 ·exact ((((Bk.new w 89 (icells oldL)).alloc _).alloc _).alloc _).alloc _
 ·have := Bk.new (w.alloc (.cells #[.string sOre, .bool false, .bool false, .bool false, .int .i64 0, .int .i64 0, .int .i64 0, .string sWood, .bool false, .bool false, .bool false, .int .i64 0, .int .i64 0, .int .i64 0] 89)) 28 [.slice (some ⟨w.heap.size, 0, none⟩) 2 2, nilS, nilS, nilS]
  rw [World.size_alloc] at this
  exact ((this.alloc _).alloc _).alloc _
 ·have := Bk.new ((w.alloc (.cells #[.string sOre, .bool false, .bool false, .bool false, .int .i64 0, .int .i64 0, .int .i64 0, .string sWood, .bool false, .bool false, .bool false, .int .i64 0, .int .i64 0, .int .i64 0] 89)).alloc (.cells #[.slice (some ⟨w.heap.size, 0, none⟩) 2 2, nilS, nilS, nilS] 28)) 89 (icells nextL)
  rw [World.size_alloc, World.size_alloc] at this
  exact (this.alloc _).alloc _
 ·have := Bk.new (((w.alloc (.cells #[.string sOre, .bool false, .bool false, .bool false, .int .i64 0, .int .i64 0, .int .i64 0, .string sWood, .bool false, .bool false, .bool false, .int .i64 0, .int .i64 0, .int .i64 0] 89)).alloc (.cells #[.slice (some ⟨w.heap.size, 0, none⟩) 2 2, nilS, nilS, nilS] 28)).alloc (.cells #[.string sWood, .bool false, .bool false, .bool false, .int .i64 0, .int .i64 0, .int .i64 0, .string sIron, .bool false, .bool false, .bool false, .int .i64 0, .int .i64 0, .int .i64 0] 89)) 28 [.slice (some ⟨w.heap.size + 2, 0, none⟩) 2 2, nilS, nilS, nilS]
  rw [World.size_alloc, World.size_alloc, World.size_alloc] at this
  exact this.alloc _
 ·have := Bk.new ((((w.alloc (.cells #[.string sOre, .bool false, .bool false, .bool false, .int .i64 0, .int .i64 0, .int .i64 0, .string sWood, .bool false, .bool false, .bool false, .int .i64 0, .int .i64 0, .int .i64 0] 89)).alloc (.cells #[.slice (some ⟨w.heap.size, 0, none⟩) 2 2, nilS, nilS, nilS] 28)).alloc (.cells #[.string sWood, .bool false, .bool false, .bool false, .int .i64 0, .int .i64 0, .int .i64 0, .string sIron, .bool false, .bool false, .bool false, .int .i64 0, .int .i64 0, .int .i64 0] 89)).alloc (.cells #[.slice (some ⟨w.heap.size + 2, 0, none⟩) 2 2, nilS, nilS, nilS] 28)) 94 (rcells renL)
  rw [World.size_alloc, World.size_alloc, World.size_alloc, World.size_alloc] at this
  exact this
theorem lives_new {W : World} {n : Nat} (h : LvAt W n) (hr : Bk W (n + 4) 94 (rcells renL)) :
 Calls Tryz.prog 12 #[catV (some ⟨n, 0, none⟩) 2 2, catV (some ⟨n + 2, 0, none⟩) 2 2, .slice (some ⟨n + 4, 0, none⟩) 1 1] W fun e w' => ∃ A c, e = .returned (.tuple #[.slice A 2 c, .int .i64 0]) ∧ TosV w' A 2 [(1, 1, 2), (0, 1, 1)] ∧ Below W.heap.size W w' := by
 refine (New_valid (w := W) (io := ⟨some ⟨n, 0, none⟩, 2, 2⟩) (ro := ⟨none, 0, 0⟩) (to_ := ⟨none, 0, 0⟩) (xo := ⟨none, 0, 0⟩) (ix := ⟨some ⟨n + 2, 0, none⟩, 2, 2⟩) (rx := ⟨none, 0, 0⟩) (tx := ⟨none, 0, 0⟩) (xx := ⟨none, 0, 0⟩) (R := ⟨some ⟨n + 4, 0, none⟩, 1, 1⟩) (rs := renL) h.old.items h.next.items ⟨hr.row, rfl, by dsimp only; omega, fun k hk => ?_⟩ (fun V hV => both_items 2 2 (h.grow hV).old (h.grow hV).next)).mono ?_
 ·obtain rfl : k = 0 := by dsimp only at hk; omega
  exact ⟨by unfold maxLen; decide, by unfold maxLen; decide⟩
 ·rintro e w' ⟨A, c, rfl, hrow, hb⟩
  rw [new_l1] at hrow ⊢
  rw [new_e1]
  exact ⟨A, c, rfl, ⟨hrow, rfl⟩, hb⟩
theorem lives_conv {W : World} {A : Option Addr} {g : Nat} (c : Nat) (h : TosV W A 2 [(1, 1, 2), (0, 1, 1)]) (hg : Bk W g 3 (ints [5, 3])) :
 Calls Tryz.prog 27 #[.slice A 2 c, .int .i64 2, .slice (some ⟨g, 0, none⟩) 2 2] W fun e w' => ∃ A1 c1 A2 c2, e = .returned (.tuple #[.slice A1 2 c1, .slice A2 2 c2, .int .i64 0]) ∧ Row w' w'.heap.size A1 (ints [3, 2]) ∧ Row w' w'.heap.size A2 (ints [1, 0]) ∧ Below W.heap.size W w' := by
 have hi : IntsV W (some ⟨g, 0, none⟩) 2 [5, 3] := ⟨hg.row, rfl, fun z hz => by
  simp only [List.mem_cons, List.not_mem_nil, or_false] at hz
  rcases hz with rfl | rfl <;> omega⟩
 refine (conv_good (n := 2) c 2 h hi (by omega) (by omega) (fun e => by cases e) conv_arg).mono ?_
 rintro e w' ⟨A1, c1, A2, c2, rfl, h1, h2, hb⟩
 have e1 : convE [(1, 1, 2), (0, 1, 1)] ((2 : Nat) : Int) [5, 3] = 0 := conv_e
 have e2 : nowL [(1, 1, 2), (0, 1, 1)] ((2 : Nat) : Int) [5, 3] = [3, 2] := conv_now
 have e3 : leftL [(1, 1, 2), (0, 1, 1)] ((2 : Nat) : Int) [5, 3] = [1, 0] := conv_left
 rw [e2] at h1
 rw [e3] at h2
 rw [e1, e2, e3]
 exact ⟨A1, c1, A2, c2, rfl, h1, h2, hb⟩
theorem merge_len : (mergeL oldL nextL 2).length = 3 := by decide +kernel
theorem merge_2 : (itAt (mergeL oldL nextL 2) 2).name = sIron := by decide +kernel
theorem lives_merge {W : World} {n : Nat} (h : LvAt W n) :
 Calls Tryz.prog 18 #[catV (some ⟨n, 0, none⟩) 2 2, catV (some ⟨n + 2, 0, none⟩) 2 2] W fun e w' => ∃ b off c, e = .returned (.tuple #[.agg #[.slice (some ⟨b, off, none⟩) 3 c, nilS, nilS, nilS], .int .i64 0]) ∧ w'.cell? ⟨b, off + 14, none⟩ = some (.string sIron) ∧ b < w'.heap.size ∧ Below W.heap.size W w' := by
 refine (Merge_ok 2 2 h.old h.next keep_ok (by omega) (by omega)).mono ?_
 rintro e w' ⟨A, c, rfl, hrow, hb⟩
 obtain ⟨b, off, rfl, hbb, hc⟩ := hrow.at_ 14 (by rw [icells_length, merge_len]; omega)
 refine ⟨b, off, c, by rw [merge_len], ?_, hbb, hb⟩
 have hg := icells_get (mergeL oldL nextL 2) 2 0 (by rw [merge_len]; omega) (by omega)
 have := hc 14 (.string (itAt (mergeL oldL nextL 2) 2).name) hg
 rw [merge_2] at this
 exact this
set_option maxRecDepth 100000 in
set_option maxHeartbeats 2000000 in
theorem lives_any (w : World) (hT : Tab w) : Calls Tryz.prog 17 #[] w fun e w' => e = .returned (.bool true) ∧ Below w.heap.size w w' := by
 have HL := Lib.hid (lives_start w hT)
 clear hT
 go_enter Tryz.func17, Tryz.ntmps17
 go_wp2_with fail
 change Calls Tryz.prog 12 #[catV (some ⟨w.heap.size, 0, none⟩) 2 2, catV (some ⟨w.heap.size + 2, 0, none⟩) 2 2, .slice (some ⟨w.heap.size + 4, 0, none⟩) 1 1] (lvW w) _
 obtain ⟨L0, B0, R0⟩ := HL.out
 refine (lives_new L0 R0).mono ?_
 rintro e w1 ⟨A1, c1, rfl, t1, hb1⟩
 have L1 := L0.grow hb1
 have B1 := B0.trans (hb1.mono B0.size)
 have HL1 := Lib.hid L1
 have HT1 := Lib.hid t1
 have HB1 := Lib.hid B1
 clear L0 R0 B0 HL L1 B1 t1 hb1
 have KV := Lib.hid (lives_conv c1 (HT1.out.below ((Below.refl _ _).alloc (Nat.le_refl _) (.cells #[.int .i64 5, .int .i64 3] 3))) (Bk.new w1 3 (ints [5, 3])))
 generalize hn : w.heap.size = n at *
 have Hn := Lib.hid hn
 clear hn
 go_wp2_with fail
 refine KV.out.mono ?_
 rintro e w2 ⟨A3, c3, A4, c4, rfl, r3, r4, hb2⟩
 have bal : Below w1.heap.size w1 (w1.alloc (.cells #[.int .i64 5, .int .i64 3] 3)) := (Below.refl _ _).alloc (Nat.le_refl _) _
 have hb12 : Below w1.heap.size w1 w2 := bal.trans (hb2.mono (by simp))
 have HL2 := Lib.hid (HL1.out.grow hb12)
 have HT2 := Lib.hid (HT1.out.below hb12)
 have HB2 := Lib.hid (HB1.out.trans (hb12.mono (by have := HB1.out.size; rw [Hn.out] at this; exact this)))
 have HR3 := Lib.hid r3
 have HR4 := Lib.hid r4
 clear r3 r4 hb2 bal hb12 KV HL1 HT1 HB1
 have a0 : w2.cell? ⟨n + 1, 0, none⟩ = some (.slice (some ⟨n, 0, none⟩) 2 2) := HL2.out.c0.cell 0
 have a1 : w2.cell? ⟨n + 1, 1, none⟩ = some nilS := HL2.out.c0.cell 1
 have a2 : w2.cell? ⟨n + 1, 2, none⟩ = some nilS := HL2.out.c0.cell 2
 have a3 : w2.cell? ⟨n + 1, 3, none⟩ = some nilS := HL2.out.c0.cell 3
 have b0 : w2.cell? ⟨n + 1 + 1 + 1, 0, none⟩ = some (.slice (some ⟨n + 2, 0, none⟩) 2 2) := HL2.out.c1.cell 0
 have b1 : w2.cell? ⟨n + 1 + 1 + 1, 1, none⟩ = some nilS := HL2.out.c1.cell 1
 have b2 : w2.cell? ⟨n + 1 + 1 + 1, 2, none⟩ = some nilS := HL2.out.c1.cell 2
 have b3 : w2.cell? ⟨n + 1 + 1 + 1, 3, none⟩ = some nilS := HL2.out.c1.cell 3
 go_wp2_with fail
 refine (lives_merge HL2.out).mono ?_
 rintro e w3 ⟨bm, om, cm, rfl, hm, hbm, hb3⟩
 have HL3 := Lib.hid (HL2.out.grow hb3)
 have HT3 := Lib.hid (HT2.out.below hb3)
 have HB3 := Lib.hid (HB2.out.trans (hb3.mono (by have := HB2.out.size; rw [Hn.out] at this; exact this)))
 have HR33 := Lib.hid ((HR3.out.below hb3).more hb3.size)
 have HR34 := Lib.hid ((HR4.out.below hb3).more hb3.size)
 clear hb3 HL2 HT2 HB2 HR3 HR4 a0 a1 a2 a3 b0 b1 b2 b3
 have a0 : w3.cell? ⟨n + 1, 0, none⟩ = some (.slice (some ⟨n, 0, none⟩) 2 2) := HL3.out.c0.cell 0
 have a1 : w3.cell? ⟨n + 1, 1, none⟩ = some nilS := HL3.out.c0.cell 1
 have a2 : w3.cell? ⟨n + 1, 2, none⟩ = some nilS := HL3.out.c0.cell 2
 have a3 : w3.cell? ⟨n + 1, 3, none⟩ = some nilS := HL3.out.c0.cell 3
 have al := HL3.out.c0.lt
 have bal : Below w3.heap.size w3 (w3.alloc (.cells #[.slice (some ⟨bm, om, none⟩) 3 cm, nilS, nilS, nilS] 28)) := (Below.refl _ _).alloc (Nat.le_refl _) _
 have KS := Lib.hid (start_items 2 (HL3.out.grow bal).old (by omega))
 have K9 := Lib.hid (Bk.new w3 28 [.slice (some ⟨bm, om, none⟩) 3 cm, nilS, nilS, nilS])
 go_wp2_with fail
 refine KS.out.mono ?_
 rintro e w4 ⟨h, gc, ah, ch, rfl, hH, hb4⟩
 have hb34 : Below w3.heap.size w3 w4 := bal.trans (hb4.mono (by simp))
 have HL4 := Lib.hid (HL3.out.grow hb34)
 have HT4 := Lib.hid (HT3.out.below hb34)
 have HB4 := Lib.hid (HB3.out.trans (hb34.mono (by have := HB3.out.size; rw [Hn.out] at this; exact this)))
 have HR43 := Lib.hid ((HR33.out.below hb34).more hb34.size)
 have HR44 := Lib.hid ((HR34.out.below hb34).more hb34.size)
 have HH4 := Lib.hid hH
 have hm4 : w4.cell? ⟨bm, om + 14, none⟩ = some (.string sIron) := (hb34.cell (p := ⟨bm, om + 14, none⟩) hbm).trans hm
 have k9 : w4.cell? ⟨w3.heap.size, 0, none⟩ = some (.slice (some ⟨bm, om, none⟩) 3 cm) := (K9.out.below hb4 (by simp)).cell 0
 clear hb34 hb4 bal KS K9 HL3 HT3 HB3 HR33 HR34 a0 a1 a2 a3 hm hH al hbm
 have b0 : w4.cell? ⟨n + 1 + 1 + 1, 0, none⟩ = some (.slice (some ⟨n + 2, 0, none⟩) 2 2) := HL4.out.c1.cell 0
 have b1 : w4.cell? ⟨n + 1 + 1 + 1, 1, none⟩ = some nilS := HL4.out.c1.cell 1
 have b2 : w4.cell? ⟨n + 1 + 1 + 1, 2, none⟩ = some nilS := HL4.out.c1.cell 2
 have b3 : w4.cell? ⟨n + 1 + 1 + 1, 3, none⟩ = some nilS := HL4.out.c1.cell 3
 have es : (!sIron.toList == [105, 114, 111, 110]) = false := by decide +kernel
 have es2 : (sIron.toList == [105, 114, 111, 110]) = true := by decide +kernel
 go_wp2_with fail
 have bal : Below w4.heap.size w4 (w4.alloc (.cells #[.int .i64 5, .int .i64 0] 3)) := (Below.refl _ _).alloc (Nat.le_refl _) _
 have hi5 : IntsV (w4.alloc (.cells #[.int .i64 5, .int .i64 0] 3)) (some ⟨w4.heap.size, 0, none⟩) 2 [5, 0] := ⟨(Bk.new w4 3 (ints [5, 0])).row, rfl, fun z hz => by
  simp only [List.mem_cons, List.not_mem_nil, or_false] at hz
  rcases hz with rfl | rfl <;> omega⟩
 have hH5 := HH4.out.grow bal
 refine (add_busy 2 hH5 ⟨hH5.items, good_old, (HL4.out.grow bal).tab⟩ (HL4.out.grow bal).next hi5 units_50 new_e2 miss_2).mono ?_
 rintro e w5 ⟨rfl, hb5⟩
 have hb45 : Below w4.heap.size w4 w5 := bal.trans (hb5.mono (by simp))
 have HT5 := HT4.out.below hb45
 have HB5 := Lib.hid (HB4.out.trans (hb45.mono (by have := HB4.out.size; rw [Hn.out] at this; exact this)))
 have HR53 := Lib.hid ((HR43.out.below hb45).more hb45.size)
 have HR54 := Lib.hid ((HR44.out.below hb45).more hb45.size)
 obtain ⟨b, off, rfl, hbb, hc⟩ := HT5.row.at_ 0 (by decide)
 have t0 : w5.cell? ⟨b, off, none⟩ = some (.int .i64 1) := hc 0 _ rfl
 have t1 : w5.cell? ⟨b, off + 1, none⟩ = some (.int .i64 1) := hc 1 _ rfl
 have t2 : w5.cell? ⟨b, off + 2, none⟩ = some (.int .i64 2) := hc 2 _ rfl
 have t3 : w5.cell? ⟨b, off + 3, none⟩ = some (.int .i64 0) := hc 3 _ rfl
 have t4 : w5.cell? ⟨b, off + 3 + 1, none⟩ = some (.int .i64 1) := hc 4 _ rfl
 have t5 : w5.cell? ⟨b, off + 3 + 2, none⟩ = some (.int .i64 1) := hc 5 _ rfl
 clear hb45 hb5 bal HT5 hi5 hH5 hc b0 b1 b2 b3 k9 hm4 HL4 HT4 HB4 HR43 HR44 HH4 es es2
 have q1 : ∀ W : World, (binOp .eql 64 (.agg #[.int .i64 1, .int .i64 1, .int .i64 2]) (.agg #[.int .i64 1, .int .i64 1, .int .i64 2])).run Tryz.prog W = .ok (.bool true) W := fun W => by kernel_rfl
 have q2 : ∀ W : World, (binOp .eql 64 (.agg #[.int .i64 0, .int .i64 1, .int .i64 1]) (.agg #[.int .i64 0, .int .i64 1, .int .i64 1])).run Tryz.prog W = .ok (.bool true) W := fun W => by kernel_rfl
 go_wp2_with fail
 have K1 := Bk.new w5 3 (ints [3, 2])
 have ba1 : Below w5.heap.size w5 (w5.alloc (.cells #[.int .i64 3, .int .i64 2] 3)) := (Below.refl _ _).alloc (Nat.le_refl _) _
 refine (same_any (n := 2) (m := 2) (xs := [3, 2]) (ys := [3, 2]) ((HR53.out.below ba1).more ba1.size) K1.row rfl rfl (by decide)).mono ?_
 rintro e w6 ⟨rfl, hb6⟩
 rw [show sameB [3, 2] [3, 2] = true from by decide]
 have hb56 : Below w5.heap.size w5 w6 := ba1.trans (hb6.mono (by simp))
 have HB6 := Lib.hid (HB5.out.trans (hb56.mono (by have := HB5.out.size; rw [Hn.out] at this; exact this)))
 have HR64 := Lib.hid ((HR54.out.below hb56).more hb56.size)
 clear hb6 hb56 ba1 K1 HR53 HR54 HB5 t0 t1 t2 t3 t4 t5
 go_wp2_with fail
 have K2 := Bk.new w6 3 (ints [1, 0])
 have ba2 : Below w6.heap.size w6 (w6.alloc (.cells #[.int .i64 1, .int .i64 0] 3)) := (Below.refl _ _).alloc (Nat.le_refl _) _
 refine (same_any (n := 2) (m := 2) (xs := [1, 0]) (ys := [1, 0]) ((HR64.out.below ba2).more ba2.size) K2.row rfl rfl (by decide)).mono ?_
 rintro e w7 ⟨rfl, hb7⟩
 rw [show sameB [1, 0] [1, 0] = true from by decide]
 have hb67 : Below w6.heap.size w6 w7 := ba2.trans (hb7.mono (by simp))
 have HB7 := HB6.out.trans (hb67.mono (by have := HB6.out.size; rw [Hn.out] at this; exact this))
 clear hb7 hb67 ba2 K2 HR64 HB6
 go_wp2
 go_ret
 exact ⟨rfl, by rw [Hn.out]; exact HB7⟩
end Go.Proofs.YthjfdfdgbpbanaaGreatDoor
