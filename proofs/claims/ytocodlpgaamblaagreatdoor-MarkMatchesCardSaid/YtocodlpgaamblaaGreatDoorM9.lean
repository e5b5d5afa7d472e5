/- Normal: either, kids. A mark in the making: its box and its row of kids; own. The generator of marks: conditions, names; what it gives. -/
import Derived.Test.YtocodlpgaamblaaGreatDoorM7
import Derived.Test.YtocodlpgaamblaaGreatDoorM8
import Derived.Deep.AppendLies
import Derived.Deep.RegionLaw
set_option linter.unusedVariables false
set_option linter.unusedSimpArgs false
open Go.RowKit
namespace Go.Proofs.YtocodlpgaamblaaGreatDoor
theorem either_any (b : Bool) (w : World) : Calls Tryz.prog 63 #[.bool b] w fun e w' => e = .returned (.string (joinOp b)) ∧ w' = w := by
 cases b
 ·go_enter Tryz.func63, Tryz.ntmps63
  go_wp2
  go_ret
  exact ⟨rfl, rfl⟩
 ·go_enter Tryz.func63, Tryz.ntmps63
  go_wp2
  go_ret
  exact ⟨rfl, rfl⟩
theorem enters63 : ∀ (args : Array Value) (W : World), (callFunc 63 args).run Tryz.prog W = .ok (.enter 63 args) W := enter_of Tryz.func63 (by kernel_rfl) rfl
theorem enters62 : ∀ (args : Array Value) (W : World), (callFunc 62 args).run Tryz.prog W = .ok (.enter 62 args) W := enter_of Tryz.func62 (by kernel_rfl) rfl
theorem enters64 : ∀ (args : Array Value) (W : World), (callFunc 64 args).run Tryz.prog W = .ok (.enter 64 args) W := enter_of Tryz.func64 (by kernel_rfl) rfl
/-- Normal's functions lie in their boxes. -/
structure NCtx (W : World) (bE bK bN : Nat) : Prop where
 e : Bk W bE 129 [.func (.func 63) #[] #[]]
 k : Bk W bK 128 [.func (.func 62) #[] #[.pointer (some ⟨bN, 0, none⟩)]]
 n : Bk W bN 127 [.func (.func 64) #[] #[.pointer (some ⟨bE, 0, none⟩), .pointer (some ⟨bK, 0, none⟩), .pointer (some ⟨bN, 0, none⟩)]]
theorem NCtx.below {W W' : World} {bE bK bN : Nat} (h : NCtx W bE bK bN) (hb : Below W.heap.size W W') : NCtx W' bE bK bN := ⟨h.e.below hb h.e.lt, h.k.below hb h.k.lt, h.n.below hb h.n.lt⟩
/-- A new mark. -/
def NewM (W : World) (k : Mk) (e : Ending) (w' : World) : Prop := ∃ M : MkM, e = .returned (.agg #[.string M.op, .int .i64 M.a, .int .i64 M.b, .slice M.s.A M.s.n M.s.c]) ∧ M.core = k ∧ M.Ok w' 49 (fun b => W.heap.size ≤ b) ∧ Below W.heap.size W w'
/-- New marks. -/
def NewL (W : World) (l : List Mk) (e : Ending) (w' : World) : Prop := ∃ (ks : List MkM) (s : Sl), e = .returned (.slice s.A s.n s.c) ∧ MkM.coreL ks = l ∧ PRow w' 49 (fun b => W.heap.size ≤ b) s.A (mcells ks) ∧ s.n = ks.length ∧ s.n ≤ 100000 ∧ (∀ k ∈ ks, k.Ok w' 49 (fun b => W.heap.size ≤ b)) ∧ Below W.heap.size W w'
def NS (bE bK bN : Nat) (t : MkM) : Prop := ∀ (W : World) (P : Nat → Prop) (no : Bool), NCtx W bE bK bN → t.Ok W 49 P → Calls Tryz.prog 64 #[.agg #[.string t.op, .int .i64 t.a, .int .i64 t.b, .slice t.s.A t.s.n t.s.c], .bool no, .pointer (some ⟨bE, 0, none⟩), .pointer (some ⟨bK, 0, none⟩), .pointer (some ⟨bN, 0, none⟩)] W (NewM W (t.core.norm no))
def KidsV (w : World) (B : Nat) (v : Value) (ks : List MkM) : Prop := ∀ k ∈ ks, k.Ok w 49 (fun b => B < b ∧ some b ≠ v.ownBlock)
theorem KidsV.below {w w' : World} {B : Nat} {v : Value} {ks : List MkM} (h : KidsV w B v ks) (hb : Below w.heap.size w w') : KidsV w' B v ks := fun k hk => (h k hk).bel hb
theorem KidsV.next {w w' : World} {B : Nat} {v v' : Value} {ks : List MkM} {M : MkM} (h : KidsV w B v ks) (hM : M.Ok w 49 (fun b => B < b ∧ some b ≠ v.ownBlock)) (hg : w.grownBy w' v.ownBlock) (hat : v'.ownBlock = v.ownBlock ∨ v'.ownBlock = some w.heap.size) : KidsV w' B v' (ks ++ [M]) := fun k hk => by
 have hk' : k.Ok w 49 (fun b => B < b ∧ some b ≠ v.ownBlock) := by
  rcases List.mem_append.1 hk with hk | hk
  ·exact h k hk
  ·obtain rfl : k = M := by simpa using hk
   exact hM
 refine (hk'.lt.grown hg fun b hb => hb.1.2).mono fun b _ hb => ⟨hb.1.1, ?_⟩
 rcases hat with e | e
 ·rw [e]; exact hb.1.2
 ·rw [e]; have := hb.2; simp; omega
set_option maxRecDepth 100000 in
set_option maxHeartbeats 2000000 in
theorem nkids_any {bE bK bN : Nat} (no : Bool) {M : MkM} {W : World} {P : Nat → Prop} (ih : ∀ t ∈ M.ks, NS bE bK bN t) (hC : NCtx W bE bK bN) (h : M.Ok W 49 P) :
 Calls Tryz.prog 62 #[.agg #[.string M.op, .int .i64 M.a, .int .i64 M.b, .slice M.s.A M.s.n M.s.c], .bool no, .pointer (some ⟨bN, 0, none⟩)] W (NewL W (M.core.kids.map (·.norm no))) := by
 have hq := enters64
 obtain ⟨i0, hi, hz0, hz1, hz2⟩ := info_parts info49
 have y : Below W.heap.size W (W.alloc (.cells #[.string M.op, .int .i64 M.a, .int .i64 M.b, .slice M.s.A M.s.n M.s.c] 49)) := (Below.refl _ _).alloc (Nat.le_refl _) _
 have Hn := Lib.hid h.len
 have H := Lib.hid h
 have hs := h.small
 have hK : M.core.kids = M.ks.map MkM.core := by rw [← coreL_map]; cases M; rfl
 rw [hK]
 have HI := Lib.hid ih
 have HC := Lib.hid hC
 have hnl : bN < W.heap.size := hC.n.lt
 obtain ⟨mop, ma, mbb, l, s⟩ := M
 dsimp only [MkM.ks, MkM.s, MkM.op, MkM.a, MkM.b] at *
 obtain ⟨A, n, c⟩ := s
 dsimp only at *
 clear h ih hK hC
 go_enter Tryz.func62, Tryz.ntmps62
 go_wp2_with fail
 go_loopw [6, 12] (fun v i wr => ∃ (k : Nat) (ks : List MkM), k ≤ n ∧ i = .int .i64 k ∧ wr.ownsRow W.heap.size 49 4 v k (mcells ks) ∧ ks.length = k ∧ KidsV wr W.heap.size v ks ∧ MkM.coreL ks = (l.take k).map (fun t => t.core.norm no) ∧ Below W.heap.size W wr) (fun _ i _ => n - (intOf i).toNat)
 case atStart => exact ⟨0, [], Nat.zero_le _, rfl, World.ownsRow_nil _ _ _ _, rfl, fun _ h => absurd h List.not_mem_nil, rfl, y⟩
 case round =>
  obtain ⟨k, ks, hk, rfl, hown, hlen, hkv, hcore, hb⟩ := hrel
  have HO := Lib.hid hown
  have HK := Lib.hid hkv
  have HB := Lib.hid hb
  have hsz := hb.size
  by_cases hlt : k < n
  ·have hkl : k < l.length := by have := Hn.out; omega
   obtain ⟨b, off, rfl, hbb, c0, c1, c2, c3⟩ := (H.out.bel hb).at_ k hkl
   dsimp only [MkM.ks, MkM.s] at c0 c1 c2 c3
   have HS : Hid ((l.take (k + 1)).map (fun t => t.core.norm no) = (l.take k).map (fun t => t.core.norm no) ++ [l[k].core.norm no]) := by
    show _ = _
    rw [List.take_succ_eq_append_getElem hkl, List.map_append]; rfl
   have hmem := List.getElem_mem hkl
   have y2 : Below wr.heap.size wr (wr.alloc (.cells #[.string l[k].op, .int .i64 l[k].a, .int .i64 l[k].b, .slice l[k].s.A l[k].s.n l[k].s.c] 49)) := (Below.refl _ _).alloc (Nat.le_refl _) _
   have HCN := Lib.hid (HI.out l[k] hmem _ P no ((HC.out.below hb).below y2) (((H.out.bel hb).each l[k] hmem).bel y2))
   have HB2 := Lib.hid (hb.trans (y2.mono hsz))
   have n0 : wr.cell? ⟨bN, 0, none⟩ = some (.func (.func 64) #[] #[.pointer (some ⟨bE, 0, none⟩), .pointer (some ⟨bK, 0, none⟩), .pointer (some ⟨bN, 0, none⟩)]) := (HC.out.below hb).n.cell 0
   have HC0 := Lib.hid hcore
   have hnw : bN < wr.heap.size := by omega
   have HO2 := Lib.hid (hown.alloc (.cells #[.string l[k].op, .int .i64 l[k].a, .int .i64 l[k].b, .slice l[k].s.A l[k].s.n l[k].s.c] 49))
   have HK2 := Lib.hid (hkv.below y2)
   have hs2 : (wr.alloc (.cells #[.string l[k].op, .int .i64 l[k].a, .int .i64 l[k].b, .slice l[k].s.A l[k].s.n l[k].s.c] 49)).heap.size = wr.heap.size + 1 := by simp
   have HS2 := Lib.hid hs2
   clear hmem hown hkv hcore hb y2 hs2 HO HK HB
   generalize l[k] = t at *
   clear hkl
   go_wp2_with fail
   refine HCN.out.mono ?_
   rintro e w3 ⟨M2, rfl, hMc, hMo, hb3⟩
   have hs3 := hb3.size
   have hs2 := HS2.out
   have hown3 := HO2.out.kept (grown_of_below hb3 none) (by cases u6.ownBlock <;> simp)
   have y3 : Below w3.heap.size w3 (w3.alloc (.cells #[.string M2.op, .int .i64 M2.a, .int .i64 M2.b, .slice M2.s.A M2.s.n M2.s.c] 49)) := (Below.refl _ _).alloc (Nat.le_refl _) _
   have hub : ∀ g, u6.ownBlock = some g → W.heap.size ≤ g ∧ g < wr.heap.size + 1 := fun g hg => by
    have := HO2.out.lt g hg
    rw [hs2] at this; exact this
   have HB3 := Lib.hid (HB2.out.trans (hb3.mono HB2.out.size))
   have HO4 := Lib.hid (hown3.alloc (.cells #[.string M2.op, .int .i64 M2.a, .int .i64 M2.b, .slice M2.s.A M2.s.n M2.s.c] 49))
   have HK4 := Lib.hid (((HK2.out.below hb3)).below y3)
   have HM4 := Lib.hid ((hMo.mono (Q := fun b => W.heap.size < b ∧ some b ≠ u6.ownBlock) fun b _ hb => ⟨by omega, fun e => by have := (hub b e.symm).2; omega⟩).bel y3)
   have HCO : Hid (MkM.coreL (ks ++ [M2]) = (l.take (k + 1)).map (fun t => t.core.norm no)) := by
    show _ = _
    rw [HS.out, ← HC0.out, coreL_map, coreL_map, List.map_append, ← hMc]; rfl
   clear hown3 hMc hMo hb3 HO2 HK2 HB2 HS HC0 hub y3
   go_wp2_with (at_builtin; refine wpList_append_own_at _ rfl _ _ 47 rfl W.heap.size 49 i0 (.agg #[.string ⟨#[]⟩, .int .i64 0, .int .i64 0, .slice none 0 0]) 4 56 Tryz.underlying47 hi hz0 hz1 hz2 rfl (by decide) _ k (mcells ks) rfl HO4.out ⟨w3.heap.size, 0, none⟩ 1 1 [.string M2.op, .int .i64 M2.a, .int .i64 M2.b, .slice M2.s.A M2.s.n M2.s.c] rfl rfl (new4 _ _ _ _ _ _) (one4m M2) (by unfold maxLen; omega) (by omega) (by simp; omega) ?_)
   intro v' w4 hown' hgrow _ hat
   have HK5 := Lib.hid (HK4.out.next HM4.out hgrow (by rw [World.size_alloc]; exact hat))
   have HB5 := Lib.hid ((HB3.out.alloc HB3.out.size _).grown hgrow (by simp; omega) (row_base HO4.out))
   have HO5 := Lib.hid hown'
   clear hown' hgrow hat HK4 HB3 HO4 HM4
   go_wp2_with fail
   go_roundw
   case rel => exact ⟨k + 1, ks ++ [M2], by omega, by go_num, by rw [mcells_snoc]; exact HO5.out, by simp [hlen], HK5.out, HCO.out, HB5.out⟩
   case measure => simp [intOf]; omega
  ·have hkn : k = n := by omega
   have hT : l.take k = l := List.take_of_length_le (by have := Hn.out; omega)
   rw [hT] at hcore
   have hQ : ∃ A c, u6 = .slice A n c := by
    rw [hkn] at hown
    rcases hown.2 with ⟨hv, h0⟩ | ⟨g, cap, cur, hv, _⟩
    ·exact ⟨none, 0, by rw [hv, h0]⟩
    ·exact ⟨_, _, hv⟩
   obtain ⟨A', c', rfl⟩ := hQ
   rw [hkn] at hown
   have HQ : Hid (NewL W ((l.map MkM.core).map (·.norm no)) (.returned (.slice A' n c')) wr) :=
    Lib.hid ⟨ks, ⟨A', n, c'⟩, rfl, by rw [hcore, List.map_map]; rfl, (PRow.of_own hown).mono fun b _ hb => hb.2, by rw [hlen, hkn], hs, fun k hk => (hkv k hk).mono fun b _ hb => Nat.le_of_lt hb.1, hb⟩
   clear hkn hT hcore hown hkv hb HO HK HB HI
   go_wp2
   go_ret
   exact HQ.out
section
/-- A mark in its box at block bx, whose kids are a row of its own. -/
structure MkAt (B : Nat) (W : World) (t : TypeId) (bx : Nat) (op : ByteArray) (a b : Int) (ks : List MkM) (s : Sl) : Prop where
 bk : Bk W bx t [.string op, .int .i64 a, .int .i64 b, .slice s.A s.n s.c]
 own : W.ownsRow B t 4 (.slice s.A s.n s.c) ks.length (mcells ks)
 each : ∀ k ∈ ks, k.Ok W t (fun q => B ≤ q ∧ q ≠ bx ∧ some q ≠ (Value.slice s.A s.n s.c).ownBlock)
 ne : (Value.slice s.A s.n s.c).ownBlock ≠ some bx
 ge : B ≤ bx
section
variable {B : Nat} {W W' : World} {t : TypeId} {bx : Nat} {op : ByteArray} {a b : Int} {ks : List MkM} {s : Sl}
theorem MkAt.start (h : Bk W bx t [.string op, .int .i64 a, .int .i64 b, .slice none 0 0]) (hB : B ≤ bx) : MkAt B W t bx op a b [] ⟨none, 0, 0⟩ :=
 ⟨h, World.ownsRow_nil _ _ _ _, fun _ h => absurd h List.not_mem_nil, by simp [Value.ownBlock], hB⟩
theorem MkAt.below (h : MkAt B W t bx op a b ks s) (hb : Below W.heap.size W W') : MkAt B W' t bx op a b ks s :=
 ⟨h.bk.below hb h.bk.lt, h.own.kept (grown_of_below hb none) (by cases (Value.slice s.A s.n s.c).ownBlock <;> simp), fun k hk => (h.each k hk).bel hb, h.ne, h.ge⟩
theorem MkAt.len (h : MkAt B W t bx op a b ks s) : s.n = ks.length := by
 obtain ⟨A, c, e, _⟩ := row_of_owns h.own
 exact (Value.slice.inj e).2.1
theorem MkAt.base (h : MkAt B W t bx op a b ks s) : ∀ g, (Value.slice s.A s.n s.c).ownBlock = some g → B ≤ g := row_base h.own
theorem MkAt.far (h : MkAt B W t bx op a b ks s) (q : Nat) (hq : q < B) : some q ≠ (Value.slice s.A s.n s.c).ownBlock := fun e => by
 have := h.base q e.symm; omega
theorem MkAt.fresh (h : MkAt B W t bx op a b ks s) {M : MkM} {C : Nat} {U : World} (hM : M.Ok U t (fun q => C ≤ q)) (hC : bx < C ∧ B ≤ C ∧ ∀ g, (Value.slice s.A s.n s.c).ownBlock = some g → g < C) : M.Ok U t (fun q => B ≤ q ∧ q ≠ bx ∧ some q ≠ (Value.slice s.A s.n s.c).ownBlock) :=
 hM.mono fun q _ hq => ⟨by have := hC.2.1; omega, by have := hC.1; omega, fun e => by have := hC.2.2 q e.symm; omega⟩
theorem MkAt.app {A' : Option Addr} {n' c' : Nat} {M : MkM} (h : MkAt B W t bx op a b ks s) (hg : W.grownBy W' (Value.slice s.A s.n s.c).ownBlock) (hn : W'.ownsRow B t 4 (.slice A' n' c') n' (mcells ks ++ M.cells)) (hk : n' = ks.length + 1)
 (hM : M.Ok W t (fun q => B ≤ q ∧ q ≠ bx ∧ some q ≠ (Value.slice s.A s.n s.c).ownBlock)) (hat : (Value.slice A' n' c').ownBlock = (Value.slice s.A s.n s.c).ownBlock ∨ (Value.slice A' n' c').ownBlock = some W.heap.size) :
 Bk W' bx t [.string op, .int .i64 a, .int .i64 b, .slice s.A s.n s.c] ∧ MkAt B (W'.setCell ⟨bx, 3, none⟩ (.slice A' n' c')) t bx op a b (ks ++ [M]) ⟨A', n', c'⟩ := by
 have kb := h.bk.grown hg (fun e => h.ne e.symm)
 have hlt := h.bk.lt
 have hne : (Value.slice A' n' c').ownBlock ≠ some bx := by
  rcases hat with e | e
  ·rw [e]; exact h.ne
  ·rw [e]; intro e2; cases e2; omega
 have ho := hn.kept (grown_setCell W' bx 3 (.slice A' n' c')) (.inr hne)
 refine ⟨kb, ⟨kb.set 3 _, ?_, fun k hk' => ?_, hne, h.ge⟩⟩
 ·rw [mcells_snoc]
  have e : (ks ++ [M]).length = n' := by simp [hk]
  rw [e]; exact ho
 ·have hk2 : k.Ok W t (fun q => B ≤ q ∧ q ≠ bx ∧ some q ≠ (Value.slice s.A s.n s.c).ownBlock) := by
   rcases List.mem_append.1 hk' with hk' | hk'
   ·exact h.each k hk'
   ·rw [List.mem_singleton.1 hk']; exact hM
  have h1 := hk2.lt.grown hg fun q hq => hq.1.2.2
  have h2 := h1.grown (grown_setCell W' bx 3 (.slice A' n' c')) fun q hq => by simpa using hq.1.2.1
  refine h2.mono fun q _ hq => ⟨hq.1.1, hq.1.2.1, ?_⟩
  rcases hat with e | e
  ·show some q ≠ (Value.slice A' n' c').ownBlock
   rw [e]; exact hq.1.2.2
  ·show some q ≠ (Value.slice A' n' c').ownBlock
   rw [e]; intro e2; have := hq.2; cases e2; omega
theorem MkAt.ok (h : MkAt B W t bx op a b ks s) (hl : ks.length ≤ 100000) (hop : op.size ≤ 8192) (ha : In64 a) (hb : In64 b) : MkM.Ok W t (fun q => B ≤ q) ⟨op, a, b, ks, s⟩ := by
 have hs := h.len
 refine .mk _ _ _ _ _ ?_ hs (by rw [hs]; exact hl) hop ha hb fun k hk => (h.each k hk).mono fun q _ hq => hq.1
 have := h.own
 rw [← hs] at this
 exact (PRow.of_own this).mono fun q _ hq => hq.2
theorem MkAt.lt (h : MkAt B W t bx op a b ks s) : ∀ g, (Value.slice s.A s.n s.c).ownBlock = some g → g < W.heap.size := fun g hg => (h.own.lt g hg).2
end
/-- A new mark of type t. -/
def NewT (t : TypeId) (W : World) (k : Mk) (e : Ending) (w' : World) : Prop := ∃ M : MkM, e = .returned (.agg #[.string M.op, .int .i64 M.a, .int .i64 M.b, .slice M.s.A M.s.n M.s.c]) ∧ M.core = k ∧ M.Ok w' t (fun b => W.heap.size ≤ b) ∧ Below W.heap.size W w'
theorem lay_res {W w1 : World} {t : TypeId} {M : MkM} {g : Nat} (hW : W.heap.size ≤ g) (hB : Bk w1 g t [.string ⟨#[]⟩, .int .i64 0, .int .i64 0, .slice none 0 0]) (h : M.Ok w1 t (fun b => W.heap.size ≤ b ∧ b ≠ g)) (hY : Below W.heap.size W w1) :
 M.Ok ((((w1.setCell ⟨g, 0, none⟩ (.string M.op)).setCell ⟨g, 1, none⟩ (.int .i64 M.a)).setCell ⟨g, 2, none⟩ (.int .i64 M.b)).setCell ⟨g, 3, none⟩ (.slice M.s.A M.s.n M.s.c)) t (fun b => W.heap.size ≤ b) ∧ Below W.heap.size W ((((w1.setCell ⟨g, 0, none⟩ (.string M.op)).setCell ⟨g, 1, none⟩ (.int .i64 M.a)).setCell ⟨g, 2, none⟩ (.int .i64 M.b)).setCell ⟨g, 3, none⟩ (.slice M.s.A M.s.n M.s.c)) ∧ Bk ((((w1.setCell ⟨g, 0, none⟩ (.string M.op)).setCell ⟨g, 1, none⟩ (.int .i64 M.a)).setCell ⟨g, 2, none⟩ (.int .i64 M.b)).setCell ⟨g, 3, none⟩ (.slice M.s.A M.s.n M.s.c)) g t [.string M.op, .int .i64 M.a, .int .i64 M.b, .slice M.s.A M.s.n M.s.c] :=
 ⟨(h.grown (four_self w1 g (.string M.op) (.int .i64 M.a) (.int .i64 M.b) (.slice M.s.A M.s.n M.s.c)) fun b hb => by simp; exact hb.2).mono fun b _ hb => hb.1, hY.trans (four_below hW (.string M.op) (.int .i64 M.a) (.int .i64 M.b) (.slice M.s.A M.s.n M.s.c)), four_laid hB (.string M.op) (.int .i64 M.a) (.int .i64 M.b) (.slice M.s.A M.s.n M.s.c)⟩
theorem Bk.setOther {w : World} {g b k : Nat} {t : TypeId} {xs : List Value} {u : Value} (h : Bk w g t xs) (hne : g ≠ b) : Bk (w.setCell ⟨b, k, none⟩ u) g t xs := h.grown (grown_setCell w b k u) (by simpa using hne)
theorem info35 : (Tryz.prog.info? 35).map (fun i => (i.zero, i.size, i.bytes)) = some (some (.agg #[.string ⟨#[]⟩, .int .i64 0, .int .i64 0, .slice none 0 0]), 4, 56) := by kernel_rfl
/-- own: a mark of the package. -/
def OwnS (t : MkM) : Prop := ∀ (W : World) (P : Nat → Prop), t.Ok W 35 P → Calls Tryz.prog 19 #[.agg #[.string t.op, .int .i64 t.a, .int .i64 t.b, .slice t.s.A t.s.n t.s.c]] W (NewT 49 W t.core)
set_option maxRecDepth 100000 in
set_option maxHeartbeats 4000000 in
theorem own_any : ∀ M : MkM, OwnS M := by
 intro M
 induction M using MkM.ind with
 | h M ih =>
   intro W P h
   obtain ⟨i0, hi, hz0, hz1, hz2⟩ := info_parts info49
   have Hn := Lib.hid h.len
   have H := Lib.hid h
   have hs := h.small
   have HI := Lib.hid ih
   have hOP := Lib.hid h.hop
   have hA0 := Lib.hid h.ha
   have hB0 := Lib.hid h.hb
   have hcm : M.core = .node M.op M.a M.b (M.ks.map MkM.core) := by cases M; simp [MkM.core, coreL_map]
   have HCM := Lib.hid hcm
   obtain ⟨op, a, b, l, s0⟩ := M
   dsimp only [MkM.ks, MkM.s, MkM.op, MkM.a, MkM.b] at *
   obtain ⟨A, n, c⟩ := s0
   dsimp only at *
   have y : Below W.heap.size W (((W.alloc (.cells #[.string op, .int .i64 a, .int .i64 b, .slice A n c] 35)).alloc (.cells #[.string ⟨#[]⟩, .int .i64 0, .int .i64 0, .slice none 0 0] 49)).alloc (.cells #[.string op, .int .i64 a, .int .i64 b, .slice none 0 0] 49)) := (((Below.refl _ _).alloc (Nat.le_refl _) _).alloc (by simp) _).alloc (by simp; omega) _
   have Y := Lib.hid y
   have B0 := Lib.hid (((Bk.new W 35 [.string op, .int .i64 a, .int .i64 b, .slice A n c]).alloc (.cells #[.string ⟨#[]⟩, .int .i64 0, .int .i64 0, .slice none 0 0] 49)).alloc (.cells #[.string op, .int .i64 a, .int .i64 b, .slice none 0 0] 49))
   have B1 : Hid (Bk (((W.alloc (.cells #[.string op, .int .i64 a, .int .i64 b, .slice A n c] 35)).alloc (.cells #[.string ⟨#[]⟩, .int .i64 0, .int .i64 0, .slice none 0 0] 49)).alloc (.cells #[.string op, .int .i64 a, .int .i64 b, .slice none 0 0] 49)) (W.heap.size + 1) 49 [.string ⟨#[]⟩, .int .i64 0, .int .i64 0, .slice none 0 0]) := by
    have := (Bk.new (W.alloc (.cells #[.string op, .int .i64 a, .int .i64 b, .slice A n c] 35)) 49 [.string ⟨#[]⟩, .int .i64 0, .int .i64 0, .slice none 0 0]).alloc (.cells #[.string op, .int .i64 a, .int .i64 b, .slice none 0 0] 49)
    rw [World.size_alloc] at this
    exact Lib.hid this
   have B2 : Hid (MkAt (W.heap.size + 2) (((W.alloc (.cells #[.string op, .int .i64 a, .int .i64 b, .slice A n c] 35)).alloc (.cells #[.string ⟨#[]⟩, .int .i64 0, .int .i64 0, .slice none 0 0] 49)).alloc (.cells #[.string op, .int .i64 a, .int .i64 b, .slice none 0 0] 49)) 49 (W.heap.size + 2) op a b [] ⟨none, 0, 0⟩) := by
    have := Bk.new ((W.alloc (.cells #[.string op, .int .i64 a, .int .i64 b, .slice A n c] 35)).alloc (.cells #[.string ⟨#[]⟩, .int .i64 0, .int .i64 0, .slice none 0 0] 49)) 49 [.string op, .int .i64 a, .int .i64 b, .slice none 0 0]
    rw [World.size_alloc, World.size_alloc] at this
    exact Lib.hid (MkAt.start this (Nat.le_refl _))
   clear h ih hcm y
   go_enter Tryz.func19, Tryz.ntmps19
   go_wp2_with fail
   go_loopw [4] (fun i wr => ∃ (k : Nat) (ks : List MkM) (s : Sl), k ≤ n ∧ i = .int .i64 k ∧ MkAt (W.heap.size + 2) wr 49 (W.heap.size + 2) op a b ks s ∧ ks.length = k ∧ ks.map MkM.core = (l.take k).map MkM.core ∧ Below W.heap.size W wr ∧ Bk wr W.heap.size 35 [.string op, .int .i64 a, .int .i64 b, .slice A n c] ∧ Bk wr (W.heap.size + 1) 49 [.string ⟨#[]⟩, .int .i64 0, .int .i64 0, .slice none 0 0]) (fun i _ => n - (intOf i).toNat)
   case atStart => exact ⟨0, [], ⟨none, 0, 0⟩, Nat.zero_le _, rfl, B2.out, rfl, rfl, Y.out, B0.out, B1.out⟩
   case round =>
    obtain ⟨k, ks, s, hk, rfl, hma, hkl0, hcore, hbl, hpb, hrb⟩ := hrel
    have HMA := Lib.hid hma
    have HBL := Lib.hid hbl
    have HPB := Lib.hid hpb
    have HRB := Lib.hid hrb
    have HKL := Lib.hid hkl0
    have HCO := Lib.hid hcore
    have hsz := hbl.size
    have hpl := hpb.lt
    have hsn : s.n = k := by rw [hma.len, hkl0]
    have p3 : wr.cell? ⟨W.heap.size, 3, none⟩ = some (.slice A n c) := hpb.cell 3
    by_cases hlt : k < n
    ·have hkl : k < l.length := by have := Hn.out; omega
     obtain ⟨bb, off, rfl, hbb, c0, c1, c2, c3⟩ := H.out.at_ k hkl
     dsimp only [MkM.ks, MkM.s] at c0 c1 c2 c3
     have hmem := List.getElem_mem hkl
     have HS : Hid ((l.take (k + 1)).map MkM.core = (l.take k).map MkM.core ++ [l[k].core]) := by
      show _ = _
      rw [List.take_succ_eq_append_getElem hkl, List.map_append]; rfl
     have HKC : Hid (∀ U, Below W.heap.size W U → (U.cell? ⟨bb, off + k * 4, none⟩ = some (.string l[k].op) ∧ U.cell? ⟨bb, off + k * 4 + 1, none⟩ = some (.int .i64 l[k].a) ∧ U.cell? ⟨bb, off + k * 4 + 2, none⟩ = some (.int .i64 l[k].b) ∧ U.cell? ⟨bb, off + k * 4 + 3, none⟩ = some (.slice l[k].s.A l[k].s.n l[k].s.c)) ∧ bb < U.heap.size) := Lib.hid fun U hU =>
      ⟨⟨(hU.cell (p := ⟨bb, off + k * 4, none⟩) hbb).trans c0, (hU.cell (p := ⟨bb, off + k * 4 + 1, none⟩) hbb).trans c1, (hU.cell (p := ⟨bb, off + k * 4 + 2, none⟩) hbb).trans c2, (hU.cell (p := ⟨bb, off + k * 4 + 3, none⟩) hbb).trans c3⟩, Nat.lt_of_lt_of_le hbb hU.size⟩
     have HC := Lib.hid (HI.out l[k] hmem wr.drew P ((H.out.bel hbl.drew).each l[k] hmem))
     have HBS : Hid (W.heap.size + 2 ≤ wr.drew.heap.size) := Lib.hid (by have := hma.bk.lt; simp only [World.size_drew]; omega)
     have HSN := Lib.hid hsn
     have hsk : s.n ≤ 100000 := by omega
     clear hmem c0 c1 c2 c3 hma hkl0 hcore hbl hpb hrb hsn
     generalize l[k] = t at *
     clear hkl
     go_wp2
     refine wp_region_X (fun w' => (Bk w' W.heap.size 35 [.string op, .int .i64 a, .int .i64 b, .slice (some ⟨bb, off, none⟩) n c] ∧ Bk w' (W.heap.size + 2) 49 [.string op, .int .i64 a, .int .i64 b, .slice s.A s.n s.c]) ∧ ((w'.cell? ⟨bb, off + k * 4, none⟩ = some (.string t.op) ∧ w'.cell? ⟨bb, off + k * 4 + 1, none⟩ = some (.int .i64 t.a) ∧ w'.cell? ⟨bb, off + k * 4 + 2, none⟩ = some (.int .i64 t.b) ∧ w'.cell? ⟨bb, off + k * 4 + 3, none⟩ = some (.slice t.s.A t.s.n t.s.c)) ∧ bb < w'.heap.size)) 11 (n := 12) rfl (by kernel_rfl) (⟨⟨HPB.out.drew, HMA.out.bk.drew⟩, HKC.out _ HBL.out.drew⟩) (fun hS => ?_)
     refine X_take 0 (some 19) (v := ?_) (listed' := #[true, false, false, false, false, false, false, false, false, false, false, false]) rfl rfl rfl (by kernel_rfl) (fun _ _ _ h => h) ⟨rfl, ?_⟩ hS ?_
     rotate_left
     ·intro w' hS'
      (go_simp; try with_reducible rfl)
     simp only [Act.put, List.setIfInBounds_toArray, List.set_cons_zero, List.set_cons_succ]
     refine X_take 1 (some 20) (v := ?_) (listed' := #[true, true, false, false, false, false, false, false, false, false, false, false]) rfl rfl rfl (by kernel_rfl) (fun _ _ _ h => h) ⟨rfl, ?_⟩ hS ?_
     rotate_left
     ·intro w' hS'
      have e0 : w'.cell? ⟨W.heap.size + 2, 0, none⟩ = some (.string op) := hS'.1.2.cell 0
      have e1 : w'.cell? ⟨W.heap.size + 2, 1, none⟩ = some (.int .i64 a) := hS'.1.2.cell 1
      have e2 : w'.cell? ⟨W.heap.size + 2, 2, none⟩ = some (.int .i64 b) := hS'.1.2.cell 2
      have e3 : w'.cell? ⟨W.heap.size + 2, 3, none⟩ = some (.slice s.A s.n s.c) := hS'.1.2.cell 3
      have el := hS'.1.2.lt
      (go_simp; try with_reducible rfl)
     simp only [Act.put, List.setIfInBounds_toArray, List.set_cons_zero, List.set_cons_succ]
     refine X_take 2 (some 21) (v := ?_) (listed' := #[true, true, true, false, false, false, false, false, false, false, false, false]) rfl rfl rfl (by kernel_rfl) (fun _ _ _ h => h) ⟨rfl, ?_⟩ hS ?_
     rotate_left
     ·intro w' hS'
      (go_simp; try with_reducible rfl)
     simp only [Act.put, List.setIfInBounds_toArray, List.set_cons_zero, List.set_cons_succ]
     refine X_take 3 (some 22) (v := ?_) (listed' := #[true, true, true, true, false, false, false, false, false, false, false, false]) rfl rfl rfl (by kernel_rfl) (fun _ _ _ h => h) ⟨rfl, ?_⟩ hS ?_
     rotate_left
     ·intro w' hS'
      have e0 : w'.cell? ⟨W.heap.size, 0, none⟩ = some (.string op) := hS'.1.1.cell 0
      have e1 : w'.cell? ⟨W.heap.size, 1, none⟩ = some (.int .i64 a) := hS'.1.1.cell 1
      have e2 : w'.cell? ⟨W.heap.size, 2, none⟩ = some (.int .i64 b) := hS'.1.1.cell 2
      have e3 : w'.cell? ⟨W.heap.size, 3, none⟩ = some (.slice (some ⟨bb, off, none⟩) n c) := hS'.1.1.cell 3
      have el := hS'.1.1.lt
      (go_simp; try with_reducible rfl)
     simp only [Act.put, List.setIfInBounds_toArray, List.set_cons_zero, List.set_cons_succ]
     refine X_take 4 (some 23) (v := ?_) (listed' := #[true, true, true, true, true, false, false, false, false, false, false, false]) rfl rfl rfl (by kernel_rfl) (fun _ _ _ h => h) ⟨rfl, ?_⟩ hS ?_
     rotate_left
     ·intro w' hS'
      (go_simp; try with_reducible rfl)
     simp only [Act.put, List.setIfInBounds_toArray, List.set_cons_zero, List.set_cons_succ]
     refine X_take 5 (some 24) (v := ?_) (listed' := #[true, true, true, true, true, true, false, false, false, false, false, false]) rfl rfl rfl (by kernel_rfl) (fun _ _ _ h => h) ⟨rfl, ?_⟩ hS ?_
     rotate_left
     ·intro w' hS'
      (go_simp; try with_reducible rfl)
     simp only [Act.put, List.setIfInBounds_toArray, List.set_cons_zero, List.set_cons_succ]
     refine X_take 6 (some 25) (v := ?_) (listed' := #[true, true, true, true, true, true, true, false, false, false, false, false]) rfl rfl rfl (by kernel_rfl) (fun _ _ _ h => h) ⟨rfl, ?_⟩ hS ?_
     rotate_left
     ·intro w' hS'
      have e0 := hS'.2.1.1
      have e1 := hS'.2.1.2.1
      have e2 := hS'.2.1.2.2.1
      have e3 := hS'.2.1.2.2.2
      have el := hS'.2.2
      (go_simp; try with_reducible rfl)
     simp only [Act.put, List.setIfInBounds_toArray, List.set_cons_zero, List.set_cons_succ]
     refine X_one 7 (listed' := #[true, true, true, true, true, true, true, true, false, false, false, false]) (by kernel_rfl) rfl rfl (fun K hK => ?_)
     go_simp
     (with_reducible refine HC.out.mono ?_)
     rintro e w1 ⟨M2, rfl, hcore, hok, hb⟩
     have hd := (Below.refl wr.heap.size wr).drew.trans hb
     have HPB1 := Lib.hid (HPB.out.below hd HPB.out.lt)
     have HRB1 := Lib.hid (HRB.out.below hd HRB.out.lt)
     have HMA1 := Lib.hid (HMA.out.below hd)
     have HBL1 := Lib.hid (HBL.out.trans (hd.mono HBL.out.size))
     have HOK1 := Lib.hid (HMA.out.fresh hok ⟨HMA.out.bk.lt, HBS.out, HMA.out.lt⟩)
     have HCR := Lib.hid hcore
     refine hK _ _ ⟨⟨HPB1.out, HMA1.out.bk⟩, HKC.out _ HBL1.out⟩ ?_
     clear hK hcore hok hb hd HPB HMA HBL HRB
     refine X_one 8 (listed' := #[true, true, true, true, true, true, true, true, true, false, false, false]) (by kernel_rfl) rfl rfl (fun K hK => ?_)
     go_simp
     have yk : Below w1.heap.size w1 (w1.alloc (.cells #[.string M2.op, .int .i64 M2.a, .int .i64 M2.b, .slice M2.s.A M2.s.n M2.s.c] 49)) := (Below.refl _ _).alloc (Nat.le_refl _) _
     have HPB2 := Lib.hid (HPB1.out.below yk HPB1.out.lt)
     have HRB2 := Lib.hid (HRB1.out.below yk HRB1.out.lt)
     have HMA2 := Lib.hid (HMA1.out.below yk)
     have HBL2 := Lib.hid (HBL1.out.trans (yk.mono HBL1.out.size))
     have HOK2 := Lib.hid (HOK1.out.bel yk)
     refine hK _ _ ⟨⟨HPB2.out, HMA2.out.bk⟩, HKC.out _ HBL2.out⟩ ?_
     clear hK yk HPB1 HMA1 HBL1 HOK1 HRB1
     refine X_one 9 (listed' := #[true, true, true, true, true, true, true, true, true, true, false, false]) (by kernel_rfl) rfl rfl (fun K hK => ?_)
     have hl1 := Lib.hid HMA2.out.len
     have hbl := HMA2.out.bk.lt
     refine step_append_lies _ rfl (.tmp 20) (.tmp 27) 47 rfl (W.heap.size + 2) 49 i0 (.agg #[.string ⟨#[]⟩, .int .i64 0, .int .i64 0, .slice none 0 0]) 4 56 Tryz.underlying47 hi hz0 hz1 hz2 rfl (by decide) _ s.n (mcells ks) rfl (by have := HMA2.out.own; rw [← hl1.out] at this; exact this) ⟨w1.heap.size, 0, none⟩ 1 1 [.string M2.op, .int .i64 M2.a, .int .i64 M2.b, .slice M2.s.A M2.s.n M2.s.c] rfl rfl (new4 _ _ _ _ _ _) (one4m M2) (by omega) (by unfold maxLen; omega) (by omega) (by omega) (w1.heap.size + 1) (by simp) ?_
     intro g' cap w8 hown8 hgr8 hat8 _
     have HP8 := Lib.hid (HPB2.out.grown hgr8 (HMA2.out.far W.heap.size (by omega)))
     have HR8 := Lib.hid (HRB2.out.grown hgr8 (HMA2.out.far (W.heap.size + 1) (by omega)))
     have HQ8 := Lib.hid (HMA2.out.app hgr8 hown8 (by rw [hl1.out]) HOK2.out (hat8.elim (fun e => .inl e.symm) (fun e => .inr (by rw [e]; simp [Value.ownBlock]))))
     have HB8 := Lib.hid (HBL2.out.grown hgr8 (by omega) (fun g hg => Nat.le_trans (by omega) (HMA2.out.base g hg)))
     refine hK _ _ ⟨⟨HP8.out, HQ8.out.1⟩, HKC.out _ HB8.out⟩ ?_
     clear hK hown8 hgr8 hat8 HPB2 HMA2 HBL2 HOK2 HRB2
     have z3 : w8.cell? ⟨W.heap.size + 2, 3, none⟩ = some (.slice s.A s.n s.c) := HQ8.out.1.cell 3
     have f3 := HQ8.out.1.frozen 3
     have zl := HQ8.out.1.lt
     refine X_one 10 (listed' := #[true, true, true, true, true, true, true, true, true, true, true, false]) (by kernel_rfl) rfl rfl (fun K hK => ?_)
     go_simp
     refine hK _ _ ⟨⟨HP8.out, HQ8.out.1⟩, HKC.out _ HB8.out⟩ ?_
     clear hK
     refine X_tail (by kernel_rfl) ?_
     refine A_one 11 (listed' := #[true, true, true, true, true, true, true, true, true, true, true, true]) (by kernel_rfl) rfl rfl (fun K hK => ?_)
     go_simp
     refine hK _ _ ?_
     clear hK
     refine A_done (by kernel_rfl) ?_
     clear hS
     go_wp2
     go_roundw
     case rel => exact ⟨k + 1, ks ++ [M2], ⟨some ⟨g', 0, none⟩, s.n + 1, cap⟩, by omega, by go_num, HQ8.out.2, by simp [HKL.out], by rw [HS.out, ← HCO.out, List.map_append, ← HCR.out]; rfl, HB8.out.setCell (by simp; omega) _, HP8.out.setOther (by omega), HR8.out.setOther (by omega)⟩
     case measure => simp [intOf]; omega
    ·have hkn : k = n := by omega
     have hT : l.take k = l := List.take_of_length_le (by have := Hn.out; omega)
     rw [hT] at hcore
     have hOKF := (hma.ok (by rw [hkl0]; omega) hOP.out hA0.out hB0.out)
     have HOKF := Lib.hid hOKF
     have z0 : wr.cell? ⟨W.heap.size + 2, 0, none⟩ = some (.string op) := hma.bk.cell 0
     have z1 : wr.cell? ⟨W.heap.size + 2, 1, none⟩ = some (.int .i64 a) := hma.bk.cell 1
     have z2 : wr.cell? ⟨W.heap.size + 2, 2, none⟩ = some (.int .i64 b) := hma.bk.cell 2
     have z3 : wr.cell? ⟨W.heap.size + 2, 3, none⟩ = some (.slice s.A s.n s.c) := hma.bk.cell 3
     have zl := hma.bk.lt
     have f0 := hrb.frozen 0
     have f1 := hrb.frozen 1
     have f2 := hrb.frozen 2
     have f3 := hrb.frozen 3
     have g0 : wr.cell? ⟨W.heap.size + 1, 0, none⟩ = some (.string ⟨#[]⟩) := hrb.cell 0
     have g1 : wr.cell? ⟨W.heap.size + 1, 1, none⟩ = some (.int .i64 0) := hrb.cell 1
     have g2 : wr.cell? ⟨W.heap.size + 1, 2, none⟩ = some (.int .i64 0) := hrb.cell 2
     have g3 : wr.cell? ⟨W.heap.size + 1, 3, none⟩ = some (.slice none 0 0) := hrb.cell 3
     have HCF : Hid (MkM.core ⟨op, a, b, ks, s⟩ = .node op a b (l.map MkM.core)) := Lib.hid (by simp [MkM.core, coreL_map, hcore])
     clear hkn hT hcore hma hOKF hpb hrb hkl0 hsn
     go_wp2
     have hX := lay_res (W := W) (M := ⟨op, a, b, ks, s⟩) (g := W.heap.size + 1) (by omega) HRB.out (HOKF.out.mono fun q _ hq => ⟨by omega, by omega⟩) HBL.out
     dsimp only at hX
     generalize (((wr.setCell ⟨W.heap.size + 1, 0, none⟩ (.string op)).setCell ⟨W.heap.size + 1, 1, none⟩ (.int .i64 a)).setCell ⟨W.heap.size + 1, 2, none⟩ (.int .i64 b)).setCell ⟨W.heap.size + 1, 3, none⟩ (.slice s.A s.n s.c) = X at *
     have x0 : X.cell? ⟨W.heap.size + 1, 0, none⟩ = some (.string op) := hX.2.2.cell 0
     have x1 : X.cell? ⟨W.heap.size + 1, 1, none⟩ = some (.int .i64 a) := hX.2.2.cell 1
     have x2 : X.cell? ⟨W.heap.size + 1, 2, none⟩ = some (.int .i64 b) := hX.2.2.cell 2
     have x3 : X.cell? ⟨W.heap.size + 1, 3, none⟩ = some (.slice s.A s.n s.c) := hX.2.2.cell 3
     refine bodyPost_ret (v := .agg #[.string op, .int .i64 a, .int .i64 b, .slice s.A s.n s.c]) (by simp [results, Tryz.results19, go_sem, x0, x1, x2, x3]) rfl ?_
     rw [HCM.out]
     exact ⟨⟨op, a, b, ks, s⟩, rfl, HCF.out, hX.1, hX.2.1⟩
end
section
def condNs : List ByteArray := [⟨#[107, 105, 110, 100]⟩, ⟨#[97, 99, 116, 111, 114]⟩, ⟨#[114, 117, 108, 101]⟩, ⟨#[116, 105, 99, 107]⟩, ⟨#[105, 116, 101, 109]⟩, ⟨#[109, 111, 114, 101]⟩, ⟨#[115, 116, 101, 112]⟩, ⟨#[97, 99, 99, 111, 117, 110, 116]⟩]
theorem condNs_any (w : World) : Calls Tryz.prog 49 #[] w (NmQ w condNs) := by
 go_enter Tryz.func49, Tryz.ntmps49
 go_wp2
 go_ret
 refine ⟨_, _, _, rfl, ⟨.inr ⟨w.heap.size, 0, _, _, rfl, heap_alloc_new w _, fun j u hu => ?_⟩, rfl, by decide⟩, (Below.refl _ _).alloc (Nat.le_refl _) _⟩
 rw [Nat.zero_add, ← List.getElem?_toArray] at *
 exact hu
/-- What append makes: nil, or the head of a block. -/
def SlC (s : Sl) : Prop := s = ⟨none, 0, 0⟩ ∨ ∃ g, s.A = some ⟨g, 0, none⟩ ∧ s.n ≤ s.c
inductive MkM.Fan (n : Nat) : MkM → Prop
 | mk (op : ByteArray) (a b : Int) (ks : List MkM) (s : Sl) (len : ks.length ≤ n) (cap : SlC s) (each : ∀ k ∈ ks, MkM.Fan n k) : MkM.Fan n ⟨op, a, b, ks, s⟩
theorem MkM.Fan.kid {n : Nat} {M : MkM} (h : M.Fan n) : ∀ t ∈ M.ks, t.Fan n := by cases h; assumption
theorem MkM.Fan.cap {n : Nat} {M : MkM} (h : M.Fan n) : SlC M.s := by cases h; assumption
theorem MkM.Fan.len {n : Nat} {M : MkM} (h : M.Fan n) : M.ks.length ≤ n := by cases h; assumption
theorem own_cap {W : World} {B e size n : Nat} {s : Sl} {xs : List Value} (h : W.ownsRow B e size (.slice s.A s.n s.c) n xs) : SlC s := by
 rcases h.2 with ⟨hv, _⟩ | ⟨g, cap, cur, hv, _, _, hn, _⟩
 ·have := Value.slice.inj hv
  obtain ⟨A, n, c⟩ := s
  exact .inl (by simp_all)
 ·have := Value.slice.inj hv
  exact .inr ⟨g, this.1, by omega⟩
theorem MkAt.cap {B : Nat} {W : World} {t : TypeId} {bx : Nat} {op : ByteArray} {a b : Int} {ks : List MkM} {s : Sl} (h : MkAt B W t bx op a b ks s) : SlC s := own_cap h.own
/-- How many marks the generator makes at most. -/
def szG : Nat → Nat | 0 => 1 | d + 1 => 1 + 3 * szG d
theorem szG_pos (d : Nat) : 1 ≤ szG d := by cases d <;> simp [szG]
def MarkG (W : World) (g d : Nat) (e : Ending) (w' : World) : Prop :=
 ∃ M : MkM, e = .returned (.agg #[.string M.op, .int .i64 M.a, .int .i64 M.b, .slice M.s.A M.s.n M.s.c]) ∧ M.Ok w' 35 (fun b => W.heap.size ≤ b) ∧ M.core.size ≤ szG d ∧ M.Fan 3 ∧ KSt W w' g
section
variable {B : Nat} {W W' : World} {t : TypeId} {bx g : Nat} {op : ByteArray} {a b : Int} {ks : List MkM} {s : Sl}
theorem MkAt.kst (h : MkAt B W t bx op a b ks s) (hk : KSt W W' g) (hg : g < B) : MkAt B W' t bx op a b ks s :=
 ⟨hk.bk h.bk (by have := h.ge; omega), hk.own h.own (fun e => by have := h.base g e; omega), fun k hk' => (h.each k hk').grown hk.gr fun q hq => by have := hq.1; simp; omega, h.ne, h.ge⟩
end
theorem lay_kst {W w1 : World} {M : MkM} {g rb : Nat} (hW : W.heap.size ≤ rb) (hB : Bk w1 rb 35 [.string ⟨#[]⟩, .int .i64 0, .int .i64 0, .slice none 0 0]) (h : M.Ok w1 35 (fun b => W.heap.size ≤ b ∧ b ≠ rb)) (hK : KSt W w1 g) :
 M.Ok ((((w1.setCell ⟨rb, 0, none⟩ (.string M.op)).setCell ⟨rb, 1, none⟩ (.int .i64 M.a)).setCell ⟨rb, 2, none⟩ (.int .i64 M.b)).setCell ⟨rb, 3, none⟩ (.slice M.s.A M.s.n M.s.c)) 35 (fun b => W.heap.size ≤ b) ∧ KSt W ((((w1.setCell ⟨rb, 0, none⟩ (.string M.op)).setCell ⟨rb, 1, none⟩ (.int .i64 M.a)).setCell ⟨rb, 2, none⟩ (.int .i64 M.b)).setCell ⟨rb, 3, none⟩ (.slice M.s.A M.s.n M.s.c)) g ∧ Bk ((((w1.setCell ⟨rb, 0, none⟩ (.string M.op)).setCell ⟨rb, 1, none⟩ (.int .i64 M.a)).setCell ⟨rb, 2, none⟩ (.int .i64 M.b)).setCell ⟨rb, 3, none⟩ (.slice M.s.A M.s.n M.s.c)) rb 35 [.string M.op, .int .i64 M.a, .int .i64 M.b, .slice M.s.A M.s.n M.s.c] :=
 ⟨(h.grown (four_self w1 rb (.string M.op) (.int .i64 M.a) (.int .i64 M.b) (.slice M.s.A M.s.n M.s.c)) fun b hb => by simp; exact hb.2).mono fun b _ hb => hb.1, (((hK.set rb 0 _ hW).set rb 1 _ hW).set rb 2 _ hW).set rb 3 _ hW, four_laid hB (.string M.op) (.int .i64 M.a) (.int .i64 M.b) (.slice M.s.A M.s.n M.s.c)⟩
theorem leaf_g {W w1 : World} {g rb d : Nat} {op : ByteArray} {a b : Int} (hW : W.heap.size ≤ rb) (hB : Bk w1 rb 35 [.string ⟨#[]⟩, .int .i64 0, .int .i64 0, .slice none 0 0]) (hop : op.size ≤ 8192) (ha : In64 a) (hb : In64 b) (hK : KSt W w1 g) :
 MarkG W g d (.returned (.agg #[.string op, .int .i64 a, .int .i64 b, .slice none 0 0])) ((((w1.setCell ⟨rb, 0, none⟩ (.string op)).setCell ⟨rb, 1, none⟩ (.int .i64 a)).setCell ⟨rb, 2, none⟩ (.int .i64 b)).setCell ⟨rb, 3, none⟩ (.slice none 0 0)) ∧ Bk ((((w1.setCell ⟨rb, 0, none⟩ (.string op)).setCell ⟨rb, 1, none⟩ (.int .i64 a)).setCell ⟨rb, 2, none⟩ (.int .i64 b)).setCell ⟨rb, 3, none⟩ (.slice none 0 0)) rb 35 [.string op, .int .i64 a, .int .i64 b, .slice none 0 0] := by
 have h := lay_kst (M := ⟨op, a, b, [], ⟨none, 0, 0⟩⟩) hW hB (.mk _ _ _ _ _ (.inl rfl) rfl (show (0 : Nat) ≤ 100000 by decide) hop ha hb fun k hk => absurd hk List.not_mem_nil) hK
 refine ⟨⟨⟨op, a, b, [], ⟨none, 0, 0⟩⟩, rfl, h.1, ?_, .mk _ _ _ _ _ (by simp) (.inl rfl) (fun k hk => absurd hk List.not_mem_nil), h.2.1⟩, h.2.2⟩
 have := szG_pos d
 simpa [MkM.core, MkM.coreL, Mk.size, Mk.sizeL] using this
end
end Go.Proofs.YtocodlpgaamblaaGreatDoor
