/- The contract of lexer.Tokens, for whatever the contracts of skip and next are. -/
import Derived.Test.YthjfdfdgbpbanaaGreatDoorA15
import Derived.Maps.OwnIn
namespace Go.Proofs.YthjfdfdgbpbanaaGreatDoor
open Go.RowKit Go.Shelf
attribute [local go_sem] Oper.semAt_some

def Tok.cells (t : Tok) : List Value := [.int .i64 t.kind, .string t.text, .int .i64 t.num, .int .i64 t.at_]
def kcells (l : List Tok) : List Value := l.flatMap Tok.cells
theorem kcells_snoc (l : List Tok) (t : Tok) : kcells (l ++ [t]) = kcells l ++ t.cells := by simp [kcells]

/-- What Tokens returns: the tokens; or the offset of the first error, and it. -/
def TokPost (w : World) (xs : List Tok) (e : Ending) (w' : World) : Prop :=
  ((∀ t ∈ xs, t.err = 0) ∧ ∃ v, e = .returned (.tuple #[v, .int .i64 0, .int .i64 0]) ∧ w'.ownsRow w.heap.size 223 4 v xs.length (kcells xs) ∧ Below w.heap.size w w') ∨
  (∃ init last, init ++ [last] <+: xs ∧ (∀ t ∈ init, t.err = 0) ∧ last.err ≠ 0 ∧ e = .returned (.tuple #[.slice none 0 0, .int .i64 last.at_, .int .i64 last.err]) ∧ Below w.heap.size w w')

theorem all_in (n : Nat) (s : ByteArray) (w : World) :
    CallsIn Fence.wide n Tryz.prog 184 #[.string s] w fun e w' => e = .returned (.func (.func 186) #[] #[.pointer (some ⟨w.heap.size, 0, none⟩)]) ∧ w' = w.alloc (.cells #[.string s] 9) := by
  refine callsIn_of_wp Tryz.func184 rfl trivial ?_ rfl
  simp only [Tryz.ntmps184, List.size_toArray, List.length_cons, List.length_nil, Nat.reduceAdd, Nat.reduceSub, Array.replicate_succ, Array.replicate_zero, List.push_toArray, List.append_toArray, List.nil_append, List.cons_append]
  gi_wp2
  go_ret
  exact ⟨rfl, rfl⟩

theorem boxed_keep {X Y : World} {row : Option Nat} {B : Nat} {t : TypeId} {v : Value} (h : Boxed X B t v) (hg : X.grownBy Y row) (hr : ∀ r, row = some r → ∃ o : Obj, X.heap[r]? = some o ∧ o.isCells = false) : Boxed Y B t v :=
  boxed_own B t (fun _ : Unit => v) () X Y row h hg hr

theorem stop_close (pre : List Tok) (x : Tok) (w W : World) (B : Nat) (v0 v1 v2 : Value) (he : ∀ t ∈ pre, t.err = 0) (hx0 : ¬ x.err = 0)
    (c0 : Boxed W w.heap.size 220 v0) (c1 : Boxed W (w.heap.size + 1) 3 v1) (c2 : Boxed W (w.heap.size + 2) 34 v2) (hB : Below w.heap.size w W) :
    KeepsFrom B W (((W.setCell ⟨w.heap.size, 0, none⟩ (.slice none 0 0)).setCell ⟨w.heap.size + 1, 0, none⟩ (.int .i64 x.at_)).setCell ⟨w.heap.size + 2, 0, none⟩ (.int .i64 x.err)).drew ∧
    ((∃ init last, pre ++ [x] = init ++ [last] ∧ (∀ t ∈ init, t.err = 0) ∧ last.err ≠ 0 ∧
      Boxed (((W.setCell ⟨w.heap.size, 0, none⟩ (.slice none 0 0)).setCell ⟨w.heap.size + 1, 0, none⟩ (.int .i64 x.at_)).setCell ⟨w.heap.size + 2, 0, none⟩ (.int .i64 x.err)).drew w.heap.size 220 (.slice none 0 0) ∧
      Boxed (((W.setCell ⟨w.heap.size, 0, none⟩ (.slice none 0 0)).setCell ⟨w.heap.size + 1, 0, none⟩ (.int .i64 x.at_)).setCell ⟨w.heap.size + 2, 0, none⟩ (.int .i64 x.err)).drew (w.heap.size + 1) 3 (.int .i64 last.at_) ∧
      Boxed (((W.setCell ⟨w.heap.size, 0, none⟩ (.slice none 0 0)).setCell ⟨w.heap.size + 1, 0, none⟩ (.int .i64 x.at_)).setCell ⟨w.heap.size + 2, 0, none⟩ (.int .i64 x.err)).drew (w.heap.size + 2) 34 (.int .i64 last.err)) ∧
     Below w.heap.size w (((W.setCell ⟨w.heap.size, 0, none⟩ (.slice none 0 0)).setCell ⟨w.heap.size + 1, 0, none⟩ (.int .i64 x.at_)).setCell ⟨w.heap.size + 2, 0, none⟩ (.int .i64 x.err)).drew) := by
  have d0 : Boxed (W.setCell ⟨w.heap.size, 0, none⟩ (.slice none 0 0)) w.heap.size 220 (.slice none 0 0) := c0.set _
  have d1 : Boxed ((W.setCell ⟨w.heap.size, 0, none⟩ (.slice none 0 0)).setCell ⟨w.heap.size + 1, 0, none⟩ (.int .i64 x.at_)) (w.heap.size + 1) 3 (.int .i64 x.at_) := (c1.other (by omega) _).set _
  refine ⟨(((KeepsOthers.setCell _ _ _).trans (KeepsOthers.setCell _ _ _)).trans ((KeepsOthers.setCell _ _ _).trans (KeepsOthers.drew _))).from _, ⟨pre, x, rfl, he, hx0, ?_, ?_, ?_⟩, ?_⟩
  · exact (d0.other (by omega) _).other (by omega) _
  · exact d1.other (by omega) _
  · exact ((c2.other (by omega) _).other (by omega) _).set _
  · exact (((hB.setCell (p := ⟨w.heap.size, 0, none⟩) (Nat.le_refl _) _).setCell (p := ⟨w.heap.size + 1, 0, none⟩) (by simp) _).setCell (p := ⟨w.heap.size + 2, 0, none⟩) (by simp) _).drew

theorem app_close {w W w1 : World} {B : Nat} {v v' v0 v1 v2 : Value} {k : Nat} {xs ys : List Value} {tmp : Obj} (c0 : Boxed W w.heap.size 220 v0) (c1 : Boxed W (w.heap.size + 1) 3 v1) (c2 : Boxed W (w.heap.size + 2) 34 v2)
    (c3 : Boxed W (w.heap.size + 3) 220 v) (hrow : W.ownsRow w.heap.size 223 4 v k xs) (hB : Below w.heap.size w W) (hown' : w1.ownsRow w.heap.size 223 4 v' (k + 1) ys) (hgrow : (W.alloc tmp).grownBy w1 v.ownBlock)
    (hloc : v'.ownBlock = v.ownBlock ∨ v'.ownBlock = some (W.heap.size + 1)) :
    Boxed w1 (w.heap.size + 3) 220 v ∧ KeepsFrom B W (w1.setCell ⟨w.heap.size + 3, 0, none⟩ v') ∧ KpT w.heap.size (w.heap.size + 4) (w.heap.size + 3) W (w1.setCell ⟨w.heap.size + 3, 0, none⟩ v') ∧
    (Boxed (w1.setCell ⟨w.heap.size + 3, 0, none⟩ v') w.heap.size 220 v0 ∧ Boxed (w1.setCell ⟨w.heap.size + 3, 0, none⟩ v') (w.heap.size + 1) 3 v1 ∧ Boxed (w1.setCell ⟨w.heap.size + 3, 0, none⟩ v') (w.heap.size + 2) 34 v2) ∧
    (Boxed (w1.setCell ⟨w.heap.size + 3, 0, none⟩ v') (w.heap.size + 3) 220 v' ∧ (w1.setCell ⟨w.heap.size + 3, 0, none⟩ v').ownsRow w.heap.size 223 4 v' (k + 1) ys) ∧ Below w.heap.size w (w1.setCell ⟨w.heap.size + 3, 0, none⟩ v') := by
  obtain ⟨e1, e2, e3, e4, e5⟩ := c3.appended (by decide) hrow hB.size (by omega) hown' hgrow
  refine ⟨e1, e4.from _, ⟨e5, fun hG => ⟨?_, fun g hg hp => ?_⟩⟩, ⟨?_, ?_, ?_⟩, ⟨e2, e3⟩, hB.trans e5⟩
  · refine ⟨v', e2.cell, fun g e => ?_⟩
    rcases e3.2 with ⟨_, h⟩ | ⟨g', cap, cur, hv, _, hb, _⟩
    · omega
    · rw [hv] at e
      simp [Value.ownBlock] at e
      subst e
      exact (Array.getElem?_eq_some_iff.1 hb).1
  · obtain ⟨⟨cs, t, fr, hcs⟩, hne, hv⟩ := hp
    have hlt : g < W.heap.size := (Array.getElem?_eq_some_iff.1 hcs).1
    have hng : v.ownBlock ≠ some g := hv v c3.cell
    have he : (w1.setCell ⟨w.heap.size + 3, 0, none⟩ v').heap[g]? = W.heap[g]? := by
      rw [Below.heap_setCell w1 _ _ g hne, hgrow.block g (by simp; omega) (fun e => hng e.symm), Below.heap_alloc W tmp g hlt]
    refine ⟨he, ⟨cs, t, fr, he.trans hcs⟩, hne, fun u hu e => ?_⟩
    rw [e2.cell] at hu
    cases hu
    rcases hloc with h | h
    · rw [h] at e; exact hng e
    · rw [h] at e; cases e; omega
  · exact ((c0.alloc tmp).kept hgrow (c0.not_row (by decide) hrow)).other (by omega) _
  · exact ((c1.alloc tmp).kept hgrow (c1.not_row (by decide) hrow)).other (by omega) _
  · exact ((c2.alloc tmp).kept hgrow (c2.not_row (by decide) hrow)).other (by omega) _

theorem done_close {w W : World} {D : Nat} {v v0 v1 v2 : Value} {k : Nat} {xs : List Value} (c0 : Boxed W w.heap.size 220 v0) (c1 : Boxed W (w.heap.size + 1) 3 v1) (c2 : Boxed W (w.heap.size + 2) 34 v2)
    (hrow : W.ownsRow w.heap.size 223 4 v k xs) (hB : Below w.heap.size w W) (hD : w.heap.size + 5 ≤ D) (hK : W.heap[D]? = some (.deferred (some []))) :
    (((W.setCell ⟨w.heap.size, 0, none⟩ v).setCell ⟨w.heap.size + 1, 0, none⟩ (.int .i64 0)).setCell ⟨w.heap.size + 2, 0, none⟩ (.int .i64 0)).heap[D]? = some (.deferred (some [])) ∧
    ((((W.setCell ⟨w.heap.size, 0, none⟩ v).setCell ⟨w.heap.size + 1, 0, none⟩ (.int .i64 0)).setCell ⟨w.heap.size + 2, 0, none⟩ (.int .i64 0)).putObj D (.deferred none)).cell? ⟨w.heap.size, 0, none⟩ = some v ∧
    ((((W.setCell ⟨w.heap.size, 0, none⟩ v).setCell ⟨w.heap.size + 1, 0, none⟩ (.int .i64 0)).setCell ⟨w.heap.size + 2, 0, none⟩ (.int .i64 0)).putObj D (.deferred none)).cell? ⟨w.heap.size + 1, 0, none⟩ = some (.int .i64 0) ∧
    ((((W.setCell ⟨w.heap.size, 0, none⟩ v).setCell ⟨w.heap.size + 1, 0, none⟩ (.int .i64 0)).setCell ⟨w.heap.size + 2, 0, none⟩ (.int .i64 0)).putObj D (.deferred none)).cell? ⟨w.heap.size + 2, 0, none⟩ = some (.int .i64 0) ∧
    ((((W.setCell ⟨w.heap.size, 0, none⟩ v).setCell ⟨w.heap.size + 1, 0, none⟩ (.int .i64 0)).setCell ⟨w.heap.size + 2, 0, none⟩ (.int .i64 0)).putObj D (.deferred none)).ownsRow w.heap.size 223 4 v k xs ∧
    Below w.heap.size w ((((W.setCell ⟨w.heap.size, 0, none⟩ v).setCell ⟨w.heap.size + 1, 0, none⟩ (.int .i64 0)).setCell ⟨w.heap.size + 2, 0, none⟩ (.int .i64 0)).putObj D (.deferred none)) := by
  have d0 : Boxed (W.setCell ⟨w.heap.size, 0, none⟩ v) w.heap.size 220 v := c0.set _
  have d1 : Boxed ((W.setCell ⟨w.heap.size, 0, none⟩ v).setCell ⟨w.heap.size + 1, 0, none⟩ (.int .i64 0)) (w.heap.size + 1) 3 (.int .i64 0) := (c1.other (by omega) _).set _
  have d2 : Boxed (((W.setCell ⟨w.heap.size, 0, none⟩ v).setCell ⟨w.heap.size + 1, 0, none⟩ (.int .i64 0)).setCell ⟨w.heap.size + 2, 0, none⟩ (.int .i64 0)) (w.heap.size + 2) 34 (.int .i64 0) := ((c2.other (by omega) _).other (by omega) _).set _
  have hk : (((W.setCell ⟨w.heap.size, 0, none⟩ v).setCell ⟨w.heap.size + 1, 0, none⟩ (.int .i64 0)).setCell ⟨w.heap.size + 2, 0, none⟩ (.int .i64 0)).heap[D]? = some (.deferred (some [])) :=
    (((KeepsOthers.setCell _ _ _).trans (KeepsOthers.setCell _ _ _)).trans (KeepsOthers.setCell _ _ _)).same D _ hK rfl
  have r0 : (W.setCell ⟨w.heap.size, 0, none⟩ v).ownsRow w.heap.size 223 4 v k xs := hrow.kept (grownBy_setCell' W _ v) (.inr (c0.not_row (by decide) hrow).symm)
  have r1 := r0.kept (grownBy_setCell' _ (w.heap.size + 1) (.int .i64 0)) (.inr ((c1.other (by omega) v).not_row (by decide) r0).symm)
  have r2 := r1.kept (grownBy_setCell' _ (w.heap.size + 2) (.int .i64 0)) (.inr (((c2.other (by omega) v).other (by omega) _).not_row (by decide) r1).symm)
  have hp := grownBy_putObj' (((W.setCell ⟨w.heap.size, 0, none⟩ v).setCell ⟨w.heap.size + 1, 0, none⟩ (.int .i64 0)).setCell ⟨w.heap.size + 2, 0, none⟩ (.int .i64 0)) D (.deferred none)
  refine ⟨hk, (((d0.other (by omega) _).other (by omega) _).kept hp (by simp; omega)).cell, ((d1.other (by omega) _).kept hp (by simp; omega)).cell, (d2.kept hp (by simp; omega)).cell, ownsRow_putObj r2 _ hk rfl, ?_⟩
  refine (((hB.setCell (p := ⟨w.heap.size, 0, none⟩) (Nat.le_refl _) v).setCell (p := ⟨w.heap.size + 1, 0, none⟩) (by simp) (.int .i64 0)).setCell (p := ⟨w.heap.size + 2, 0, none⟩) (by simp) (.int .i64 0)).trans ?_
  exact ⟨rfl, rfl, rfl, by simp, fun j hj => World.putObj_heap_other (by omega)⟩

theorem info223 : (Tryz.prog.info? 223).map (fun i => (i.zero, i.size, i.bytes)) = some (some (.agg #[.int .i64 0, .string ⟨#[]⟩, .int .i64 0, .int .i64 0]), 4, 40) := by kernel_rfl

set_option maxRecDepth 100000 in
set_option maxHeartbeats 2000000 in
theorem tokens_any (s : ByteArray) (hs : s.size ≤ 8192) (S : Nat → Nat) (N : Nat → Tok) (hS : SkipOk s S) (hN : NextOk s N) (hSle : ∀ p, S p ≤ s.size) (hNle : ∀ p, p < s.size → p + (N p).text.size ≤ s.size)
    (xs : List Tok) (hlen : xs.length ≤ 8192) (hx : Lx S N s.size (S 0) xs) (w : World) (hT : Tab w) :
    Calls Tryz.prog 175 #[.string s] w (TokPost w xs) := by
  refine (callsIn_wide (n := 5)).1 ?_
  obtain ⟨i0, hi, hz0, hz1, hz2⟩ := info_parts info223
  have HS := Lib.hid hS
  have HN := Lib.hid hN
  have HT := Lib.hid hT
  clear hS hN hT
  have hd : decide ((8192 : Int) < (s.size : Int)) = false := by simp; omega
  refine callsIn_of_wp_marks Tryz.func175 rfl trivial ?_ rfl
  simp only [Tryz.ntmps175, List.size_toArray, List.length_cons, List.length_nil, Nat.reduceAdd, Nat.reduceSub, Array.replicate_succ, Array.replicate_zero, List.push_toArray, List.append_toArray, List.nil_append, List.cons_append]
  gi_wp2_with fail
  refine ⟨trivial, (all_in _ s _).mono ?_⟩
  rintro e w' ⟨rfl, rfl⟩
  gi_wp2_with fail
  obtain ⟨n, hn⟩ : ∃ n, n = w.heap.size := ⟨_, rfl⟩
  obtain ⟨W0, hW0⟩ : ∃ W0, ((((w.alloc (.cells #[.slice none 0 0] 220)).alloc (.cells #[.int .i64 0] 3)).alloc (.cells #[.int .i64 0] 34)).alloc (.cells #[.slice none 0 0] 220)).alloc (.cells #[.string s] 9) = W0 := ⟨_, rfl⟩
  have hB0 : Below w.heap.size w W0 := by
    rw [← hW0]
    exact ((((((Below.refl _ w).alloc (Nat.le_refl _) _).alloc (by simp) _).alloc (by simp; omega) _).alloc (by simp; omega) _).alloc (by simp; omega) _)
  have hsz : W0.heap.size = w.heap.size + 5 := by rw [← hW0]; simp
  have b0 : Boxed W0 w.heap.size 220 (.slice none 0 0) := by rw [← hW0]; exact ((((Boxed.new w 220 (.slice none 0 0)).alloc _).alloc _).alloc _).alloc _
  have b1 : Boxed W0 (w.heap.size + 1) 3 (.int .i64 0) := by
    rw [← hW0]
    have := Boxed.new (w.alloc (.cells #[.slice none 0 0] 220)) 3 (.int .i64 0)
    rw [World.size_alloc] at this
    exact ((this.alloc _).alloc _).alloc _
  have b2 : Boxed W0 (w.heap.size + 2) 34 (.int .i64 0) := by
    rw [← hW0]
    have := Boxed.new ((w.alloc (.cells #[.slice none 0 0] 220)).alloc (.cells #[.int .i64 0] 3)) 34 (.int .i64 0)
    rw [World.size_alloc, World.size_alloc] at this
    exact (this.alloc _).alloc _
  have b3 : Boxed W0 (w.heap.size + 3) 220 (.slice none 0 0) := by
    rw [← hW0]
    have := Boxed.new (((w.alloc (.cells #[.slice none 0 0] 220)).alloc (.cells #[.int .i64 0] 3)).alloc (.cells #[.int .i64 0] 34)) 220 (.slice none 0 0)
    rw [World.size_alloc, World.size_alloc, World.size_alloc] at this
    exact this.alloc _
  have b4 : Boxed W0 (w.heap.size + 4) 9 (.string s) := by
    rw [← hW0]
    have := Boxed.new ((((w.alloc (.cells #[.slice none 0 0] 220)).alloc (.cells #[.int .i64 0] 3)).alloc (.cells #[.int .i64 0] 34)).alloc (.cells #[.slice none 0 0] 220)) 9 (.string s)
    rw [World.size_alloc, World.size_alloc, World.size_alloc, World.size_alloc] at this
    exact this
  have hG0 : Gd (w.heap.size + 3) W0 := ⟨_, b3.cell, fun g e => by simp [Value.ownBlock] at e⟩
  have hP0 : Prot (w.heap.size + 3) W0 (w.heap.size + 4) := ⟨⟨_, _, _, b4⟩, by omega, fun v hv e => by rw [b3.cell] at hv; cases hv; simp [Value.ownBlock] at e⟩
  rw [hW0]
  refine wpIn_rangeFunc_ownH rfl (by omega) (gf := 186) (lb := #[.pointer (some ⟨w.heap.size + 4, 0, none⟩)]) rfl trivial (enters_of Tryz.func186 (by kernel_rfl) rfl)
    (iter_stops s hs S N HS.out HN.out hSle hNle 4 (w.heap.size + 4) w.heap.size (w.heap.size + 4) (w.heap.size + 3) (Nat.le_refl _) HT.out.1 xs hx W0 (by omega) (by omega) hG0 hP0 (HT.out.below hB0 HT.out.1) b4.cell)
    (fun h k => KpT.trans h k) (fun W l o o' hl ho hc _ => KpT.put (N := W0.heap.size) (by omega) (by omega) W l o o' hl ho hc) (Below.refl _ _) (fun _ => rfl)
    (fun pre W => ((∀ t ∈ pre, t.err = 0) ∧ (Boxed W w.heap.size 220 (.slice none 0 0) ∧ Boxed W (w.heap.size + 1) 3 (.int .i64 0) ∧ Boxed W (w.heap.size + 2) 34 (.int .i64 0))) ∧
      (∃ v, Boxed W (w.heap.size + 3) 220 v ∧ W.ownsRow w.heap.size 223 4 v pre.length (kcells pre) ∧ True) ∧ Below w.heap.size w W)
    (fun c pre W => (c = .ret ∧ ∃ init last, pre = init ++ [last] ∧ (∀ t ∈ init, t.err = 0) ∧ last.err ≠ 0 ∧ Boxed W w.heap.size 220 (.slice none 0 0) ∧ Boxed W (w.heap.size + 1) 3 (.int .i64 last.at_) ∧ Boxed W (w.heap.size + 2) 34 (.int .i64 last.err)) ∧ Below w.heap.size w W)
    (OwnFrom.and (OwnFrom.and (ownFrom_pure _ _) (OwnFrom.and (Own.from (boxed_own _ _ _) _) (OwnFrom.and (Own.from (boxed_own _ _ _) _) (Own.from (boxed_own _ _ _) _))))
      (OwnFrom.and (Own.from (holdsRow_own w.heap.size (w.heap.size + 3) 220 223 4 (fun pre => pre.length) (fun pre => kcells pre) (fun _ _ => True)) _) (ownFrom_below (Nat.le_refl _) (by omega))))
    ?hIx
    ⟨⟨by simp, b0, b1, b2⟩, ⟨_, b3, World.ownsRow_nil _ _ _ _, trivial⟩, hB0⟩
    (fun x a' W => ∃ Bx, W.heap[Bx]? = some (.cells #[.int .i64 x.kind, .string x.text, .int .i64 x.num, .int .i64 x.at_] 223 (0, 0)) ∧
      a' = { tmps := #[.string s, undef, .pointer (some ⟨w.heap.size, 0, none⟩), .pointer (some ⟨w.heap.size + 1, 0, none⟩), .pointer (some ⟨w.heap.size + 2, 0, none⟩), .pointer (some ⟨w.heap.size + 3, 0, none⟩), .pointer (some ⟨Bx, 0, none⟩), .int .i64 x.err, .string s, .int .i64 s.size, .bool false, .string s, .func (.func 186) #[] #[.pointer (some ⟨w.heap.size + 4, 0, none⟩)], .agg #[.int .i64 x.kind, .string x.text, .int .i64 x.num, .int .i64 x.at_], .int .i64 x.err, undef, undef, undef, undef, undef, undef, undef, undef, undef, undef], defers := [] })
    ?hAx ?assign ?body ?done ?stop
  case hIx =>
    rintro c pre X Y row ⟨⟨hc, init, last, hp, h1, h2, h3, h4, h5⟩, hb⟩ hg hr
    refine ⟨⟨hc, init, last, hp, h1, h2, boxed_keep h3 hg (fun r e => (hr r e).2), boxed_keep h4 hg (fun r e => (hr r e).2), boxed_keep h5 hg (fun r e => (hr r e).2)⟩, ?_⟩
    exact ownFrom_below (β := Unit) (Nat.le_refl _) (by omega) () X Y row hb hg hr
  case hAx =>
    rintro x a' u X Y row ⟨Bx, hbx, ha⟩ hg hr
    refine ⟨Bx, (hg.block Bx (Array.getElem?_eq_some_iff.1 hbx).1 (fun e => ?_)).trans hbx, ha⟩
    obtain ⟨_, o, ho, hc⟩ := hr Bx e.symm
    rw [hbx] at ho
    cases ho
    cases hc
  case assign =>
    rintro l pre x W K ⟨⟨he, c0, c1, c2⟩, ⟨v, c3, hrow, _⟩, hB⟩ hK
    have hBs := hB.size
    gi_wp2
    exact hK _ _ ((KeepsOthers.alloc _ _).from _) (KpT.grow ((Below.refl _ W).alloc (Nat.le_refl _) _) hBs) ⟨⟨he, c0.alloc _, c1.alloc _, c2.alloc _⟩, ⟨v, c3.alloc _, hrow.alloc _, trivial⟩, hB.alloc hBs _⟩ ⟨W.heap.size, World.alloc_heap_new W _, rfl⟩
  case body =>
    rintro l pre x a' W hl _ ⟨⟨he, c0, c1, c2⟩, ⟨v, c3, hrow, _⟩, hB⟩ ⟨Bx, hbx, rfl⟩ hlt
    have hBs := hB.size
    have x0 : W.cell? ⟨Bx, 0, none⟩ = some (.int .i64 x.kind) := by simp [World.cell?, hbx]
    have x1 : W.cell? ⟨Bx, 1, none⟩ = some (.string x.text) := by simp [World.cell?, hbx]
    have x2 : W.cell? ⟨Bx, 2, none⟩ = some (.int .i64 x.num) := by simp [World.cell?, hbx]
    have x3 : W.cell? ⟨Bx, 3, none⟩ = some (.int .i64 x.at_) := by simp [World.cell?, hbx]
    have y0 := c0.cell
    have y1 := c1.cell
    have y2 := c2.cell
    have y3 := c3.cell
    have z0 := c0.frozen
    have z1 := c1.frozen
    have z2 := c2.frozen
    have z3 := c3.frozen
    by_cases hx0 : x.err = 0
    · have hx1 : (x.err != 0) = false := by simpa using hx0
      have Hx0 := Lib.hid hx0
      clear hx0
      gi_wp2_with (gi_at_builtin; refine wpListIn_append_own_at _ rfl _ _ 220 rfl w.heap.size 223 i0 (.agg #[.int .i64 0, .string ⟨#[]⟩, .int .i64 0, .int .i64 0]) 4 40 Tryz.underlying220 hi hz0 hz1 hz2 rfl (by decide) v pre.length (kcells pre) rfl (hrow.alloc _) ⟨W.heap.size, 0, none⟩ 1 1 x.cells rfl rfl ?c1 ?c2 ?c3 ?c4 ?c5 ?_)
      case c1 =>
        intro j u hj
        match j, hj with
        | 0, hj => simp [Tok.cells] at hj; subst hj; simp [Addr.add]
        | 1, hj => simp [Tok.cells] at hj; subst hj; simp [Addr.add]
        | 2, hj => simp [Tok.cells] at hj; subst hj; simp [Addr.add]
        | 3, hj => simp [Tok.cells] at hj; subst hj; simp [Addr.add]
        | j + 4, hj => simp [Tok.cells] at hj
      case c2 =>
        intro u hu
        simp only [Tok.cells, List.mem_cons, List.not_mem_nil, or_false] at hu
        rcases hu with rfl | rfl | rfl | rfl <;> rfl
      case c3 => unfold maxLen; omega
      case c4 => omega
      case c5 => simp; omega
      intro v' w1 hown' hgrow _ hloc
      obtain ⟨g', cap', rfl⟩ := ownsRow_succ hown'
      obtain ⟨e1, e2, e3, e4, e5, e6⟩ := app_close (B := W0.heap.size) c0 c1 c2 c3 hrow hB hown' hgrow hloc
      have hc1 := e1.cell
      have hf1 := e1.frozen
      gi_wp2
      refine ⟨e2, e3, ⟨?_, e4⟩, ⟨_, e5.1, by rw [List.length_append, kcells_snoc]; exact e5.2, trivial⟩, e6⟩
      intro t ht
      rcases List.mem_append.1 ht with h | h
      · exact he t h
      · simp at h; subst h; exact Hx0.out
    · have hx1 : (x.err != 0) = true := by simpa using hx0
      have n0 : Bx ≠ w.heap.size := fun e => by rw [e] at hbx; rw [show W.heap[w.heap.size]? = _ from c0] at hbx; simp at hbx
      have n1 : Bx ≠ w.heap.size + 1 := fun e => by rw [e] at hbx; rw [show W.heap[w.heap.size + 1]? = _ from c1] at hbx; simp at hbx
      have n2 : Bx ≠ w.heap.size + 2 := fun e => by rw [e] at hbx; rw [show W.heap[w.heap.size + 2]? = _ from c2] at hbx; simp at hbx
      have fin := Lib.hid (stop_close pre x w W W0.heap.size (.slice none 0 0) (.int .i64 0) (.int .i64 0) he hx0 c0 c1 c2 hB)
      gi_wp2
      gi_region
      all_goals gi_wp2
      all_goals exact ⟨fin.out.1, ⟨rfl, fin.out.2.1⟩, fin.out.2.2⟩
  case done =>
    rintro D ys W hD rfl ⟨⟨he, c0, c1, c2⟩, ⟨v, c3, hrow, _⟩, hB⟩ hK
    have y0 := c0.cell
    have y1 := c1.cell
    have y2 := c2.cell
    have y3 := c3.cell
    have z0 := c0.frozen
    have z1 := c1.frozen
    have z2 := c2.frozen
    have hex : ∃ A n c, v = .slice A n c := by
      rcases hrow.2 with ⟨rfl, _⟩ | ⟨g, cap, cur, rfl, _⟩
      · exact ⟨_, _, _, rfl⟩
      · exact ⟨_, _, _, rfl⟩
    obtain ⟨A, nn, c, rfl⟩ := hex
    have fin := Lib.hid (done_close (D := D) c0 c1 c2 hrow hB (by omega) hK)
    gi_wp2
    obtain ⟨k1, k2, k3, k4, k5, k6⟩ := fin.out
    refine ⟨by simp, .inl ⟨_, _, rfl, run_takeDeferred k1, ?_⟩⟩
    exact ⟨.tuple #[.slice A nn c, .int .i64 0, .int .i64 0], by simp [results, Tryz.results175, go_sem, k2, k3, k4], .inl ⟨he, _, rfl, k5, k6⟩⟩
  case stop =>
    rintro D c pre W hD hpre ⟨⟨rfl, init, last, hp, h1, h2, c0, c1, c2⟩, hB⟩ hK
    gi_wp2
    have hq := grownBy_putObj' W D (.deferred none)
    have k2 := (c0.kept hq (by simp; omega)).cell
    have k3 := (c1.kept hq (by simp; omega)).cell
    have k4 := (c2.kept hq (by simp; omega)).cell
    refine ⟨by simp, .inl ⟨_, _, rfl, run_takeDeferred hK, ?_⟩⟩
    exact ⟨.tuple #[.slice none 0 0, .int .i64 last.at_, .int .i64 last.err], by simp [results, Tryz.results175, go_sem, k2, k3, k4],
      .inr ⟨init, last, by rw [← hp]; exact hpre, h1, h2, rfl, hB.trans ⟨rfl, rfl, rfl, by simp, fun j hj => World.putObj_heap_other (by omega)⟩⟩⟩

end Go.Proofs.YthjfdfdgbpbanaaGreatDoor
