/- The iterator of package lexer: which tokens it yields, for whatever the contracts of skip and next are. -/
import Derived.Test.YthjfdfdgbpbanaaGreatDoorA14
import Derived.RangeFuncNested
import Derived.RangeFuncBound
import Derived.RangeFuncCalls
import Derived.RangeFuncLeaves
import Derived.Shelf.Abstract
import Derived.Shelf.RegionOpen
import Derived.OwnWalkIn
import Derived.TacticsInMore
import Derived.LoopNIn
import Derived.LoopIn
namespace Go.Proofs.YthjfdfdgbpbanaaGreatDoor
open Go.RowKit Go.Shelf
attribute [local go_sem] Oper.semAt_some

/-- A token, and the error that is yielded with it. -/
structure Tok where
  kind : Int
  text : ByteArray
  num : Int
  at_ : Int
  err : Int

def Tok.val (t : Tok) : Value := .agg #[.int .i64 t.kind, .string t.text, .int .i64 t.num, .int .i64 t.at_]
abbrev tokEncs (t : Tok) : Array Value := #[.agg #[.int .i64 t.kind, .string t.text, .int .i64 t.num, .int .i64 t.at_], .int .i64 t.err]

/-- What the iterator yields from offset p on. -/
inductive Lx (S : Nat → Nat) (N : Nat → Tok) (size : Nat) : Nat → List Tok → Prop
  | done (p : Nat) (h : size ≤ p) : Lx S N size p []
  | err (p : Nat) (h : p < size) (he : (N p).err ≠ 0) : Lx S N size p [N p]
  | step (p : Nat) (rest : List Tok) (h : p < size) (he : (N p).err = 0) (hp : p < S (p + (N p).text.size)) (hr : Lx S N size (S (p + (N p).text.size)) rest) : Lx S N size p (N p :: rest)

/-- The contracts of skip and next on a text. -/
def SkipOk (s : ByteArray) (S : Nat → Nat) : Prop := ∀ (p : Nat) (w : World), p ≤ s.size → Tab w → Calls Tryz.prog 187 #[.string s, .int .i64 p] w fun e w' => e = .returned (.int .i64 (S p)) ∧ w = w'
def NextOk (s : ByteArray) (N : Nat → Tok) : Prop := ∀ (p : Nat) (w : World), p < s.size → Tab w → Calls Tryz.prog 188 #[.string s, .int .i64 p] w fun e w' => e = .returned (.tuple #[(N p).val, .int .i64 (N p).err]) ∧ Below w.heap.size w w'

/-- The slice in box Bt points into memory that is there. -/
def Gd (Bt : Nat) (W : World) : Prop := ∃ v, W.cell? ⟨Bt, 0, none⟩ = some v ∧ ∀ g, v.ownBlock = some g → g < W.heap.size
/-- Block g holds cells, and is neither box Bt nor what the slice in it points to. -/
def Prot (Bt : Nat) (W : World) (g : Nat) : Prop := (∃ cs t fr, W.heap[g]? = some (.cells cs t fr)) ∧ g ≠ Bt ∧ ∀ v, W.cell? ⟨Bt, 0, none⟩ = some v → v.ownBlock ≠ some g
/-- What a round that goes on keeps. -/
def KpT (n₀ n₁ Bt : Nat) (W W' : World) : Prop :=
  Below n₀ W W' ∧ (Gd Bt W → Gd Bt W' ∧ ∀ g, n₁ ≤ g → Prot Bt W g → W'.heap[g]? = W.heap[g]? ∧ Prot Bt W' g)
theorem KpT.trans {n₀ n₁ Bt : Nat} {A B C : World} (h : KpT n₀ n₁ Bt A B) (k : KpT n₀ n₁ Bt B C) : KpT n₀ n₁ Bt A C :=
  ⟨h.1.trans k.1, fun hG => by
    obtain ⟨g1, p1⟩ := h.2 hG
    obtain ⟨g2, p2⟩ := k.2 g1
    exact ⟨g2, fun g hg hp => by
      obtain ⟨e1, q1⟩ := p1 g hg hp
      obtain ⟨e2, q2⟩ := p2 g hg q1
      exact ⟨e2.trans e1, q2⟩⟩⟩
theorem Gd.lt {Bt : Nat} {W : World} (h : Gd Bt W) : Bt < W.heap.size := by
  obtain ⟨v, hv, _⟩ := h
  rcases Nat.lt_or_ge Bt W.heap.size with h | h
  · exact h
  · simp [World.cell?, Array.getElem?_eq_none h] at hv
/-- New blocks alone. -/
theorem Gd.grow {Bt : Nat} {W W' : World} (h : Gd Bt W) (hb : Below W.heap.size W W') : Gd Bt W' := by
  have hlt := h.lt
  obtain ⟨v, hv, hg⟩ := h
  exact ⟨v, (hb.cell (p := ⟨Bt, 0, none⟩) hlt).trans hv, fun g e => Nat.lt_of_lt_of_le (hg g e) hb.size⟩
theorem KpT.grow {n₀ n₁ Bt : Nat} {W W' : World} (hb : Below W.heap.size W W') (hn : n₀ ≤ W.heap.size) : KpT n₀ n₁ Bt W W' :=
  ⟨hb.mono hn, fun hG => ⟨hG.grow hb, fun g _ hp => by
    obtain ⟨⟨cs, t, fr, hc⟩, hne, hv⟩ := hp
    have hlt : g < W.heap.size := (Array.getElem?_eq_some_iff.1 hc).1
    have he := hb.block g hlt
    exact ⟨he, ⟨cs, t, fr, he.trans hc⟩, hne, fun v hv' => hv v ((hb.cell (p := ⟨Bt, 0, none⟩) hG.lt).symm.trans hv')⟩⟩⟩
theorem KpT.put {n₀ n₁ Bt N : Nat} (hn : n₀ ≤ N) (hB : Bt < N) (W : World) (l : Nat) (o o' : Obj) (hl : N ≤ l) (ho : W.heap[l]? = some o) (hc : o.isCells = false) : KpT n₀ n₁ Bt W (W.putObj l o') := by
  have hcell : (W.putObj l o').cell? ⟨Bt, 0, none⟩ = W.cell? ⟨Bt, 0, none⟩ := World.cell?_of_block (World.putObj_heap_other (by show Bt ≠ l; omega))
  refine ⟨⟨rfl, rfl, rfl, by simp, fun k hk => World.putObj_heap_other (by omega)⟩, fun hG => ⟨?_, fun g _ hp => ?_⟩⟩
  · obtain ⟨v, hv, hg⟩ := hG
    exact ⟨v, hcell.trans hv, fun g e => by simpa using hg g e⟩
  · obtain ⟨⟨cs, t, fr, hcs⟩, hne, hv⟩ := hp
    have hgl : g ≠ l := by
      rintro rfl
      rw [ho] at hcs
      cases hcs
      cases hc
    have he : (W.putObj l o').heap[g]? = W.heap[g]? := World.putObj_heap_other hgl
    exact ⟨he, ⟨cs, t, fr, he.trans hcs⟩, hne, fun v hv' => hv v (hcell.symm.trans hv')⟩
/-- A new block of cells is protected. -/
theorem Prot.new {Bt : Nat} {W : World} (h : Gd Bt W) (cs : Array Value) (t : TypeId) : Prot Bt (W.alloc (.cells cs t)) W.heap.size := by
  refine ⟨⟨cs, t, (0, 0), World.alloc_heap_new W _⟩, by have := h.lt; omega, fun v hv e => ?_⟩
  obtain ⟨v0, hv0, hg⟩ := h
  have hlt : Bt < W.heap.size := Gd.lt ⟨v0, hv0, hg⟩
  have : (W.alloc (.cells cs t)).cell? ⟨Bt, 0, none⟩ = W.cell? ⟨Bt, 0, none⟩ := World.cell?_alloc_lt W _ _ hlt
  rw [this, hv0] at hv
  cases hv
  have := hg _ e
  omega

set_option maxRecDepth 100000 in
set_option maxHeartbeats 1000000 in
theorem iter_in (s : ByteArray) (hs : s.size ≤ 8192) (S : Nat → Nat) (N : Nat → Tok) (hS : SkipOk s S) (hN : NextOk s N) (hSle : ∀ p, S p ≤ s.size) (hNle : ∀ p, p < s.size → p + (N p).text.size ≤ s.size)
    (n : Nat) (l Bn n₀ n₁ Bt : Nat) (hBn : n₁ ≤ Bn) (h3 : 1 ≤ n₀) (xs : List Tok) (hx : Lx S N s.size (S 0) xs) (J Jx : List Tok → World → Prop) (B : Nat) (hJ : AbidesFrom B J)
    (hY : ∀ pre x W, J pre W → pre.length < xs.length → YieldAt Fence.wide (n - 1) Tryz.prog l (tokEncs x) W fun e W' =>
      (e = .returned (.bool true) ∧ J (pre ++ [x]) W' ∧ KpT n₀ n₁ Bt W W') ∨ (e = .returned (.bool false) ∧ Jx (pre ++ [x]) W'))
    (W : World) (hn0 : n₀ ≤ W.heap.size) (hn1 : n₁ ≤ W.heap.size) (hG : Gd Bt W) (hPB : Prot Bt W Bn) (hT : Tab W) (hc : W.cell? ⟨Bn, 0, none⟩ = some (.string s)) (h0 : J [] W) :
    CallsIn Fence.wide n Tryz.prog 186 #[.func (.yield l) #[] #[], .pointer (some ⟨Bn, 0, none⟩)] W fun e W' => (∃ v, e = .returned v) ∧
      ((∃ ys, ys = xs ∧ J ys W') ∨ (∃ pre, pre <+: xs ∧ Jx pre W')) := by
  refine callsIn_of_wp Tryz.func186 rfl trivial ?_ rfl
  simp only [Tryz.ntmps186, List.size_toArray, List.length_cons, List.length_nil, Nat.reduceAdd, Nat.reduceSub, Array.replicate_succ, Array.replicate_zero, List.push_toArray, List.append_toArray, List.nil_append, List.cons_append]
  have HS := Lib.hid hS
  have HN := Lib.hid hN
  have HY := Lib.hid hY
  have HT := Lib.hid hT
  clear hS hN hY hT
  gi_wp2_with fail
  refine ⟨trivial, (fun h => by cases h), (callsIn_wide.2 (HS.out 0 W (Nat.zero_le _) HT.out)).mono ?_⟩
  rintro e w' ⟨rfl, rfl⟩
  gi_wp2_with fail
  gi_loopw [3] (fun p wr => ∃ (pre rest : List Tok) (q : Nat), p = .int .i64 q ∧ q ≤ s.size ∧ xs = pre ++ rest ∧ Lx S N s.size q rest ∧ J pre wr ∧ Below n₀ W wr ∧ Gd Bt wr ∧ Prot Bt wr Bn ∧ wr.heap[Bn]? = W.heap[Bn]?)
    (fun p _ => s.size - (intOf p).toNat)
  case atStart => exact ⟨[], xs, S 0, rfl, hSle 0, rfl, hx, h0, Below.refl _ _, hG, hPB, rfl⟩
  case round =>
    obtain ⟨pre, rest, q, rfl, hq, hxs, hl, hJs, hb, hGr, hPr, hsame⟩ := hrel
    have Hxs := Lib.hid hxs
    clear hxs
    have hcw : wr.cell? ⟨Bn, 0, none⟩ = some (.string s) := (World.cell?_of_block (w := W) (a := ⟨Bn, 0, none⟩) hsame).trans hc
    have HPr := Lib.hid hPr
    have Hsame := Lib.hid hsame
    clear hPr hsame
    have HTw := Lib.hid (HT.out.below hb h3)
    by_cases hlt : q < s.size
    · gi_wp2_with fail
      refine ⟨trivial, (fun h => by cases h), (callsIn_wide.2 (HN.out q wr hlt HTw.out)).mono ?_⟩
      rintro e w1 ⟨rfl, hb1⟩
      obtain ⟨t, ht⟩ : ∃ t, t = N q := ⟨_, rfl⟩
      have hle : q + t.text.size ≤ s.size := by rw [ht]; exact hNle q hlt
      have hlen : pre.length < xs.length := by
        rw [Hxs.out]
        cases hl with
        | done _ h => omega
        | err _ h => simp
        | step _ _ h => simp
      have hJ1 : J pre (w1.alloc (.cells #[.int .i64 t.kind, .string t.text, .int .i64 t.num, .int .i64 t.at_] 223)) :=
        hJ pre wr _ none hJs ⟨hb1.os, hb1.tape, hb1.output, Nat.le_trans hb1.size (by simp), fun i hi _ => (Below.heap_alloc _ _ _ (Nat.lt_of_lt_of_le hi hb1.size)).trans (hb1.block i hi)⟩ (fun r e => by cases e)
      have hG1 : Gd Bt w1 := hGr.grow hb1
      have hP1 := Prot.new hG1 #[.int .i64 t.kind, .string t.text, .int .i64 t.num, .int .i64 t.at_] 223
      have hG2 : Gd Bt (w1.alloc (.cells #[.int .i64 t.kind, .string t.text, .int .i64 t.num, .int .i64 t.at_] 223)) := hG1.grow ((Below.refl _ _).alloc (Nat.le_refl _) _)
      obtain ⟨fn, tmps, assign, body, hy, hR⟩ := HY.out pre t _ hJ1 hlen
      have HR := Lib.hid hR
      have Ht := Lib.hid ht
      have hsz1 := hb1.size
      have hszr := hb.size
      rw [← ht]
      have Hl := Lib.hid hl
      have HP1 := Lib.hid hP1
      have HG2 := Lib.hid hG2
      clear hR ht hl hP1 hG2 hG1 hJ1
      unfold Tok.val
      obtain ⟨kd, tx, nu, at_, er⟩ := t
      dsimp only at *
      gi_wp2
      refine ⟨(fun h => by cases h), HR.out.mono ?_⟩
      rintro e W3 (⟨rfl, hJ3, hk3⟩ | ⟨rfl, hJx3⟩)
      · obtain ⟨hk0, hk4⟩ := hk3
        obtain ⟨hG3, hpr⟩ := hk4 HG2.out
        have hbox := (hpr _ (by omega) HP1.out).1
        have hct : W3.cell? ⟨w1.heap.size, 1, none⟩ = some (.string tx) := (World.cell?_of_block (w := w1.alloc (.cells #[.int .i64 kd, .string tx, .int .i64 nu, .int .i64 at_] 223)) hbox).trans (by simp)
        have hb3 : Below n₀ wr W3 := ((hb1.mono (by omega)).alloc (by omega) _).trans hk0
        have hKg : KpT n₀ n₁ Bt wr (w1.alloc (.cells #[.int .i64 kd, .string tx, .int .i64 nu, .int .i64 at_] 223)) :=
          KpT.grow ((hb1.alloc hsz1 _)) (by omega)
        obtain ⟨es1, ps1⟩ := (hKg.2 hGr).2 Bn hBn HPr.out
        obtain ⟨es2, ps2⟩ := hpr Bn hBn ps1
        have Hsame3 := Lib.hid ((es2.trans es1).trans Hsame.out)
        have HPr3 := Lib.hid ps2
        have hcs : W3.cell? ⟨Bn, 0, none⟩ = some (.string s) := (World.cell?_of_block (w := W) (a := ⟨Bn, 0, none⟩) Hsame3.out).trans hc
        clear es1 ps1 es2 ps2 hKg
        have HT3 := Lib.hid (HTw.out.below hb3 h3)
        clear hbox hpr hk4 hy HR HP1 HG2
        by_cases her : er = 0
        · have hstep : ∃ rest', rest = (⟨kd, tx, nu, at_, er⟩ : Tok) :: rest' ∧ q < S (q + tx.size) ∧ Lx S N s.size (S (q + tx.size)) rest' := by
            have hNq := Ht.out
            cases Hl.out with
            | done _ h => omega
            | err _ h he => rw [← hNq] at he; exact absurd her he
            | step _ r h he hp hr => rw [← hNq] at hp hr ⊢; exact ⟨r, rfl, hp, hr⟩
          obtain ⟨rest', rfl, hp', hr'⟩ := hstep
          subst her
          have HJ3 := Lib.hid hJ3
          clear hJ3 hJs Hl Ht
          gi_wp2_with fail
          refine ⟨trivial, (fun h => by cases h), (callsIn_wide.2 (HS.out (q + tx.size) W3 hle HT3.out)).mono ?_⟩
          rintro e w' ⟨rfl, rfl⟩
          gi_wp2_with fail
          go_roundw
          case rel => exact ⟨pre ++ [⟨kd, tx, nu, at_, 0⟩], rest', S (q + tx.size), rfl, hSle _, by rw [Hxs.out]; simp, hr', HJ3.out, hb.trans hb3, hG3, HPr3.out, Hsame3.out⟩
          case measure => have := hSle (q + tx.size); simp [intOf]; omega
        · have hone : rest = [(⟨kd, tx, nu, at_, er⟩ : Tok)] := by
            have hNq := Ht.out
            cases Hl.out with
            | done _ h => omega
            | err _ h he => rw [← hNq]
            | step _ r h he hp hr => rw [← hNq] at he; exact absurd he her
          have Hone := Lib.hid hone
          have her2 : (er != 0) = true := by simpa using her
          have HJ3 := Lib.hid hJ3
          clear hJ3 hJs Hl Ht hone her
          gi_wp2
          refine bodyPost_ret (results_none rfl _ _ _) rfl ?_
          exact ⟨⟨_, rfl⟩, .inl ⟨_, by rw [Hxs.out, Hone.out], HJ3.out⟩⟩
      · have hpre : pre ++ [(⟨kd, tx, nu, at_, er⟩ : Tok)] <+: xs := by
          have hNq := Ht.out
          rw [Hxs.out]
          cases Hl.out with
          | done _ h => omega
          | err _ h he => rw [← hNq]; exact List.prefix_refl _
          | step _ r h he hp hr => rw [← hNq]; exact ⟨r, by simp⟩
        have Hpre := Lib.hid hpre
        have HJx := Lib.hid hJx3
        clear hpre hJx3
        gi_wp2
        refine bodyPost_ret (results_none rfl _ _ _) rfl ?_
        exact ⟨⟨_, rfl⟩, .inr ⟨_, Hpre.out, HJx.out⟩⟩
    · obtain rfl : rest = [] := by
        cases hl with
        | done _ h => rfl
        | err _ h => omega
        | step _ _ h => omega
      gi_wp2
      go_end0
      exact ⟨⟨_, rfl⟩, .inl ⟨pre, by rw [Hxs.out]; simp, hJs⟩⟩

theorem iter_stops (s : ByteArray) (hs : s.size ≤ 8192) (S : Nat → Nat) (N : Nat → Tok) (hS : SkipOk s S) (hN : NextOk s N) (hSle : ∀ p, S p ≤ s.size) (hNle : ∀ p, p < s.size → p + (N p).text.size ≤ s.size)
    (n : Nat) (Bn n₀ n₁ Bt : Nat) (hBn : n₁ ≤ Bn) (h3 : 1 ≤ n₀) (xs : List Tok) (hx : Lx S N s.size (S 0) xs)
    (w : World) (hn0 : n₀ ≤ w.heap.size) (hn1 : n₁ ≤ w.heap.size) (hG : Gd Bt w) (hPB : Prot Bt w Bn) (hT : Tab w) (hc : w.cell? ⟨Bn, 0, none⟩ = some (.string s)) :
    SeqStopsK Fence.wide n Tryz.prog 186 #[.pointer (some ⟨Bn, 0, none⟩)] tokEncs (KpT n₀ n₁ Bt) (fun ys => ys = xs) (fun pre => pre <+: xs) xs.length w := fun l J Jx W hW hJ _ hY h0 =>
  iter_in s hs S N hS hN hSle hNle n l Bn n₀ n₁ Bt hBn h3 xs hx J Jx W.heap.size hJ hY W (Nat.le_trans hn0 hW.size) (Nat.le_trans hn1 hW.size) (hG.grow hW) (((KpT.grow (n₀ := n₀) (n₁ := n₁) hW hn0).2 hG).2 Bn hBn hPB).2
    (hT.below hW (by omega)) ((World.cell?_of_block (w := w) (a := ⟨Bn, 0, none⟩) (((KpT.grow (n₀ := n₀) (n₁ := n₁) hW hn0).2 hG).2 Bn hBn hPB).1).trans hc) h0

end Go.Proofs.YthjfdfdgbpbanaaGreatDoor
