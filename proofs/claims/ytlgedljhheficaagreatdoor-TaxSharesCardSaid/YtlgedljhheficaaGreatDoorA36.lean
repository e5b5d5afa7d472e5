/- The contract of bracketsBent. -/
import Derived.Test.YtlgedljhheficaaGreatDoorA35
import Derived.Test.YtlgedljhheficaaGreatDoorA32
import Derived.Maps.AppendAt
namespace Go.Proofs.YtlgedljhheficaaGreatDoor
open Go.RowKit

def stall : ByteArray := ⟨#[115, 116, 97, 108, 108]⟩
def big : ByteArray := ⟨#[66, 105, 103]⟩
def noName : ByteArray := ⟨#[]⟩
/-- The names of the taxes that are made. -/
def Nm (s : ByteArray) : Prop := s = sale ∨ s = stall ∨ s = noName ∨ s = big
theorem plain_stall : PlainName stall := by
  refine plain_of_letters stall (by decide) fun i hi => ?_
  rw [show stall.size = 5 from rfl] at hi
  rcases (show i = 0 ∨ i = 1 ∨ i = 2 ∨ i = 3 ∨ i = 4 by omega) with rfl | rfl | rfl | rfl | rfl <;> decide +kernel
theorem plain_noName : PlainName noName := ⟨by decide, fun p hp => by rw [show noName.size = 0 from rfl] at hp; omega⟩
theorem plain_big : PlainName big := by
  refine ⟨by decide, fun p hp => ?_⟩
  rw [show big.size = 3 from rfl] at hp ⊢
  have k1 : kindAt big 1 = 3 := by decide +kernel
  have k2 : kindAt big 2 = 3 := by decide +kernel
  rcases (show p = 0 ∨ p = 1 ∨ p = 2 by omega) with rfl | rfl | rfl
  · exact .inr (by decide +kernel)
  · refine .inl ⟨k1, fun i h1 h2 => ?_⟩
    rcases (show i = 1 ∨ i = 2 by omega) with rfl | rfl
    · rw [k1]; rfl
    · rw [k2]; rfl
  · refine .inl ⟨k2, fun i h1 h2 => ?_⟩
    obtain rfl : i = 2 := by omega
    rw [k2]; rfl
theorem Nm.plain {s : ByteArray} (h : Nm s) : PlainName s := by
  rcases h with rfl | rfl | rfl | rfl
  · exact plain_sale
  · exact plain_stall
  · exact plain_noName
  · exact plain_big

theorem own_take {w : World} {base g cap n k : Nat} {brs : List (Int × Int)} (h : w.ownsRow base 65 2 (.slice (some ⟨g, 0, none⟩) n cap) n (bcells brs)) (hn : n = brs.length) (hk : k ≤ n) :
    w.ownsRow base 65 2 (.slice (some ⟨g, 0, none⟩) k cap) k (bcells (brs.take k)) := by
  have hl := h.1
  have hbt : bcells (brs.take k) = (bcells brs).take (k * 2) := by
    clear h hl hn hk
    induction brs generalizing k with
    | nil => simp [bcells]
    | cons x r ih =>
      cases k with
      | zero => simp [bcells]
      | succ k =>
        have e : (k + 1) * 2 = k * 2 + 1 + 1 := by omega
        rw [e]
        have := ih (k := k)
        simp only [bcells, List.take_succ_cons, List.flatMap_cons, List.cons_append, List.nil_append] at this ⊢
        rw [this]
  refine ⟨by rw [bcells_length, List.length_take]; omega, ?_⟩
  rcases h.2 with ⟨h0, _⟩ | ⟨g', cap', cur, hv, hb, hg, hc, hm, hs, ht⟩
  · cases h0
  · right
    obtain ⟨rfl, rfl⟩ : g = g' ∧ cap = cap' := by simpa using hv
    refine ⟨g, cap, cur, rfl, hb, hg, by omega, hm, hs, ?_⟩
    rw [hbt, ← ht, List.take_take]
    congr 1
    omega

/-- What bracketsBent leaves. -/
def BrPost (w : World) (gg b : Nat) (e : Ending) (w' : World) : Prop :=
  ∃ nm A n c brs, e = .returned (.agg #[.string nm, .slice A n c]) ∧ Nm nm ∧ Row w' w'.heap.size A (bcells brs) ∧ n = brs.length ∧ n ≤ 100 ∧ w.grownBy w' (some gg) ∧ ∀ k o, A = some ⟨k, o, none⟩ → k = b ∨ w.heap.size ≤ k

theorem grown_past {w W : World} {gg : Nat} {p : Addr} (h : w.grownBy W (some gg)) (hp : w.heap.size ≤ p.block) (u : Value) : w.grownBy (W.setCell p u) (some gg) :=
  ⟨h.os, h.tape, h.output, by have := h.size; simpa [World.setCell] using this, fun i hi hne => (Below.heap_setCell _ _ _ _ (by omega)).trans (h.block i hi hne)⟩

/-- What lies in memory in bracketsBent: w is the world at its call. -/
structure BrS (w W : World) (gg : Nat) (nb : ByteArray) (vb : Value) (v : Value) (m : Nat) (l : List (Int × Int)) (A : Option Addr) (na ca : Nat) (zs : List Int) (i : Int) : Prop where
  box : Bk W w.heap.size 25 [.string nb, vb]
  res : Bk W (w.heap.size + 1) 25 [.string ⟨#[]⟩, .slice none 0 0]
  own : W.ownsRow w.heap.size 65 2 v m (bcells l)
  len : m = l.length
  gen : GAt W gg A na ca zs i
  gr : w.grownBy W (some gg)
  lt : gg < w.heap.size
  far : ∀ b off, A = some ⟨b, off, none⟩ → b < w.heap.size
section
variable {w W W' : World} {gg : Nat} {nb : ByteArray} {vb : Value} {v v' : Value} {m : Nat} {l : List (Int × Int)} {A : Option Addr} {na ca : Nat} {zs : List Int} {i i' : Int}
theorem BrS.next (h : BrS w W gg nb vb v m l A na ca zs i) (hG : GAt W' gg A na ca zs i') (hg : W.grownBy W' (some gg)) : BrS w W' gg nb vb v m l A na ca zs i' := by
  have hlt := h.lt
  refine ⟨h.box.grown hg (fun e => by have := Option.some.inj e; omega), h.res.grown hg (fun e => by have := Option.some.inj e; omega), h.own.kept hg (.inr (fun e => by have := row_base h.own _ e; omega)), h.len, hG, grown_trans h.gr hg, hlt, h.far⟩
theorem BrS.below (h : BrS w W gg nb vb v m l A na ca zs i) (hb : Below W.heap.size W W') : BrS w W' gg nb vb v m l A na ca zs i :=
  h.next (h.gen.below hb) (grown_of_below hb _)
theorem BrS.grew {l' : List (Int × Int)} {m' : Nat} (h : BrS w W gg nb vb v m l A na ca zs i) (hown : W'.ownsRow w.heap.size 65 2 v' m' (bcells l')) (hm : m' = l'.length) (hg : W.grownBy W' v.ownBlock) : BrS w W' gg nb vb v' m' l' A na ca zs i := by
  have hlt := h.lt
  have nb1 := row_ne h.own h.box (by decide)
  have nr1 := row_ne h.own h.res (by decide)
  have hbase := row_base h.own
  have hng : v.ownBlock ≠ some gg := fun e => by have := hbase _ e; omega
  refine ⟨h.box.grown hg (fun e => nb1 e.symm), h.res.grown hg (fun e => nr1 e.symm), hown, hm, ?_, ?_, hlt, h.far⟩
  · refine ⟨h.gen.bk.grown hg (fun e => hng e.symm), ⟨?_, h.gen.l.len, h.gen.l.wf⟩, h.gen.far, h.gen.i0, h.gen.i1⟩
    rcases h.gen.l.row with h0 | ⟨b, off, hA, hb, hc⟩
    · exact .inl h0
    · have hbl := h.far b off hA
      refine .inr ⟨b, off, hA, Nat.lt_of_lt_of_le hb hg.size, fun j u hu => (World.cell?_of_block (w := W) (hg.block b hb (fun e => ?_))).trans (hc j u hu)⟩
      have := hbase b e.symm
      omega
  · refine ⟨hg.os.trans h.gr.os, hg.tape.trans h.gr.tape, hg.output.trans h.gr.output, Nat.le_trans h.gr.size hg.size, fun k hk hne => (hg.block k (Nat.lt_of_lt_of_le hk h.gr.size) (fun e => ?_)).trans (h.gr.block k hk hne)⟩
    have := hbase k e.symm
    omega
theorem BrS.set (h : BrS w W gg nb vb v m l A na ca zs i) {nb' : ByteArray} {vb' : Value} (k : Nat) (u : Value) (hset : [Value.string nb, vb].set k u = [.string nb', vb']) : BrS w (W.setCell ⟨w.heap.size, k, none⟩ u) gg nb' vb' v m l A na ca zs i := by
  have hlt := h.lt
  have hgs := grown_set W w.heap.size k u
  refine ⟨by rw [← hset]; exact h.box.set k u, h.res.far (by simp) _, h.own.kept hgs (.inr (row_ne h.own h.box (by decide))), h.len, h.gen.keep hgs (by omega) (fun b' off e => by have := h.far b' off e; omega), grown_past h.gr (by simp) _, hlt, h.far⟩
/-- The result is laid: an old row, or the list. -/
theorem BrS.old (h : BrS w W gg nb vb v m l A na ca zs i) (hnm : Nm nb) {b off n c : Nat} {brs : List (Int × Int)} (hvb : vb = .slice (some ⟨b, off, none⟩) n c) (hb : b < w.heap.size) (hne : b ≠ gg) (hn : n = brs.length) (h6 : n ≤ 100)
    (hc : ∀ j u, (bcells brs)[j]? = some u → w.cell? ⟨b, off + j, none⟩ = some u) :
    BrPost w gg b (.returned (.agg #[.string nb, vb])) ((W.setCell ⟨w.heap.size + 1, 0, none⟩ (.string nb)).setCell ⟨w.heap.size + 1, 1, none⟩ vb) := by
  have hg := grown_past (grown_past h.gr (p := ⟨w.heap.size + 1, 0, none⟩) (by simp) (.string nb)) (p := ⟨w.heap.size + 1, 1, none⟩) (by simp) vb
  refine ⟨nb, _, n, c, brs, by rw [hvb], hnm, .inr ⟨b, off, rfl, Nat.lt_of_lt_of_le hb hg.size, fun j u hu => ?_⟩, hn, h6, hg, fun k o e => .inl (by cases e; rfl)⟩
  exact (World.cell?_of_block (w := w) (hg.block b hb (fun e => hne (Option.some.inj e)))).trans (hc j u hu)
theorem BrS.list (h : BrS w W gg nb v v m l A na ca zs i) (hnm : Nm nb) (hm : m ≤ 100) {B : Option Addr} {c : Nat} (b : Nat) (hv : v = .slice B m c) :
    BrPost w gg b (.returned (.agg #[.string nb, v])) ((W.setCell ⟨w.heap.size + 1, 0, none⟩ (.string nb)).setCell ⟨w.heap.size + 1, 1, none⟩ v) := by
  have hg := grown_past (grown_past h.gr (p := ⟨w.heap.size + 1, 0, none⟩) (by simp) (.string nb)) (p := ⟨w.heap.size + 1, 1, none⟩) (by simp) v
  have k1 := h.own.kept (grown_set W (w.heap.size + 1) 0 (.string nb)) (.inr (row_ne h.own h.res (by decide)))
  have r1 := h.res.set 0 (.string nb)
  have k2 := k1.kept (grown_set (W.setCell ⟨w.heap.size + 1, 0, none⟩ (.string nb)) (w.heap.size + 1) 1 v) (.inr (row_ne k1 r1 (by decide)))
  obtain ⟨B', c', hv', hrow⟩ := row_of_owns k2
  rw [hv] at hv'
  obtain ⟨rfl, rfl⟩ : B = B' ∧ c = c' := by simpa using hv'
  exact ⟨nb, _, m, _, l, by rw [hv], hnm, hrow, h.len, hm, hg, fun k o e => .inr (row_base h.own k (by rw [hv, e]; rfl))⟩
theorem BrS.read (h : BrS w W gg nb vb v m l A na ca zs i) : ((W.setCell ⟨w.heap.size + 1, 0, none⟩ (.string nb)).setCell ⟨w.heap.size + 1, 1, none⟩ vb).heap[w.heap.size + 1]? = some (.cells #[.string nb, vb] 25 (0, 0)) := (h.res.set 0 _).set 1 _
end

abbrev four : Array Value := #[.string ⟨#[115, 97, 108, 101]⟩, .string ⟨#[115, 116, 97, 108, 108]⟩, .string ⟨#[]⟩, .string ⟨#[66, 105, 103]⟩]
theorem four_at (j : Nat) (h : j < 4) : ∃ s, four[j]? = some (.string s) ∧ Nm s := by
  rcases (show j = 0 ∨ j = 1 ∨ j = 2 ∨ j = 3 by omega) with rfl | rfl | rfl | rfl
  · exact ⟨_, rfl, .inl rfl⟩
  · exact ⟨_, rfl, .inr (.inl rfl)⟩
  · exact ⟨_, rfl, .inr (.inr (.inl rfl))⟩
  · exact ⟨_, rfl, .inr (.inr (.inr rfl))⟩

set_option maxRecDepth 100000 in
set_option maxHeartbeats 2000000 in
theorem brackets_bent {w : World} {nm : ByteArray} {b off n : Nat} (c : Nat) {brs : List (Int × Int)} {gg : Nat} {A : Option Addr} {na ca : Nat} {zs : List Int} {i : Int}
    (hc : ∀ j u, (bcells brs)[j]? = some u → w.cell? ⟨b, off + j, none⟩ = some u) (hb : b < w.heap.size) (hne : b ≠ gg) (hn : n = brs.length) (h1 : 1 ≤ n) (h6 : n ≤ 6) (hnm : Nm nm) (hG : GAt w gg A na ca zs i) (hi : i ≤ 900) (hfar : ∀ b' off', A = some ⟨b', off', none⟩ → b' < w.heap.size) :
    Calls Tryz.prog 52 #[.agg #[.string nm, .slice (some ⟨b, off, none⟩) n c], .pointer (some ⟨gg, 0, none⟩)] w (BrPost w gg b) := by
  obtain ⟨i0, hinf, hz0, hz1, hz2⟩ := info_parts info65
  have hlen := bcells_length brs
  rw [← hn] at hlen
  have hgg := hG.bk.lt
  have HC := Lib.hid hc
  have HN := Lib.hid hn
  have HG := Lib.hid hG
  clear hc hn hG
  go_enter Tryz.func52, Tryz.ntmps52
  go_wp2_with (at_builtin; refine wpList_append_own_at _ rfl _ _ 23 rfl w.heap.size 65 i0 (.agg #[.int .i64 0, .int .i64 0]) 2 16 Tryz.underlying23 hinf hz0 hz1 hz2 rfl (by decide) _ 0 [] rfl (World.ownsRow_nil _ _ _ _) ⟨b, off, none⟩ n c (bcells brs) rfl hlen ?c1a ?c2a ?c3a ?c4a ?c5a ?_)
  case c1a =>
    intro j u hj
    have e1 : (⟨b, off, none⟩ : Addr).add j = ⟨b, off + j, none⟩ := by
      unfold Addr.add; split
      · subst_vars; rfl
      · rfl
    rw [e1, World.cell?_alloc_past _ _ _ (by simp; omega), World.cell?_alloc_past _ _ _ hb]
    exact HC.out j u hj
  case c2a =>
    intro u hu
    obtain ⟨x, rfl⟩ := bcells_int brs u hu
    rfl
  case c3a => unfold maxLen; omega
  case c4a => omega
  case c5a => simp; omega
  intro v' w1 hown' hgrow _ _
  have hb01 : Below w.heap.size w w1 := (((Below.refl _ w).alloc (Nat.le_refl _) _).alloc (by simp) _).grown hgrow (by simp; omega) (fun k e => by cases e)
  have kb := ((Bk.new w 25 [.string nm, .slice (some ⟨b, off, none⟩) n c]).alloc (.cells #[.string ⟨#[]⟩, .slice none 0 0] 25)).grown hgrow (by simp [Value.ownBlock])
  have kr := Bk.new (w.alloc (.cells #[.string nm, .slice (some ⟨b, off, none⟩) n c] 25)) 25 [.string ⟨#[]⟩, .slice none 0 0]
  rw [World.size_alloc] at kr
  have kr := kr.grown hgrow (by simp [Value.ownBlock])
  have hS0 : BrS w w1 gg nm (.slice (some ⟨b, off, none⟩) n c) v' n brs A na ca zs i :=
    ⟨kb, kr, hown', HN.out, HG.out.below hb01, grown_of_below hb01 _, hgg, hfar⟩
  have hshape : ∃ g cap, v' = .slice (some ⟨g, 0, none⟩) n cap := by
    rcases hown'.2 with ⟨_, h0⟩ | ⟨g, cap, cur, hv, _⟩
    · omega
    · exact ⟨g, cap, hv⟩
  obtain ⟨g, cap, hv⟩ := hshape
  rw [hv] at hS0 ⊢
  have HS0 := Lib.hid hS0
  clear hS0 kb kr hown' hgrow hb01 HG
  have q0 := pick_lo zs i 3 (by omega)
  have q1 := pick_hi zs i 3 (by omega)
  have hi0 := HS0.out.gen.i0
  go_wp2_with fail
  (with_reducible refine (next_any 3 HS0.out.gen (by omega) (by omega) (by omega)).mono ?_)
  rintro e w2 ⟨rfl, hg2, hgr2⟩
  have HS2 := Lib.hid (HS0.out.next hg2 hgr2)
  clear HS0 hg2 hgr2
  rcases (show pick zs i 3 = 0 ∨ pick zs i 3 = 1 ∨ pick zs i 3 = 2 by omega) with hq | hq | hq
  · rw [hq]
    clear hq q0 q1
    have hb2 : Below w2.heap.size w2 (w2.alloc (.cells four 9)) := (Below.refl _ _).alloc (Nat.le_refl _) _
    have HS3 := Lib.hid (HS2.out.below hb2)
    have hlt2 : w.heap.size + 1 < w2.heap.size := HS2.out.res.lt
    have q0 := pick_lo zs (i + 1) 4 (by omega)
    have q1 := pick_hi zs (i + 1) 4 (by omega)
    obtain ⟨j, hj⟩ : ∃ j : Nat, pick zs (i + 1) 4 = j := ⟨(pick zs (i + 1) 4).toNat, by omega⟩
    have K := next_any 4 HS3.out.gen (by omega) (by omega) (by omega)
    unfold NextPost at K
    rw [hj] at K q1
    have HK := Lib.hid K
    obtain ⟨s, hs, hns⟩ := four_at j (by omega)
    have HSs := Lib.hid hs
    have Hc : Hid ((w2.alloc (.cells four 9)).heap[w2.heap.size]? = some (.cells four 9 (0, 0))) := heap_alloc_new w2 _
    clear K hj q0 hb2 hs HS2
    go_wp2_with fail
    (with_reducible refine HK.out.mono ?_)
    rintro e w3 ⟨rfl, hg3, hgr3⟩
    have hS3 := HS3.out.next hg3 hgr3
    have hc3 : w3.cell? ⟨w2.heap.size, j, none⟩ = some (.string s) := by
      have := (hgr3.block w2.heap.size (by simp) (fun e => by have := Option.some.inj e; omega)).trans Hc.out
      simp only [World.cell?, this]
      exact HSs.out
    have hs2 : w2.heap.size < w3.heap.size := by have := hgr3.size; simp at this; omega
    have b0 := hS3.box.cell 0
    have b1 : w3.cell? ⟨w.heap.size, 1, none⟩ = some (.slice (some ⟨b, off, none⟩) n c) := hS3.box.cell 1
    have fb0 := hS3.box.frozen 0
    have r0 : w3.cell? ⟨w.heap.size + 1, 0, none⟩ = some (.string ⟨#[]⟩) := hS3.res.cell 0
    have r1 : w3.cell? ⟨w.heap.size + 1, 1, none⟩ = some (.slice none 0 0) := hS3.res.cell 1
    have fr0 := hS3.res.frozen 0
    have fr1 := hS3.res.frozen 1
    have hS4 := hS3.set (nb' := s) (vb' := .slice (some ⟨b, off, none⟩) n c) 0 (.string s) rfl
    have HE := Lib.hid (hS4.old hns rfl hb hne HN.out (by omega) HC.out)
    have HR := Lib.hid hS4.read
    clear hS3 hS4 hg3 hgr3 HK HS3 Hc
    go_wp2
    have t1 := HR.out
    refine bodyPost_ret (v := .agg #[.string s, .slice (some ⟨b, off, none⟩) n c]) (by simp [results, Tryz.results52, go_sem, World.cell?, t1]) rfl HE.out
  · rw [hq]
    clear hq q0 q1
    go_wp2_with fail
    (with_reducible refine (number_any HS2.out.gen (by omega)).mono ?_)
    rintro e w3 ⟨x1, rfl, hg3, hgr3⟩
    have HS3 := Lib.hid (HS2.out.next hg3 hgr3)
    clear HS2 hg3 hgr3
    go_wp2_with fail
    (with_reducible refine (number_any HS3.out.gen (by omega)).mono ?_)
    rintro e w4 ⟨x2, rfl, hg4, hgr4⟩
    have HS4 := Lib.hid (HS3.out.next hg4 hgr4)
    clear HS3 hg4 hgr4
    have hl4 : w.heap.size + 1 < w4.heap.size := HS4.out.res.lt
    go_wp2_with (at_builtin; refine wpList_append_own_at _ rfl _ _ 23 rfl w.heap.size 65 i0 (.agg #[.int .i64 0, .int .i64 0]) 2 16 Tryz.underlying23 hinf hz0 hz1 hz2 rfl (by decide) _ n (bcells brs) rfl (HS4.out.own.alloc _) ⟨w4.heap.size, 0, none⟩ 1 1 [.int .i64 x1, .int .i64 x2] rfl rfl ?c1k ?c2k ?c3k ?c4k ?c5k ?_)
    case c1k =>
      intro j u hj
      match j, hj with
      | 0, hj => simp at hj; subst hj; simp [Addr.add]
      | 1, hj => simp at hj; subst hj; simp [Addr.add]
      | j + 2, hj => simp at hj
    case c2k =>
      intro u hu
      simp only [List.mem_cons, List.not_mem_nil, or_false] at hu
      rcases hu with rfl | rfl <;> rfl
    case c3k => unfold maxLen; omega
    case c4k => omega
    case c5k => simp; omega
    intro v5 W6 hown6 hgrow6 _ _
    have hS6 : BrS w W6 gg nm (.slice (some ⟨b, off, none⟩) n c) v5 (n + 1) (brs ++ [(x1, x2)]) A na ca zs (i + 1 + 1 + 1) := (HS4.out.below ((Below.refl _ w4).alloc (Nat.le_refl _) _)).grew (by rw [bcells_snoc]; exact hown6) (by rw [List.length_append, ← HS4.out.len]; rfl) hgrow6
    obtain ⟨B6, c6, hv6, _⟩ := row_of_owns hown6
    rw [hv6] at hS6 ⊢
    obtain ⟨m6, hm6e⟩ : ∃ m6, n + 1 = m6 := ⟨_, rfl⟩
    rw [hm6e] at hS6 ⊢
    have hm6 : m6 ≤ 100 := by omega
    clear HS4 hown6 hgrow6 hm6e
    have b0 := hS6.box.cell 0
    have b1 : W6.cell? ⟨w.heap.size, 1, none⟩ = some (.slice (some ⟨b, off, none⟩) n c) := hS6.box.cell 1
    have fb1 := hS6.box.frozen 1
    have r0 : W6.cell? ⟨w.heap.size + 1, 0, none⟩ = some (.string ⟨#[]⟩) := hS6.res.cell 0
    have r1 : W6.cell? ⟨w.heap.size + 1, 1, none⟩ = some (.slice none 0 0) := hS6.res.cell 1
    have fr0 := hS6.res.frozen 0
    have fr1 := hS6.res.frozen 1
    have hl6 := hS6.res.lt
    have hS7 := hS6.set (nb' := nm) (vb' := .slice B6 m6 c6) 1 (.slice B6 m6 c6) rfl
    have HE := Lib.hid (hS7.list hnm hm6 b rfl)
    have HR := Lib.hid hS7.read
    clear hS6 hS7
    go_wp2
    have t1 := HR.out
    refine bodyPost_ret (v := .agg #[.string nm, .slice B6 m6 c6]) (by simp [results, Tryz.results52, go_sem, World.cell?, t1]) rfl HE.out
  · rw [hq]
    clear hq q0 q1
    have q0 := pick_lo zs (i + 1) 2 (by omega)
    have q1 := pick_hi zs (i + 1) 2 (by omega)
    obtain ⟨k0, hk0⟩ : ∃ k0 : Nat, pick zs (i + 1) 2 = k0 := ⟨(pick zs (i + 1) 2).toNat, by omega⟩
    have K := next_any 2 HS2.out.gen (by omega) (by omega) (by omega)
    unfold NextPost at K
    rw [hk0] at K q1
    have HK := Lib.hid K
    clear K hk0 q0
    go_wp2_with fail
    (with_reducible refine HK.out.mono ?_)
    rintro e w3 ⟨rfl, hg3, hgr3⟩
    have hS3 := HS2.out.next hg3 hgr3
    have hS3' : BrS w w3 gg nm (.slice (some ⟨b, off, none⟩) n c) (.slice (some ⟨g, 0, none⟩) k0 cap) k0 (brs.take k0) A na ca zs (i + 1 + 1) :=
      ⟨hS3.box, hS3.res, own_take hS3.own hS3.len (by omega), by rw [List.length_take, ← HN.out]; omega, hS3.gen, hS3.gr, hS3.lt, hS3.far⟩
    have hcap : n ≤ cap := by
      rcases hS3.own.2 with ⟨h0, _⟩ | ⟨g', cap', cur, hv, _, _, hc, _⟩
      · cases h0
      · have : cap = cap' := by simpa using (Value.slice.inj hv).2.2
        omega
    have HS3 := Lib.hid hS3'
    clear HS2 hg3 hgr3 HK hS3 hS3'
    have q2 := pick_lo zs (i + 1 + 1) 20 (by omega)
    have q3 := pick_hi zs (i + 1 + 1) 20 (by omega)
    obtain ⟨k1, hk1⟩ : ∃ k1 : Nat, pick zs (i + 1 + 1) 20 = k1 := ⟨(pick zs (i + 1 + 1) 20).toNat, by omega⟩
    have K := next_any 20 HS3.out.gen (by omega) (by omega) (by omega)
    unfold NextPost at K
    rw [hk1] at K q3
    have HK := Lib.hid K
    clear K hk1 q2
    have mn : min (k0 : Int) (n : Int) = (k0 : Int) := by omega
    go_wp2_with fail
    (with_reducible refine HK.out.mono ?_)
    rintro e w4 ⟨rfl, hg4, hgr4⟩
    have HS4 := Lib.hid (HS3.out.next hg4 hgr4)
    clear HS3 hg4 hgr4 HK
    go_wp2_with fail
    go_loopw [5, 6] (fun v x wr => ∃ (k m : Nat) (l : List (Int × Int)), x = .int .i64 k ∧ m + k ≤ 30 ∧ BrS w wr gg nm (.slice (some ⟨b, off, none⟩) n c) v m l A na ca zs (i + 1 + 1 + 1)) (fun _ x _ => (intOf x).toNat)
    case atStart => exact ⟨k1, k0, _, rfl, by omega, HS4.out⟩
    case round =>
      clear HS4
      obtain ⟨k, m, l, rfl, hmk, hS⟩ := hrel
      obtain ⟨B5, c5, hv5, _⟩ := row_of_owns hS.own
      rw [hv5] at hS ⊢
      have HS5 := Lib.hid hS
      clear hS hv5
      have hl5 : w.heap.size + 1 < wr.heap.size := HS5.out.res.lt
      by_cases hk : 0 < k
      · go_wp2_with (at_builtin; refine wpList_append_own_at _ rfl _ _ 23 rfl w.heap.size 65 i0 (.agg #[.int .i64 0, .int .i64 0]) 2 16 Tryz.underlying23 hinf hz0 hz1 hz2 rfl (by decide) _ m (bcells l) rfl (HS5.out.own.alloc _) ⟨wr.heap.size, 0, none⟩ 1 1 [.int .i64 (100000 - (k : Int)), .int .i64 (k : Int)] rfl rfl ?c1r ?c2r ?c3r ?c4r ?c5r ?_)
        case c1r =>
          intro j u hj
          match j, hj with
          | 0, hj => simp at hj; subst hj; simp [Addr.add]
          | 1, hj => simp at hj; subst hj; simp [Addr.add]
          | j + 2, hj => simp at hj
        case c2r =>
          intro u hu
          simp only [List.mem_cons, List.not_mem_nil, or_false] at hu
          rcases hu with rfl | rfl <;> rfl
        case c3r => unfold maxLen; omega
        case c4r => omega
        case c5r => simp; omega
        intro v5 W6 hown6 hgrow6 _ _
        have hS6 : BrS w W6 gg nm (.slice (some ⟨b, off, none⟩) n c) v5 (m + 1) (l ++ [((100000 - (k : Int)), (k : Int))]) A na ca zs (i + 1 + 1 + 1) := (HS5.out.below ((Below.refl _ wr).alloc (Nat.le_refl _) _)).grew (by rw [bcells_snoc]; exact hown6) (by rw [List.length_append, ← HS5.out.len]; rfl) hgrow6
        have HS6 := Lib.hid hS6
        clear hS6 hown6 hgrow6 HS5
        obtain ⟨u5, hu5⟩ : ∃ u5, v5 = u5 := ⟨_, rfl⟩
        rw [hu5] at HS6 ⊢
        go_wp2
        go_roundw
        case rel => exact ⟨k - 1, m + 1, _, by go_num, by omega, HS6.out⟩
        case measure => simp [intOf]; omega
      · obtain rfl : k = 0 := by omega
        obtain ⟨W6, hW6⟩ : ∃ W6, wr = W6 := ⟨_, rfl⟩
        obtain ⟨m6, hm6e⟩ : ∃ m6, m = m6 := ⟨_, rfl⟩
        rw [hW6] at HS5 ⊢
        rw [hm6e] at HS5 hmk ⊢
        clear hW6 hm6e
        have hm6 : m6 ≤ 100 := by omega
        have hS6 := HS5.out
        obtain ⟨B6, hB6⟩ : ∃ B6, B5 = B6 := ⟨_, rfl⟩
        obtain ⟨c6, hc6⟩ : ∃ c6, c5 = c6 := ⟨_, rfl⟩
        rw [hB6, hc6] at hS6 ⊢
        clear HS5 hB6 hc6
        have b0 := hS6.box.cell 0
        have b1 : W6.cell? ⟨w.heap.size, 1, none⟩ = some (.slice (some ⟨b, off, none⟩) n c) := hS6.box.cell 1
        have fb1 := hS6.box.frozen 1
        have r0 : W6.cell? ⟨w.heap.size + 1, 0, none⟩ = some (.string ⟨#[]⟩) := hS6.res.cell 0
        have r1 : W6.cell? ⟨w.heap.size + 1, 1, none⟩ = some (.slice none 0 0) := hS6.res.cell 1
        have fr0 := hS6.res.frozen 0
        have fr1 := hS6.res.frozen 1
        have hl6 := hS6.res.lt
        have hS7 := hS6.set (nb' := nm) (vb' := .slice B6 m6 c6) 1 (.slice B6 m6 c6) rfl
        have HE := Lib.hid (hS7.list hnm hm6 b rfl)
        have HR := Lib.hid hS7.read
        clear hS6 hS7
        go_wp2
        have t1 := HR.out
        refine bodyPost_ret (v := .agg #[.string nm, .slice B6 m6 c6]) (by simp [results, Tryz.results52, go_sem, World.cell?, t1]) rfl HE.out

end Go.Proofs.YtlgedljhheficaaGreatDoor
