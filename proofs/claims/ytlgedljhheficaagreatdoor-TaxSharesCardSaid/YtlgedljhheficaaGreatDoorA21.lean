/- The contract of the generator Tax of the reference. -/
import Derived.Test.YtlgedljhheficaaGreatDoorA17
import Derived.Maps.AppendAt
namespace Go.Proofs.YtlgedljhheficaaGreatDoor
open Go.RowKit

def sale : ByteArray := ⟨#[115, 97, 108, 101]⟩

def nextFrom (zs : List Int) (brs : List (Int × Int)) (i : Nat) : Int :=
  fromAt brs i + 1 + pick zs (2 + 2 * i) 1000 + (if pick zs (3 + 2 * i) 9 = 0 then 1000000000 else 0)
def perOf (p k : Int) : Int := if k = 0 then 0 else if k = 1 then 1 else if k = 2 then 5000 else if k = 3 then 9999 else if k = 4 then 10000 else p
def nextPer (zs : List Int) (i : Nat) : Int := perOf (pick zs (3 + 2 * i) 10001) (pick zs (4 + 2 * i) 6)
def taxTo (zs : List Int) : Nat → List (Int × Int)
  | 0 => [(0, pick zs 0 10001)]
  | k + 1 => taxTo zs k ++ [(nextFrom zs (taxTo zs k) k, nextPer zs k)]
def taxOf (zs : List Int) : List (Int × Int) := taxTo zs (pick zs 1 6).toNat

theorem taxTo_length (zs : List Int) (k : Nat) : (taxTo zs k).length = k + 1 := by
  induction k with
  | zero => rfl
  | succ k ih => simp [taxTo, ih]
theorem bcells_snoc (brs : List (Int × Int)) (p : Int × Int) : bcells (brs ++ [p]) = bcells brs ++ [.int .i64 p.1, .int .i64 p.2] := by simp [bcells]

theorem at_append_l (l : List (Int × Int)) (p : Int × Int) (i : Nat) (h : i < l.length) : fromAt (l ++ [p]) i = fromAt l i ∧ perAt (l ++ [p]) i = perAt l i := by
  simp [fromAt, perAt, List.getElem?_append_left h]
theorem at_append_r (l : List (Int × Int)) (p : Int × Int) : fromAt (l ++ [p]) l.length = p.1 ∧ perAt (l ++ [p]) l.length = p.2 := by
  simp [fromAt, perAt]
theorem perOf_bd {p k : Int} (h0 : 0 ≤ p) (h1 : p ≤ 10000) : 0 ≤ perOf p k ∧ perOf p k ≤ 10000 := by
  unfold perOf
  repeat' split
  all_goals omega
theorem nextPer_bd (zs : List Int) (i : Nat) : 0 ≤ nextPer zs i ∧ nextPer zs i ≤ 10000 :=
  perOf_bd (pick_lo _ _ _ (by omega)) (by have := pick_hi zs (3 + 2 * i) 10001 (by omega); omega)
theorem taxTo_bd (zs : List Int) (k : Nat) : ∀ i, i ≤ k → 0 ≤ fromAt (taxTo zs k) i ∧ fromAt (taxTo zs k) i ≤ (i : Int) * 1000001000 ∧ 0 ≤ perAt (taxTo zs k) i ∧ perAt (taxTo zs k) i ≤ 10000 ∧ (i < k → fromAt (taxTo zs k) i < fromAt (taxTo zs k) (i + 1)) := by
  induction k with
  | zero =>
    intro i hi
    obtain rfl : i = 0 := by omega
    have a := pick_lo zs 0 10001 (by omega)
    have b := pick_hi zs 0 10001 (by omega)
    refine ⟨by simp [taxTo, fromAt], by simp [taxTo, fromAt], ?_, ?_, fun h => by omega⟩
    · simpa [taxTo, perAt] using a
    · simp [taxTo, perAt]; omega
  | succ k ih =>
    have hl := taxTo_length zs k
    have hr := at_append_r (taxTo zs k) (nextFrom zs (taxTo zs k) k, nextPer zs k)
    rw [hl] at hr
    have hk := ih k (Nat.le_refl _)
    have p0 := pick_lo zs (2 + 2 * k) 1000 (by omega)
    have p1 := pick_hi zs (2 + 2 * k) 1000 (by omega)
    have hn : fromAt (taxTo zs k) k < nextFrom zs (taxTo zs k) k ∧ nextFrom zs (taxTo zs k) k ≤ fromAt (taxTo zs k) k + 1000001000 := by
      unfold nextFrom
      split <;> omega
    intro i hi
    show 0 ≤ fromAt (taxTo zs k ++ [_]) i ∧ fromAt (taxTo zs k ++ [_]) i ≤ (i : Int) * 1000001000 ∧ 0 ≤ perAt (taxTo zs k ++ [_]) i ∧ perAt (taxTo zs k ++ [_]) i ≤ 10000 ∧ (i < k + 1 → fromAt (taxTo zs k ++ [_]) i < fromAt (taxTo zs k ++ [_]) (i + 1))
    by_cases hik : i ≤ k
    · have hi' := ih i hik
      have hlft := at_append_l (taxTo zs k) (nextFrom zs (taxTo zs k) k, nextPer zs k) i (by omega)
      rw [hlft.1, hlft.2]
      refine ⟨hi'.1, hi'.2.1, hi'.2.2.1, hi'.2.2.2.1, fun _ => ?_⟩
      by_cases hik2 : i = k
      · subst hik2
        rw [hr.1]
        exact hn.1
      · rw [(at_append_l (taxTo zs k) (nextFrom zs (taxTo zs k) k, nextPer zs k) (i + 1) (by omega)).1]
        exact hi'.2.2.2.2 (by omega)
    · obtain rfl : i = k + 1 := by omega
      rw [hr.1, hr.2]
      have hp := nextPer_bd zs k
      refine ⟨by dsimp only; omega, ?_, hp.1, hp.2, fun h => by omega⟩
      have : ((k + 1 : Nat) : Int) * 1000001000 = (k : Int) * 1000001000 + 1000001000 := by omega
      dsimp only
      omega

theorem pick_q (A : Option Addr) (n c : Nat) (zs : List Int) (B : Nat) (i m : Int) (w : World) (hr : Row w B A (ints zs)) (hn : n = zs.length) (hw : Wf zs)
    (h0 : -9223372036854775808 ≤ i) (h1 : i ≤ 9223372036854775807) (hm : 1 ≤ m) (hm2 : m ≤ 9223372036854775807) (k : Nat) :
    Calls Tryz.prog 27 #[.slice A n c, .int .i64 i, .int .i64 m] (w.drewN k) fun e w' => e = .returned (.int .i64 (pick zs i m)) ∧ w' = w.drewN k :=
  (pick_any A n c zs B i m (w.drewN k) hr hn hw h0 h1 hm hm2).mono fun _ _ ⟨a, b⟩ => ⟨a, b.symm⟩

/-- The numbers that came in: a slice of ints. -/
structure IntsV (w : World) (A : Option Addr) (n : Nat) (zs : List Int) : Prop where
  row : Row w w.heap.size A (ints zs)
  len : n = zs.length
  wf : Wf zs
theorem IntsV.below {w w' : World} {A : Option Addr} {n : Nat} {zs : List Int} (h : IntsV w A n zs) (hb : Below w.heap.size w w') : IntsV w' A n zs := ⟨(h.row.below hb).more hb.size, h.len, h.wf⟩
theorem IntsV.pick {w : World} {A : Option Addr} {n : Nat} (c : Nat) {zs : List Int} (h : IntsV w A n zs) (i m : Int) (h0 : -9223372036854775808 ≤ i) (h1 : i ≤ 9223372036854775807) (hm : 1 ≤ m) (hm2 : m ≤ 9223372036854775807) :
    Calls Tryz.prog 27 #[.slice A n c, .int .i64 i, .int .i64 m] w fun e w' => e = .returned (.int .i64 (pick zs i m)) ∧ w = w' := pick_any A n c zs _ i m w h.row h.len h.wf h0 h1 hm hm2

theorem info65 : (Tryz.prog.info? 65).map (fun i => (i.zero, i.size, i.bytes)) = some (some (.agg #[.int .i64 0, .int .i64 0]), 2, 16) := by kernel_rfl

/-- A row is no block of another element type. -/
theorem row_ne {W : World} {base : Nat} {e t : TypeId} {size n g : Nat} {v : Value} {xs : List Value} {cs : Array Value} {fr : Nat × Nat} (h : W.ownsRow base e size v n xs) (hg : W.heap[g]? = some (.cells cs t fr)) (hne : e ≠ t) : v.ownBlock ≠ some g := by
  rcases h.2 with ⟨rfl, _⟩ | ⟨g', cap, cur, rfl, _, hh, _⟩
  · simp [Value.ownBlock]
  · intro he
    have : g' = g := by simpa [Value.ownBlock] using he
    subst this
    rw [hg] at hh
    cases hh
    exact hne rfl
theorem row_base {W : World} {base : Nat} {e : TypeId} {size n : Nat} {v : Value} {xs : List Value} (h : W.ownsRow base e size v n xs) : ∀ g, v.ownBlock = some g → base ≤ g := by
  intro g he
  rcases h.2 with ⟨rfl, _⟩ | ⟨g', cap, cur, rfl, hb, _⟩
  · simp [Value.ownBlock] at he
  · have : g' = g := by simpa [Value.ownBlock] using he
    omega

theorem tax_append {w W w1 : World} {o1 o2 : Obj} {v v' : Value} {k : Nat} {xs ys : List Value} (r0 : W.heap[w.heap.size]? = some (.cells #[.string ⟨#[]⟩, .slice none 0 0] 25 (0, 0)))
    (r2 : W.heap[w.heap.size + 2]? = some (.cells #[.string sale, v] 25 (0, 0))) (hrow : W.ownsRow w.heap.size 65 2 v (k + 1) xs) (hb : Below w.heap.size w W) (hown' : w1.ownsRow w.heap.size 65 2 v' (k + 1 + 1) ys)
    (hgrow : ((W.alloc o1).alloc o2).grownBy w1 v.ownBlock) :
    w1.heap[w.heap.size + 2]? = some (.cells #[.string sale, v] 25 (0, 0)) ∧ (w1.setCell ⟨w.heap.size + 2, 1, none⟩ v').heap[w.heap.size]? = some (.cells #[.string ⟨#[]⟩, .slice none 0 0] 25 (0, 0)) ∧
    (w1.setCell ⟨w.heap.size + 2, 1, none⟩ v').heap[w.heap.size + 2]? = some (.cells #[.string sale, v'] 25 (0, 0)) ∧ (w1.setCell ⟨w.heap.size + 2, 1, none⟩ v').ownsRow w.heap.size 65 2 v' (k + 1 + 1) ys ∧ Below w.heap.size w (w1.setCell ⟨w.heap.size + 2, 1, none⟩ v') := by
  have l0 := (Array.getElem?_eq_some_iff.1 r0).1
  have l2 := (Array.getElem?_eq_some_iff.1 r2).1
  have n0 := row_ne hrow r0 (by decide)
  have n2 := row_ne hrow r2 (by decide)
  have s0 : w1.heap[w.heap.size]? = some (.cells #[.string ⟨#[]⟩, .slice none 0 0] 25 (0, 0)) := by
    rw [hgrow.block _ (by simp; omega) (fun e => n0 e.symm), Below.heap_alloc _ _ _ (by simp; omega), Below.heap_alloc _ _ _ l0, r0]
  have s2 : w1.heap[w.heap.size + 2]? = some (.cells #[.string sale, v] 25 (0, 0)) := by
    rw [hgrow.block _ (by simp; omega) (fun e => n2 e.symm), Below.heap_alloc _ _ _ (by simp; omega), Below.heap_alloc _ _ _ l2, r2]
  refine ⟨s2, ?_, ?_, ?_, ?_⟩
  · rw [Below.heap_setCell _ _ _ _ (by simp), s0]
  · simp [World.setCell, Array.getElem?_modify, s2]
  · refine hown'.kept (row := some (w.heap.size + 2)) ⟨rfl, rfl, rfl, by simp [World.setCell], fun i _ hi => Below.heap_setCell _ _ _ _ (fun e => hi (by rw [e]))⟩ (.inr ?_)
    exact row_ne hown' s2 (by decide)
  · refine (((hb.alloc hb.size _).alloc (by have := hb.size; simp; omega) _).grown hgrow (by have := hb.size; simp; omega) (row_base hrow)).setCell (p := ⟨w.heap.size + 2, 1, none⟩) (by simp) v'

theorem tax_end {w W : World} {v : Value} {n : Nat} {xs : List Value} (r0 : W.heap[w.heap.size]? = some (.cells #[.string ⟨#[]⟩, .slice none 0 0] 25 (0, 0))) (hrow : W.ownsRow w.heap.size 65 2 v n xs) (hb : Below w.heap.size w W) :
    ((W.setCell ⟨w.heap.size, 0, none⟩ (.string sale)).setCell ⟨w.heap.size, 1, none⟩ v).heap[w.heap.size]? = some (.cells #[.string sale, v] 25 (0, 0)) ∧
    ((W.setCell ⟨w.heap.size, 0, none⟩ (.string sale)).setCell ⟨w.heap.size, 1, none⟩ v).ownsRow w.heap.size 65 2 v n xs ∧ Below w.heap.size w ((W.setCell ⟨w.heap.size, 0, none⟩ (.string sale)).setCell ⟨w.heap.size, 1, none⟩ v) := by
  have s1 : (W.setCell ⟨w.heap.size, 0, none⟩ (.string sale)).heap[w.heap.size]? = some (.cells #[.string sale, .slice none 0 0] 25 (0, 0)) := by simp [World.setCell, Array.getElem?_modify, r0]
  have g1 : W.grownBy (W.setCell ⟨w.heap.size, 0, none⟩ (.string sale)) (some w.heap.size) := ⟨rfl, rfl, rfl, by simp [World.setCell], fun i _ hi => Below.heap_setCell _ _ _ _ (fun e => hi (by rw [e]))⟩
  have h1 := hrow.kept g1 (.inr (row_ne hrow r0 (by decide)))
  have g2 : (W.setCell ⟨w.heap.size, 0, none⟩ (.string sale)).grownBy ((W.setCell ⟨w.heap.size, 0, none⟩ (.string sale)).setCell ⟨w.heap.size, 1, none⟩ v) (some w.heap.size) := ⟨rfl, rfl, rfl, by simp [World.setCell], fun i _ hi => Below.heap_setCell _ _ _ _ (fun e => hi (by rw [e]))⟩
  refine ⟨by simp [World.setCell, Array.getElem?_modify, r0], h1.kept g2 (.inr (row_ne h1 s1 (by decide))), ?_⟩
  exact (hb.setCell (p := ⟨w.heap.size, 0, none⟩) (Nat.le_refl _) _).setCell (p := ⟨w.heap.size, 1, none⟩) (Nat.le_refl _) _

/-- What Tax returns. -/
def TaxPost (w : World) (zs : List Int) (e : Ending) (w' : World) : Prop :=
  ∃ v, e = .returned (.agg #[.string sale, v]) ∧ w'.ownsRow w.heap.size 65 2 v (taxOf zs).length (bcells (taxOf zs)) ∧ Below w.heap.size w w'

set_option maxRecDepth 100000 in
set_option maxHeartbeats 1000000 in
theorem Tax_any {w : World} {A : Option Addr} {n : Nat} (c : Nat) {zs : List Int} (h : IntsV w A n zs) :
    Calls Tryz.prog 23 #[.slice A n c] w (TaxPost w zs) := by
  obtain ⟨i0, hi, hz0, hz1, hz2⟩ := info_parts info65
  have hb0 : Below w.heap.size w (w.alloc (.cells #[.string ⟨#[]⟩, .slice none 0 0] 25)) := (Below.refl _ _).alloc (Nat.le_refl _) _
  have H := Lib.hid h
  clear h
  go_enter Tryz.func23, Tryz.ntmps23
  go_wp2_with fail
  refine ((H.out.below hb0).pick c 0 10001 (by omega) (by omega) (by omega) (by omega)).mono ?_
  rintro e w' ⟨rfl, rfl⟩
  obtain ⟨p0, hp0⟩ : ∃ p0, p0 = pick zs 0 10001 := ⟨_, rfl⟩
  have Hp0 := Lib.hid hp0
  rw [← hp0]
  clear hp0
  go_wp2_with fail
  obtain ⟨W0, hW0⟩ : ∃ W0, ((w.alloc (.cells #[.string ⟨#[]⟩, .slice none 0 0] 25)).alloc (.cells #[.int .i64 0, .int .i64 p0] 65)).alloc (.cells #[.string ⟨#[115, 97, 108, 101]⟩, .slice (some ⟨w.heap.size + 1, 0, none⟩) 1 1] 25) = W0 := ⟨_, rfl⟩
  have hB0 : Below w.heap.size w W0 := by
    rw [← hW0]
    exact (((Below.refl _ w).alloc (Nat.le_refl _) _).alloc (by simp) _).alloc (by simp; omega) _
  have q0 : W0.heap[w.heap.size]? = some (.cells #[.string ⟨#[]⟩, .slice none 0 0] 25 (0, 0)) := by
    rw [← hW0]
    exact (Below.heap_alloc _ _ _ (by simp; omega)).trans ((Below.heap_alloc _ _ _ (by simp)).trans (heap_alloc_new w _))
  have q1 : W0.heap[w.heap.size + 1]? = some (.cells #[.int .i64 0, .int .i64 p0] 65 (0, 0)) := by
    rw [← hW0]
    have := heap_alloc_new (w.alloc (.cells #[.string ⟨#[]⟩, .slice none 0 0] 25)) (.cells #[.int .i64 0, .int .i64 p0] 65)
    rw [World.size_alloc] at this
    exact (Below.heap_alloc _ _ _ (by simp)).trans this
  have q2 : W0.heap[w.heap.size + 2]? = some (.cells #[.string sale, .slice (some ⟨w.heap.size + 1, 0, none⟩) 1 1] 25 (0, 0)) := by
    rw [← hW0]
    have := heap_alloc_new ((w.alloc (.cells #[.string ⟨#[]⟩, .slice none 0 0] 25)).alloc (.cells #[.int .i64 0, .int .i64 p0] 65)) (.cells #[.string ⟨#[115, 97, 108, 101]⟩, .slice (some ⟨w.heap.size + 1, 0, none⟩) 1 1] 25)
    rw [World.size_alloc, World.size_alloc] at this
    exact this
  have hrow : W0.ownsRow w.heap.size 65 2 (.slice (some ⟨w.heap.size + 1, 0, none⟩) 1 1) 1 (bcells (taxTo zs 0)) := by
    refine ⟨rfl, .inr ⟨w.heap.size + 1, 1, _, rfl, by omega, q1, by omega, by unfold maxLen; omega, rfl, ?_⟩⟩
    show [Value.int .i64 0, Value.int .i64 p0] = bcells [(0, pick zs 0 10001)]
    rw [← Hp0.out]; rfl
  rw [hW0]
  clear hW0 q1
  have hm0 := pick_lo zs 1 6 (by omega)
  have hm1 := pick_hi zs 1 6 (by omega)
  go_loopw [4] (fun i wr => ∃ (k : Nat) (v : Value), i = .int .i64 k ∧ (k : Int) ≤ pick zs 1 6 ∧ wr.heap[w.heap.size]? = some (.cells #[.string ⟨#[]⟩, .slice none 0 0] 25 (0, 0)) ∧
      wr.heap[w.heap.size + 2]? = some (.cells #[.string sale, v] 25 (0, 0)) ∧ wr.ownsRow w.heap.size 65 2 v (k + 1) (bcells (taxTo zs k)) ∧ Below w.heap.size w wr) (fun i _ => 7 - (intOf i).toNat)
  case atStart => exact ⟨0, _, rfl, hm0, q0, q2, hrow, hB0⟩
  case round =>
    obtain ⟨k, v, rfl, hk, r0, r2, hown, hb⟩ := hrel
    clear hrow q0 q2 hB0
    have Hr0 := Lib.hid r0
    have Hr2 := Lib.hid r2
    have HO := Lib.hid hown
    obtain ⟨g, cap, rfl⟩ : ∃ g cap, v = .slice (some ⟨g, 0, none⟩) (k + 1) cap := by
      rcases hown.2 with ⟨_, h0⟩ | ⟨g, cap, cur, hv, _⟩
      · omega
      · exact ⟨g, cap, hv⟩
    have b1 : wr.cell? ⟨w.heap.size + 1 + 1, 1, none⟩ = some (.slice (some ⟨g, 0, none⟩) (k + 1) cap) := by simp [World.cell?, r2]
    have hs2 : w.heap.size + 1 + 1 < wr.heap.size := (Array.getElem?_eq_some_iff.1 r2).1
    have f1 : wr.frozen? ⟨w.heap.size + 1 + 1, 1, none⟩ = false := by simp [World.frozen?, r2]
    have hF : wr.cell? ⟨g, k * 2, none⟩ = some (.int .i64 (fromAt (taxTo zs k) k)) := by
      rw [hown.cellAt (k * 2) (by omega)]
      exact bcells_from _ k (by rw [taxTo_length]; omega)
    have tb := taxTo_bd zs k k (Nat.le_refl _)
    have hpk := (H.out.below hb).pick c 1 6 (by omega) (by omega) (by omega) (by omega)
    have Hpk := Lib.hid hpk
    clear r0 r2 hown hpk
    go_wp2_with fail
    refine Hpk.out.mono ?_
    rintro e w' ⟨rfl, rfl⟩
    by_cases hlt : (k : Int) < pick zs 1 6
    · have pa := (H.out.below hb)
      have K1 : ∀ q, Calls Tryz.prog 27 #[.slice A n c, .int .i64 (2 + 2 * (k : Int)), .int .i64 1000] (wr.drewN q) fun e w' => e = .returned (.int .i64 (pick zs (2 + 2 * (k : Int)) 1000)) ∧ w' = wr.drewN q :=
        fun q => pick_q A n c zs _ _ _ wr pa.row pa.len pa.wf (by omega) (by omega) (by omega) (by omega) q
      have HK1 := Lib.hid K1
      have Hpa := Lib.hid pa
      have HF : Hid (nextFrom zs (taxTo zs k) k = fromAt (taxTo zs k) k + 1 + pick zs (2 + 2 * (k : Int)) 1000 + (if pick zs (3 + 2 * (k : Int)) 9 = 0 then 1000000000 else 0)) := rfl
      have HP : Hid (nextPer zs k = perOf (pick zs (3 + 2 * (k : Int)) 10001) (pick zs (4 + 2 * (k : Int)) 6)) := rfl
      have p0 := pick_lo zs (2 + 2 * (k : Int)) 1000 (by omega)
      have p1 := pick_hi zs (2 + 2 * (k : Int)) 1000 (by omega)
      have HT : Hid (taxTo zs (k + 1) = taxTo zs k ++ [(nextFrom zs (taxTo zs k) k, nextPer zs k)]) := rfl
      have hk6 : k < 6 := by omega
      have hf0 := tb.1
      have hf1 := tb.2.1
      clear K1 pa tb
      generalize hmm : pick zs 1 6 = m at *
      have Hmm := Lib.hid hmm
      clear hmm
      generalize pick zs (2 + 2 * (k : Int)) 1000 = P at *
      generalize hFv : fromAt (taxTo zs k) k = F at *
      have a1 : IntKind.i64.wrap (2 * (k : Int)) = 2 * (k : Int) := IntWalk.i64_in _ (by omega)
      have a2 : IntKind.i64.wrap (2 + 2 * (k : Int)) = 2 + 2 * (k : Int) := IntWalk.i64_in _ (by omega)
      have a3 : IntKind.i64.wrap (F + 1) = F + 1 := IntWalk.i64_in _ (by omega)
      have a4 : IntKind.i64.wrap (F + 1 + P) = F + 1 + P := IntWalk.i64_in _ (by omega)
      clear hFv
      go_wp2_with fail
      go_quiet ((go_at_call 27; exact Calls.quiet_of_same (HK1.out _)))
      clear a1 a2 a3 a4
      have b1' : (wr.drewN nq).cell? ⟨w.heap.size + 1 + 1, 1, none⟩ = some (.slice (some ⟨g, 0, none⟩) (k + 1) cap) := b1
      have f1' : (wr.drewN nq).frozen? ⟨w.heap.size + 1 + 1, 1, none⟩ = false := f1
      have hs2' : w.heap.size + 1 + 1 < (wr.drewN nq).heap.size := hs2
      have Hr0' : Hid ((wr.drewN nq).heap[w.heap.size]? = some (.cells #[.string ⟨#[]⟩, .slice none 0 0] 25 (0, 0))) := Hr0
      have Hr2' : Hid ((wr.drewN nq).heap[w.heap.size + 2]? = some (.cells #[.string sale, .slice (some ⟨g, 0, none⟩) (k + 1) cap] 25 (0, 0))) := Hr2
      have hown0 : (wr.drewN nq).ownsRow w.heap.size 65 2 (.slice (some ⟨g, 0, none⟩) (k + 1) cap) (k + 1) (bcells (taxTo zs k)) := HO.out
      have hb' : Below w.heap.size w (wr.drewN nq) := bel_drewN hb nq
      have Hpa' : Hid (IntsV (wr.drewN nq) A n zs) := ⟨Hpa.out.row, Hpa.out.len, Hpa.out.wf⟩
      clear b1 f1 hs2 Hr0 Hr2 HO hb Hpa HK1 Hpk hF
      generalize wr.drewN nq = Wq at *
      clear wr
      have HO := Lib.hid hown0
      clear hown0
      go_wp2_with fail
      refine ((Hpa'.out.pick c (3 + 2 * (k : Int)) 9 (by omega) (by omega) (by omega) (by omega))).mono ?_
      rintro e w' ⟨rfl, rfl⟩
      have q10 := pick_lo zs (3 + 2 * (k : Int)) 10001 (by omega)
      have q11 := pick_hi zs (3 + 2 * (k : Int)) 10001 (by omega)
      have q20 := pick_lo zs (4 + 2 * (k : Int)) 6 (by omega)
      have q21 := pick_hi zs (4 + 2 * (k : Int)) 6 (by omega)
      have KA := Lib.hid (Hpa'.out.pick c (3 + 2 * (k : Int)) 10001 (by omega) (by omega) (by omega) (by omega))
      obtain ⟨j, hj⟩ : ∃ j : Nat, pick zs (4 + 2 * (k : Int)) 6 = j := ⟨(pick zs (4 + 2 * (k : Int)) 6).toNat, by omega⟩
      have KB := Lib.hid (fun W (hW : IntsV W A n zs) => hW.pick c (4 + 2 * (k : Int)) 6 (by omega) (by omega) (by omega) (by omega))
      rw [hj] at KB HP q20 q21
      generalize pick zs (3 + 2 * (k : Int)) 10001 = q1 at *
      clear hj
      have hj6 : j < 6 := by omega
      have hsel : (#[.int .i64 0, .int .i64 1, .int .i64 5000, .int .i64 9999, .int .i64 10000, .int .i64 q1] : Array Value)[j]? = some (.int .i64 (nextPer zs k)) := by
        rw [HP.out]
        rcases (show j = 0 ∨ j = 1 ∨ j = 2 ∨ j = 3 ∨ j = 4 ∨ j = 5 by omega) with rfl | rfl | rfl | rfl | rfl | rfl <;> simp [perOf]
      have hsel2 : (Wq.alloc (.cells #[.int .i64 0, .int .i64 1, .int .i64 5000, .int .i64 9999, .int .i64 10000, .int .i64 q1] 3)).cell? ⟨Wq.heap.size, j, none⟩ = some (.int .i64 (nextPer zs k)) :=
        (World.cell?_alloc_at (w := Wq) _ _ _ _ rfl).trans hsel
      clear HP hsel
      by_cases hQ : pick zs (3 + 2 * (k : Int)) 9 = 0
      · have hQ2 : (pick zs (3 + 2 * (k : Int)) 9 == 0) = true := by simpa using hQ
        have Hn : Hid (nextFrom zs (taxTo zs k) k = F + 1 + P + 1000000000) := by
          show nextFrom zs (taxTo zs k) k = F + 1 + P + 1000000000
          rw [HF.out, if_pos hQ]
        generalize pick zs (3 + 2 * (k : Int)) 9 = Q at *
        clear hQ HF
        go_wp2_with fail
        refine KA.out.mono ?_
        rintro e w' ⟨rfl, rfl⟩
        go_wp2_with fail
        refine (KB.out _ ((Hpa'.out.below ((Below.refl _ _).alloc (Nat.le_refl _) _)))).mono ?_
        rintro e w' ⟨rfl, rfl⟩
        generalize nextPer zs k = R at *
        generalize nextFrom zs (taxTo zs k) k = FF at *
        go_wp2_with (at_builtin; refine wpList_append_own_at _ rfl _ _ 23 rfl w.heap.size 65 i0 (.agg #[.int .i64 0, .int .i64 0]) 2 16 Tryz.underlying23 hi hz0 hz1 hz2 rfl (by decide) _ (k + 1) (bcells (taxTo zs k)) rfl ((HO.out.alloc _).alloc _) ⟨Wq.heap.size + 1, 0, none⟩ 1 1 [.int .i64 (F + 1 + P + 1000000000), .int .i64 R] rfl rfl ?c1a ?c2a ?c3a ?c4a ?c5a ?_)
        case c1a =>
          intro j u hj
          match j, hj with
          | 0, hj => simp at hj; subst hj; simp [Addr.add]
          | 1, hj => simp at hj; subst hj; simp [Addr.add]
          | j + 2, hj => simp at hj
        case c2a =>
          intro u hu
          simp only [List.mem_cons, List.not_mem_nil, or_false] at hu
          rcases hu with rfl | rfl <;> rfl
        case c3a => unfold maxLen; omega
        case c4a => omega
        case c5a => simp; omega
        intro v' w1 hown' hgrow _ _
        obtain ⟨g', cap', rfl⟩ : ∃ g cap, v' = .slice (some ⟨g, 0, none⟩) (k + 1 + 1) cap := by
          rcases hown'.2 with ⟨_, h0⟩ | ⟨g, cap, cur, hv, _⟩
          · omega
          · exact ⟨g, cap, hv⟩
        obtain ⟨e1, e2, e3, e4, e5⟩ := tax_append Hr0'.out Hr2'.out HO.out hb' hown' hgrow
        have hc1 : w1.cell? ⟨w.heap.size + 1 + 1, 1, none⟩ = some (.slice (some ⟨g, 0, none⟩) (k + 1) cap) := by simp [World.cell?, e1]
        have hf1 : w1.frozen? ⟨w.heap.size + 1 + 1, 1, none⟩ = false := by simp [World.frozen?, e1]
        have E2 := Lib.hid e2
        have E3 := Lib.hid e3
        have E4 := Lib.hid e4
        clear e1 e2 e3 e4 hown' hgrow
        go_wp2
        go_roundw
        case rel => exact ⟨k + 1, _, by go_num, by rw [Hmm.out]; omega, E2.out, E3.out, by rw [HT.out, bcells_snoc, Hn.out]; exact E4.out, e5⟩
        case measure => simp [intOf]; omega
      · have hQ2 : (pick zs (3 + 2 * (k : Int)) 9 == 0) = false := by simpa using hQ
        have Hn : Hid (nextFrom zs (taxTo zs k) k = F + 1 + P) := by
          show nextFrom zs (taxTo zs k) k = F + 1 + P
          rw [HF.out, if_neg hQ]; omega
        generalize pick zs (3 + 2 * (k : Int)) 9 = Q at *
        clear hQ HF
        go_wp2_with fail
        refine KA.out.mono ?_
        rintro e w' ⟨rfl, rfl⟩
        go_wp2_with fail
        refine (KB.out _ ((Hpa'.out.below ((Below.refl _ _).alloc (Nat.le_refl _) _)))).mono ?_
        rintro e w' ⟨rfl, rfl⟩
        generalize nextPer zs k = R at *
        generalize nextFrom zs (taxTo zs k) k = FF at *
        go_wp2_with (at_builtin; refine wpList_append_own_at _ rfl _ _ 23 rfl w.heap.size 65 i0 (.agg #[.int .i64 0, .int .i64 0]) 2 16 Tryz.underlying23 hi hz0 hz1 hz2 rfl (by decide) _ (k + 1) (bcells (taxTo zs k)) rfl ((HO.out.alloc _).alloc _) ⟨Wq.heap.size + 1, 0, none⟩ 1 1 [.int .i64 (F + 1 + P), .int .i64 R] rfl rfl ?c1b ?c2b ?c3b ?c4b ?c5b ?_)
        case c1b =>
          intro j u hj
          match j, hj with
          | 0, hj => simp at hj; subst hj; simp [Addr.add]
          | 1, hj => simp at hj; subst hj; simp [Addr.add]
          | j + 2, hj => simp at hj
        case c2b =>
          intro u hu
          simp only [List.mem_cons, List.not_mem_nil, or_false] at hu
          rcases hu with rfl | rfl <;> rfl
        case c3b => unfold maxLen; omega
        case c4b => omega
        case c5b => simp; omega
        intro v' w1 hown' hgrow _ _
        obtain ⟨g', cap', rfl⟩ : ∃ g cap, v' = .slice (some ⟨g, 0, none⟩) (k + 1 + 1) cap := by
          rcases hown'.2 with ⟨_, h0⟩ | ⟨g, cap, cur, hv, _⟩
          · omega
          · exact ⟨g, cap, hv⟩
        obtain ⟨e1, e2, e3, e4, e5⟩ := tax_append Hr0'.out Hr2'.out HO.out hb' hown' hgrow
        have hc1 : w1.cell? ⟨w.heap.size + 1 + 1, 1, none⟩ = some (.slice (some ⟨g, 0, none⟩) (k + 1) cap) := by simp [World.cell?, e1]
        have hf1 : w1.frozen? ⟨w.heap.size + 1 + 1, 1, none⟩ = false := by simp [World.frozen?, e1]
        have E2 := Lib.hid e2
        have E3 := Lib.hid e3
        have E4 := Lib.hid e4
        clear e1 e2 e3 e4 hown' hgrow
        go_wp2
        go_roundw
        case rel => exact ⟨k + 1, _, by go_num, by rw [Hmm.out]; omega, E2.out, E3.out, by rw [HT.out, bcells_snoc, Hn.out]; exact E4.out, e5⟩
        case measure => simp [intOf]; omega
    · have hkm : pick zs 1 6 = k := by omega
      have hto : taxOf zs = taxTo zs k := by unfold taxOf; rw [hkm]; rfl
      have r0 := Hr0.out
      have d0 : wr.cell? ⟨w.heap.size, 0, none⟩ = some (.string ⟨#[]⟩) := by simp [World.cell?, r0]
      have d1 : wr.cell? ⟨w.heap.size, 1, none⟩ = some (.slice none 0 0) := by simp [World.cell?, r0]
      have d2 : wr.frozen? ⟨w.heap.size, 0, none⟩ = false := by simp [World.frozen?, r0]
      have d3 : wr.frozen? ⟨w.heap.size, 1, none⟩ = false := by simp [World.frozen?, r0]
      have r2 := Hr2.out
      have b0 : wr.cell? ⟨w.heap.size + 1 + 1, 0, none⟩ = some (.string sale) := by simp [World.cell?, r2]
      have Hto := Lib.hid hto
      have hend := tax_end r0 HO.out hb
      have Hend := Lib.hid hend
      clear hto hkm r0 r2 hend
      go_wp2
      obtain ⟨t1, t2, t3⟩ := Hend.out
      refine bodyPost_ret (v := .agg #[.string sale, .slice (some ⟨g, 0, none⟩) (k + 1) cap]) (by simp [results, Tryz.results23, go_sem, World.cell?, t1]) rfl ⟨_, rfl, ?_, t3⟩
      rw [Hto.out, taxTo_length]
      exact t2

end Go.Proofs.YtlgedljhheficaaGreatDoor
