/- A region that draws its order, by an invariant that each operation keeps: no branching over orders. -/
import Derived.Test.YtlgedljhheficaaGreatDoorA1
import Derived.RegionTactic
namespace Go.Proofs.YtlgedljhheficaaGreatDoor
open Go.RowKit

/-- Each operation waits for earlier ones alone. -/
def earlierB (ops : Array Oper) : Bool := (List.range ops.size).all fun i => match ops[i]? with | some o => o.after.all fun e => decide (e.on < i) | none => true
theorem earlier_spec {ops : Array Oper} (h : earlierB ops = true) {i : Nat} {o : Oper} (ho : ops[i]? = some o) : ∀ e ∈ o.after, e.on < i := by
  intro e he
  have hi : i < ops.size := (Array.getElem?_eq_some_iff.1 ho).1
  have h1 := List.all_eq_true.1 h i (List.mem_range.2 hi)
  rw [ho] at h1
  simpa using Array.all_eq_true_iff_forall_mem.1 h1 e he

def left (l : Array Bool) : Nat := l.toList.count false
theorem left_set {l : Array Bool} {i : Nat} (h : l.getD i true = false) : left (l.setIfInBounds i true) + 1 = left l := by
  have hi : i < l.size := by
    rcases Nat.lt_or_ge i l.size with h1 | h1
    · exact h1
    · simp [Array.getElem?_eq_none h1] at h
  have hf' : l.toList[i]'(by simpa using hi) = false := by simpa [hi] using h
  have hpos : 0 < l.toList.count false := List.count_pos_iff.2 (by rw [← hf']; exact List.getElem_mem _)
  unfold left
  rw [Array.toList_setIfInBounds, List.count_set (by simpa using hi), hf']
  have e1 : (if (false == false) = true then 1 else 0) = 1 := rfl
  have e2 : (if (true == false) = true then 1 else 0) = 0 := rfl
  rw [e1, e2]
  omega

theorem wpAny_inv {P : Program} {ops : Array Oper} {Q : Exit → Act → World → Prop} (hd : earlierB ops = true) (I : (Nat → Bool) → Act → World → Prop)
    (step : ∀ (i : Nat) (o : Oper) (L : Nat → Bool) (a : Act) (w : World), ops[i]? = some o → L i = false → (∀ e ∈ o.after, Region.binds .any e = true → L e.on = true) → I L a w →
      wpOp P ops Q i (fun a' w' => I (fun j => L j || j == i) a' w') a w)
    (done : ∀ (L : Nat → Bool) (a : Act) (w : World), (∀ i, i < ops.size → L i = true) → I L a w → Q .normal a w) :
    ∀ (fuel : Nat) (listed : Array Bool) (a : Act) (w : World), listed.size = ops.size → left listed = fuel → I (fun j => listed.getD j false) a w → wpAny P .any ops Q fuel listed a w := by
  have allOf : ∀ (listed : Array Bool), listed.size = ops.size → Region.ready .any ops listed = [] → ∀ i, i < ops.size → listed.getD i false = true := by
    intro listed hs hr i
    induction i using Nat.strongRecOn with
    | _ i ih =>
      intro hi
      cases hl : listed.getD i false with
      | true => rfl
      | false =>
        have hm : i ∈ Region.ready .any ops listed := by
          rw [mem_ready]
          refine ⟨by simpa [hs, hi] using hl, ops[i], by simp [hi], fun e he _ => ?_⟩
          have := earlier_spec hd (i := i) (o := ops[i]) (by simp [hi]) e he
          exact ih e.on this (by omega)
        rw [hr] at hm
        cases hm
  intro fuel
  induction fuel with
  | zero =>
    intro listed a w hs hl hI
    have hall : ∀ i, i < ops.size → listed.getD i false = true := by
      intro i hi
      have h0 : ¬ false ∈ listed.toList := by
        intro hm
        have := List.count_pos_iff.2 hm
        unfold left at hl
        omega
      have hi' : i < listed.size := by omega
      cases hx : listed[i] with
      | true => simp [hi', hx]
      | false => exact absurd (by rw [← hx]; exact Array.mem_toList_iff.2 (Array.getElem_mem hi')) h0
    refine ⟨?_, done _ a w hall hI⟩
    apply List.eq_nil_iff_forall_not_mem.2
    intro i hi
    obtain ⟨h1, o, ho, _⟩ := mem_ready.1 hi
    have hi' := (Array.getElem?_eq_some_iff.1 ho).1
    have h2 := hall i hi'
    have hi2 : i < listed.size := by omega
    simp [hi2] at h1 h2
    rw [h1] at h2
    cases h2
  | succ fuel ih =>
    intro listed a w hs hl hI
    refine ⟨fun h0 => done _ a w (allOf listed hs h0) hI, fun i hi => ?_⟩
    obtain ⟨h1, o, ho, h2⟩ := mem_ready.1 hi
    have hi' := (Array.getElem?_eq_some_iff.1 ho).1
    have hi2 : i < listed.size := by omega
    refine wpOp_mono (fun a' w' hI' => ih (listed.setIfInBounds i true) a' w' (by simpa using hs) (by have := left_set h1; omega) ?_) (step i o (fun j => listed.getD j false) a w ho ?_ h2 hI)
    · have he : (fun j => (listed.setIfInBounds i true).getD j false) = fun j => listed.getD j false || j == i := by
        funext j
        by_cases hij : i = j
        · subst hij
          simp [hi2]
        · rw [getD_set_ne false hij]
          have : (j == i) = false := by simpa using fun e => hij e.symm
          rw [this, Bool.or_false]
      rw [he]
      exact hI'
    · simpa [hi2] using h1

theorem getD_repl (m j : Nat) : (Array.replicate m false).getD j false = false := by
  rcases Nat.lt_or_ge j m with h | h <;> simp [h]

theorem wp_region_inv {P : Program} {ops : Array Oper} {Q : Exit → Act → World → Prop} {id : Nat} {a : Act} {w : World} (hm : P.follows .mixedOrders = true) (hd : earlierB ops = true) (I : (Nat → Bool) → Act → World → Prop)
    (h0 : I (fun _ => false) a w.drew)
    (step : ∀ (i : Nat) (o : Oper) (L : Nat → Bool) (a : Act) (w : World), ops[i]? = some o → L i = false → (∀ e ∈ o.after, Region.binds .any e = true → L e.on = true) → I L a w →
      wpOp P ops Q i (fun a' w' => I (fun j => L j || j == i) a' w') a w)
    (done : ∀ (L : Nat → Bool) (a : Act) (w : World), (∀ i, i < ops.size → L i = true) → I L a w → Q .normal a w) : (Code.region id ops true).wp P Q a w := by
  refine wp_region_any hm (wpAny_inv hd I step done ops.size _ a _ (by simp) (by simp [left]) ?_)
  have he : (fun j => (Array.replicate ops.size false).getD j false) = fun _ => false := by
    funext j
    exact getD_repl ops.size j
  rw [he]
  exact h0

end Go.Proofs.YtlgedljhheficaaGreatDoor
