/- What the writer writes: the text of a mark, and whether its names can be read again. Valid: the error of a mark. -/
import Derived.Test.YtocodlpgaamblaaGreatDoorS9
import Derived.Lib.ItoaLen
set_option linter.unusedVariables false
set_option linter.unusedSimpArgs false
open Go.RowKit
namespace Go.Proofs.YtocodlpgaamblaaGreatDoor
def nmAt (l : List ByteArray) (k : Int) : ByteArray := l[k.toNat]?.getD ⟨#[]⟩
/-- The text of a condition. -/
def condT (rn it : List ByteArray) (op : ByteArray) (a b : Int) : List UInt8 :=
 (op.data.toList ++ [32]) ++ (if op = sKind then (nmAt kindNs a).data.toList else if op = sRule then (nmAt rn a).data.toList else if op = sItem then (nmAt it a).data.toList else if op = sMore then (Lib.itoa a ++ [32]) ++ (nmAt it b).data.toList else if isTwo op then (Lib.itoa a ++ [46, 46]) ++ Lib.itoa b else Lib.itoa a)
/-- Whether a kid stands in parentheses. -/
def parT (op k : ByteArray) : Bool := (decide (k = sAnd) || decide (k = sOr)) && (decide (op = sNot) || decide (op = k) || decide (op = sAnd))
def wrapT (p : Bool) (l : List UInt8) : List UInt8 := if p then ([40] ++ l) ++ [41] else l
/-- What stands ahead of a kid. -/
def sepT (op : ByteArray) (first : Bool) : List UInt8 := if first then [] else ([32] ++ op.data.toList) ++ [32]
mutual
def Mk.text (rn it : List ByteArray) : Mk → List UInt8
 | .node op a b ks => if op = sAnd ∨ op = sOr then Mk.textL rn it op true ks else if op = sNot then [110, 111, 116, 32] ++ Mk.textL rn it op true ks else condT rn it op a b
def Mk.textL (rn it : List ByteArray) (op : ByteArray) : Bool → List Mk → List UInt8
 | _, [] => []
 | f, k :: ks => (sepT op f ++ wrapT (parT op k.op) (Mk.text rn it k)) ++ Mk.textL rn it op false ks
end
/-- Whether the names of a condition can be read again. -/
def condF (rn it : List ByteArray) (op : ByteArray) (a b : Int) : Bool := if op = sRule then wordOk rn a.toNat else if op = sItem then wordOk it a.toNat else if op = sMore then wordOk it b.toNat else true
mutual
def Mk.named (rn it : List ByteArray) : Mk → Bool
 | .node op a b ks => condF rn it op a b && Mk.namedL rn it ks
def Mk.namedL (rn it : List ByteArray) : List Mk → Bool
 | [] => true
 | k :: ks => Mk.named rn it k && Mk.namedL rn it ks
end
theorem textL_snoc (rn it : List ByteArray) (op : ByteArray) (ks : List Mk) (k : Mk) : ∀ f, Mk.textL rn it op f (ks ++ [k]) = Mk.textL rn it op f ks ++ (sepT op (f && ks.isEmpty) ++ wrapT (parT op k.op) (Mk.text rn it k)) := by
 induction ks with
 | nil => intro f; cases f <;> simp [Mk.textL]
 | cons x xs ih => intro f; simp [Mk.textL, ih]
theorem namedL_snoc (rn it : List ByteArray) (ks : List Mk) (k : Mk) : Mk.namedL rn it (ks ++ [k]) = (Mk.namedL rn it ks && Mk.named rn it k) := by
 induction ks with
 | nil => simp [Mk.namedL]
 | cons x xs ih => simp [Mk.namedL, ih, Bool.and_assoc]
theorem checkL_mem {ni nr : Nat} {ks : List Mk} (h : Mk.checkL ni nr ks = 0) : ∀ k ∈ ks, k.check ni nr = 0 := by
 induction ks with
 | nil => intro k hk; cases hk
 | cons x xs ih =>
   simp only [Mk.checkL] at h
   split at h
   ·rename_i hx; exact absurd h hx
   ·rename_i hx
    intro k hk
    rcases List.mem_cons.1 hk with rfl | hk
    ·exact Classical.not_not.1 hx
    ·exact ih h k hk
theorem check_node {ni nr : Nat} {op : ByteArray} {a b : Int} {ks : List Mk} (h : (Mk.node op a b ks).check ni nr = 0) : aloneE ni nr op a b ks.length = 0 ∧ ∀ k ∈ ks, k.check ni nr = 0 := by
 simp only [Mk.check] at h
 split at h
 ·rename_i hx; exact absurd h hx
 ·rename_i hx
  exact ⟨Classical.not_not.1 hx, checkL_mem h⟩
theorem alone_cond {ni nr : Nat} {op : ByteArray} {a b : Int} {n : Nat} (h : aloneE ni nr op a b n = 0) (h1 : op ≠ sAnd) (h2 : op ≠ sOr) (h3 : op ≠ sNot) : isOp op = true ∧ n = 0 ∧ namesOk op ni nr a b = true ∧ rangeK op a b = true := by
 unfold aloneE at h
 rw [if_neg (by simp [h1, h2]), if_neg h3] at h
 split at h
 ·cases h
 ·rename_i h4
  split at h
  ·cases h
  ·rename_i h5
   split at h
   ·cases h
   ·rename_i h6
    simp only [not_or] at h4
    exact ⟨by simpa using h4.1, by omega, by simpa using h5, by simpa using h6⟩
theorem alone_not {ni nr : Nat} {a b : Int} {n : Nat} (h : aloneE ni nr sNot a b n = 0) : n = 1 := by
 unfold aloneE at h
 rw [if_neg (by decide), if_pos rfl] at h
 split at h
 ·cases h
 ·rename_i h4; simp only [not_or] at h4; exact Classical.not_not.1 h4.1
theorem isOp_size {op : ByteArray} (h : isOp op = true) : op.data.toList.length ≤ 7 := by
 unfold isOp at h
 simp only [Bool.or_eq_true, decide_eq_true_eq] at h
 rcases h with ((((((rfl | rfl) | rfl) | rfl) | rfl) | rfl) | rfl) | rfl <;> decide
theorem nmAt_len {l : List ByteArray} (h : ∀ s ∈ l, s.size ≤ 8192) (k : Int) : (nmAt l k).data.toList.length ≤ 8192 := by
 unfold nmAt
 cases hq : l[k.toNat]? with
 | none => decide
 | some s => exact h s (List.mem_of_getElem? hq)
theorem kind_len : ∀ s ∈ kindNs, s.size ≤ 8192 := by decide
theorem condT_len {rn it : List ByteArray} (h1 : ∀ s ∈ rn, s.size ≤ 8192) (h2 : ∀ s ∈ it, s.size ≤ 8192) {op : ByteArray} (ho : isOp op = true) {a b : Int} (ha : In64 a) (hb : In64 b) : (condT rn it op a b).length ≤ 8230 := by
 have i1 := Lib.itoa_length_le a ha.1 ha.2
 have i2 := Lib.itoa_length_le b hb.1 hb.2
 have o := isOp_size ho
 have k0 := nmAt_len kind_len a
 have k1 := nmAt_len h1 a
 have k2 := nmAt_len h2 a
 have k3 := nmAt_len h2 b
 unfold condT
 simp only [List.length_append, List.length_cons, List.length_nil]
 split
 ·omega
 split
 ·omega
 split
 ·omega
 split
 ·simp only [List.length_append, List.length_cons, List.length_nil]; omega
 split
 ·simp only [List.length_append, List.length_cons, List.length_nil]; omega
 ·omega
theorem wrapT_len (p : Bool) (l : List UInt8) : (wrapT p l).length ≤ l.length + 2 := by
 cases p <;> simp [wrapT]
theorem joinop_len {op : ByteArray} (h : op = sAnd ∨ op = sOr ∨ op = sNot) : op.data.toList.length ≤ 3 := by
 rcases h with rfl | rfl | rfl <;> decide
theorem sepT_len {op : ByteArray} (h : op = sAnd ∨ op = sOr ∨ op = sNot) (f : Bool) : (sepT op f).length ≤ 5 := by
 have := joinop_len h
 cases f <;> simp [sepT]; simpa using this
inductive Mk.In : Mk → Prop
 | mk (op : ByteArray) (a b : Int) (ks : List Mk) (ha : In64 a) (hb : In64 b) (each : ∀ k ∈ ks, Mk.In k) : Mk.In (.node op a b ks)
theorem textL_len {rn it : List ByteArray} {op : ByteArray} (h : op = sAnd ∨ op = sOr ∨ op = sNot) {ks : List Mk} (hk : ∀ k ∈ ks, (Mk.text rn it k).length + 7 ≤ 8250 * k.size) : ∀ f, (Mk.textL rn it op f ks).length ≤ 8250 * Mk.sizeL ks := by
 induction ks with
 | nil => intro f; simp [Mk.textL]
 | cons x xs ih =>
   intro f
   have h1 := hk x (List.mem_cons_self ..)
   have h2 := ih (fun k hk' => hk k (List.mem_cons_of_mem _ hk')) false
   have h3 := wrapT_len (parT op x.op) (Mk.text rn it x)
   have h4 := sepT_len h f
   simp only [Mk.textL, List.length_append, Mk.sizeL]
   omega
theorem text_len {rn it : List ByteArray} {ni nr : Nat} (h1 : ∀ s ∈ rn, s.size ≤ 8192) (h2 : ∀ s ∈ it, s.size ≤ 8192) : ∀ m : Mk, m.In → m.check ni nr = 0 → (Mk.text rn it m).length + 7 ≤ 8250 * m.size := by
 intro m
 induction m using Mk.ind with
 | h op a b ks ih =>
   intro hi hc
   obtain ⟨c1, c2⟩ := check_node hc
   cases hi with
   | mk _ _ _ _ ha hb each =>
     have hks := fun k hk => ih k hk (each k hk) (c2 k hk)
     simp only [Mk.text, Mk.size]
     split
     ·rename_i hj
      have := textL_len (op := op) (by rcases hj with h | h <;> simp [h]) hks true
      omega
     ·rename_i hj
      split
      ·rename_i hn
       have := textL_len (op := op) (by simp [hn]) hks true
       simp only [List.length_append, List.length_cons, List.length_nil]
       omega
      ·rename_i hn
       simp only [not_or] at hj
       obtain ⟨ho, _, _, _⟩ := alone_cond c1 hj.1 hj.2 hn
       have := condT_len h1 h2 ho ha hb
       omega
theorem MkM.Ok.in_ {w : World} {t : TypeId} {P : Nat → Prop} {m : MkM} (h : m.Ok w t P) : m.core.In := by
 induction h with
 | mk op a b ks s row len small hop ha hb _ ih =>
   refine .mk _ _ _ _ ha hb fun k hk => ?_
   rw [coreL_map] at hk
   obtain ⟨x, hx, rfl⟩ := List.mem_map.1 hk
   exact ih x hx
theorem lAnd : sAnd.toList = [97, 110, 100] := by decide +kernel
theorem lOr : sOr.toList = [111, 114] := by decide +kernel
theorem lNot : sNot.toList = [110, 111, 116] := by decide +kernel
set_option maxRecDepth 100000 in
set_option maxHeartbeats 2000000 in
theorem alone_any {w : World} {bm k b1 b2 b3 : Nat} (hm : MapC w bm k (condsM b1 b2 b3)) (op : ByteArray) (a b : Int) (A : Option Addr) (n c : Nat) (si sr st sx : Sl) (hop : op.size ≤ 8192) (hn : n ≤ 100000) :
 Calls Tryz.prog 84 #[.map (some bm), .agg #[.slice si.A si.n si.c, .slice sr.A sr.n sr.c, .slice st.A st.n st.c, .slice sx.A sx.n sx.c], .agg #[.string op, .int .i64 a, .int .i64 b, .slice A n c]] w fun e w' => e = .returned (.int .i64 (aloneE si.n sr.n op a b n)) ∧ Below w.heap.size w w' := by
 have y : Below w.heap.size w ((w.alloc (.cells #[.slice si.A si.n si.c, .slice sr.A sr.n sr.c, .slice st.A st.n st.c, .slice sx.A sx.n sx.c] 28)).alloc (.cells #[.string op, .int .i64 a, .int .i64 b, .slice A n c] 49)) := ((Below.refl _ _).alloc (Nat.le_refl _) _).alloc (by simp) _
 have Y := Lib.hid y
 have q1 : (op.toList == [97, 110, 100]) = decide (op = sAnd) := by rw [← lAnd]; exact eqL _ _
 have q2 : (op.toList == [111, 114]) = decide (op = sOr) := by rw [← lOr]; exact eqL _ _
 have q3 : (op.toList == [110, 111, 116]) = decide (op = sNot) := by rw [← lNot]; exact eqL _ _
 by_cases e1 : op = sAnd
 ·have al1 : n < 2 ∨ a ≠ 0 ∨ b ≠ 0 → aloneE si.n sr.n op a b n = 1 := fun h => by unfold aloneE; rw [if_pos (.inl e1), if_pos h]
  have al0 : ¬ n < 2 → a = 0 → b = 0 → aloneE si.n sr.n op a b n = 0 := fun h ha hb => by unfold aloneE; rw [if_pos (.inl e1), if_neg (by simp [h, ha, hb])]
  rw [decide_eq_true e1] at q1
  clear e1 q2 q3 hm y
  by_cases hk : (n : Int) < 2
  ·have HQ : Hid (aloneE si.n sr.n op a b n = 1) := Lib.hid (al1 (.inl (by omega)))
   clear al0 al1
   go_enter Tryz.func84, Tryz.ntmps84
   go_wp2
   go_ret
   exact ⟨by rw [HQ.out]; rfl, Y.out⟩
  by_cases ha : a = 0
  ·subst ha
   by_cases hb : b = 0
   ·subst hb
    have HQ : Hid (aloneE si.n sr.n op 0 0 n = 0) := Lib.hid (al0 (by omega) rfl rfl)
    clear al0 al1
    go_enter Tryz.func84, Tryz.ntmps84
    go_wp2
    go_ret
    exact ⟨by rw [HQ.out]; rfl, Y.out⟩
   ·have HQ : Hid (aloneE si.n sr.n op 0 b n = 1) := Lib.hid (al1 (.inr (.inr hb)))
    clear al0 al1
    go_enter Tryz.func84, Tryz.ntmps84
    go_wp2
    go_ret
    exact ⟨by rw [HQ.out]; rfl, Y.out⟩
  ·have HQ : Hid (aloneE si.n sr.n op a b n = 1) := Lib.hid (al1 (.inr (.inl ha)))
   clear al0 al1
   go_enter Tryz.func84, Tryz.ntmps84
   go_wp2
   go_ret
   exact ⟨by rw [HQ.out]; rfl, Y.out⟩
 rw [decide_eq_false e1] at q1
 by_cases e2 : op = sOr
 ·have al1 : n < 2 ∨ a ≠ 0 ∨ b ≠ 0 → aloneE si.n sr.n op a b n = 1 := fun h => by unfold aloneE; rw [if_pos (.inr e2), if_pos h]
  have al0 : ¬ n < 2 → a = 0 → b = 0 → aloneE si.n sr.n op a b n = 0 := fun h ha hb => by unfold aloneE; rw [if_pos (.inr e2), if_neg (by simp [h, ha, hb])]
  rw [decide_eq_true e2] at q2
  clear e1 e2 q3 hm y
  by_cases hk : (n : Int) < 2
  ·have HQ : Hid (aloneE si.n sr.n op a b n = 1) := Lib.hid (al1 (.inl (by omega)))
   clear al0 al1
   go_enter Tryz.func84, Tryz.ntmps84
   go_wp2
   go_ret
   exact ⟨by rw [HQ.out]; rfl, Y.out⟩
  by_cases ha : a = 0
  ·subst ha
   by_cases hb : b = 0
   ·subst hb
    have HQ : Hid (aloneE si.n sr.n op 0 0 n = 0) := Lib.hid (al0 (by omega) rfl rfl)
    clear al0 al1
    go_enter Tryz.func84, Tryz.ntmps84
    go_wp2
    go_ret
    exact ⟨by rw [HQ.out]; rfl, Y.out⟩
   ·have HQ : Hid (aloneE si.n sr.n op 0 b n = 1) := Lib.hid (al1 (.inr (.inr hb)))
    clear al0 al1
    go_enter Tryz.func84, Tryz.ntmps84
    go_wp2
    go_ret
    exact ⟨by rw [HQ.out]; rfl, Y.out⟩
  ·have HQ : Hid (aloneE si.n sr.n op a b n = 1) := Lib.hid (al1 (.inr (.inl ha)))
   clear al0 al1
   go_enter Tryz.func84, Tryz.ntmps84
   go_wp2
   go_ret
   exact ⟨by rw [HQ.out]; rfl, Y.out⟩
 rw [decide_eq_false e2] at q2
 by_cases e3 : op = sNot
 ·have al1 : n ≠ 1 ∨ a ≠ 0 ∨ b ≠ 0 → aloneE si.n sr.n op a b n = 1 := fun h => by unfold aloneE; rw [if_neg (by simp [e1, e2]), if_pos e3, if_pos h]
  have al0 : n = 1 → a = 0 → b = 0 → aloneE si.n sr.n op a b n = 0 := fun h ha hb => by unfold aloneE; rw [if_neg (by simp [e1, e2]), if_pos e3, if_neg (by simp [h, ha, hb])]
  rw [decide_eq_true e3] at q3
  clear e1 e2 e3 hm y
  by_cases hk : n = 1
  ·subst hk
   by_cases ha : a = 0
   ·subst ha
    by_cases hb : b = 0
    ·subst hb
     have HQ : Hid (aloneE si.n sr.n op 0 0 1 = 0) := Lib.hid (al0 (by rfl) rfl rfl)
     clear al0 al1
     go_enter Tryz.func84, Tryz.ntmps84
     go_wp2
     go_ret
     exact ⟨by rw [HQ.out]; rfl, Y.out⟩
    ·have HQ : Hid (aloneE si.n sr.n op 0 b 1 = 1) := Lib.hid (al1 (.inr (.inr hb)))
     clear al0 al1
     go_enter Tryz.func84, Tryz.ntmps84
     go_wp2
     go_ret
     exact ⟨by rw [HQ.out]; rfl, Y.out⟩
   ·have HQ : Hid (aloneE si.n sr.n op a b 1 = 1) := Lib.hid (al1 (.inr (.inl ha)))
    clear al0 al1
    go_enter Tryz.func84, Tryz.ntmps84
    go_wp2
    go_ret
    exact ⟨by rw [HQ.out]; rfl, Y.out⟩
  have HQ : Hid (aloneE si.n sr.n op a b n = 1) := Lib.hid (al1 (.inl hk))
  have hk' : ¬ (n : Int) = 1 := by omega
  clear al0 al1 hk
  go_enter Tryz.func84, Tryz.ntmps84
  go_wp2
  go_ret
  exact ⟨by rw [HQ.out]; rfl, Y.out⟩
 rw [decide_eq_false e3] at q3
 have hlook := (hm.below y).look_ok (s := op) (by unfold maxLen; omega)
 have al : aloneE si.n sr.n op a b n = if isOp op = false ∨ 0 < n ∨ (b ≠ 0 ∧ usesB op = false) then 1 else if namesOk op si.n sr.n a b = false then 6 else if rangeK op a b = false then 5 else 0 := by
  unfold aloneE; rw [if_neg (by simp [e1, e2]), if_neg e3]
 clear e1 e2 e3 hm y
 cases ho : isOp op
 ·have hz : condsM b1 b2 b3 op = none := by
   have := condsM_is b1 b2 b3 op
   rw [ho] at this
   cases hc : condsM b1 b2 b3 op with
   | none => rfl
   | some c => rw [hc] at this; cases this
  rw [hz] at hlook
  change (Instr.lookup 121 (.map (some bm)) (.string op) true).run Tryz.prog _ = .ok (.tuple #[.agg #[.bool false, .nilFunc, .nilFunc, .nilFunc], .bool false]) _ at hlook
  rw [if_pos (.inl ho)] at al
  have HQ := Lib.hid al
  clear al ho hz
  have y2 : Below w.heap.size w (((w.alloc (.cells #[.slice si.A si.n si.c, .slice sr.A sr.n sr.c, .slice st.A st.n st.c, .slice sx.A sx.n sx.c] 28)).alloc (.cells #[.string op, .int .i64 a, .int .i64 b, .slice A n c] 49)).alloc (.cells #[.bool false, .nilFunc, .nilFunc, .nilFunc] 169)) := Y.out.alloc (by simp; omega) _
  have Y := Lib.hid y2
  clear y2
  go_enter Tryz.func84, Tryz.ntmps84
  go_wp2
  go_ret
  exact ⟨by rw [HQ.out]; rfl, Y.out⟩
 ·obtain ⟨⟨u, f, cap, nm, rg⟩, hc, hu, hnm, hen, hrg, her⟩ := conds_ok b1 b2 b3 ho
  dsimp only at hu hnm hen hrg her
  rw [hc] at hlook
  change (Instr.lookup 121 (.map (some bm)) (.string op) true).run Tryz.prog _ = .ok (.tuple #[.agg #[.bool u, .func (.func f) #[] (capsV cap), .func (.func nm) #[] #[], .func (.func rg) #[] #[]], .bool true]) _ at hlook
  generalize capsV cap = cv at *
  have y2 : Below w.heap.size w (((w.alloc (.cells #[.slice si.A si.n si.c, .slice sr.A sr.n sr.c, .slice st.A st.n st.c, .slice sx.A sx.n sx.c] 28)).alloc (.cells #[.string op, .int .i64 a, .int .i64 b, .slice A n c] 49)).alloc (.cells #[.bool u, .func (.func f) #[] cv, .func (.func nm) #[] #[], .func (.func rg) #[] #[]] 169)) := Y.out.alloc (by simp; omega) _
  have Y := Lib.hid y2
  rw [← hu] at al
  have hen' : ∀ (args : Array Value) (W : World), (callFunc nm args).run Tryz.prog W = .ok (.enter nm args) W := hen
  have her' : ∀ (args : Array Value) (W : World), (callFunc rg args).run Tryz.prog W = .ok (.enter rg args) W := her
  have HNM := Lib.hid (hnm op a b A n c si sr st sx (((w.alloc (.cells #[.slice si.A si.n si.c, .slice sr.A sr.n sr.c, .slice st.A st.n st.c, .slice sx.A sx.n sx.c] 28)).alloc (.cells #[.string op, .int .i64 a, .int .i64 b, .slice A n c] 49)).alloc (.cells #[.bool u, .func (.func f) #[] cv, .func (.func nm) #[] #[], .func (.func rg) #[] #[]] 169)))
  have HRG := Lib.hid (fun W => hrg op a b A n c W)
  have hno : ¬ isOp op = false := by rw [ho]; simp
  have HAL := Lib.hid al
  have BK : Hid (Bk (((w.alloc (.cells #[.slice si.A si.n si.c, .slice sr.A sr.n sr.c, .slice st.A st.n st.c, .slice sx.A sx.n sx.c] 28)).alloc (.cells #[.string op, .int .i64 a, .int .i64 b, .slice A n c] 49)).alloc (.cells #[.bool u, .func (.func f) #[] cv, .func (.func nm) #[] #[], .func (.func rg) #[] #[]] 169)) (w.heap.size + 1) 49 [.string op, .int .i64 a, .int .i64 b, .slice A n c]) := by
   have := (Bk.new (w.alloc (.cells #[.slice si.A si.n si.c, .slice sr.A sr.n sr.c, .slice st.A st.n st.c, .slice sx.A sx.n sx.c] 28)) 49 [.string op, .int .i64 a, .int .i64 b, .slice A n c]).alloc (.cells #[.bool u, .func (.func f) #[] cv, .func (.func nm) #[] #[], .func (.func rg) #[] #[]] 169)
   rw [World.size_alloc] at this
   exact Lib.hid this
  have BB : Hid (Bk (((w.alloc (.cells #[.slice si.A si.n si.c, .slice sr.A sr.n sr.c, .slice st.A st.n st.c, .slice sx.A sx.n sx.c] 28)).alloc (.cells #[.string op, .int .i64 a, .int .i64 b, .slice A n c] 49)).alloc (.cells #[.bool u, .func (.func f) #[] cv, .func (.func nm) #[] #[], .func (.func rg) #[] #[]] 169)) (w.heap.size + 1 + 1) 169 [.bool u, .func (.func f) #[] cv, .func (.func nm) #[] #[], .func (.func rg) #[] #[]]) := by
   have := Bk.new ((w.alloc (.cells #[.slice si.A si.n si.c, .slice sr.A sr.n sr.c, .slice st.A st.n st.c, .slice sx.A sx.n sx.c] 28)).alloc (.cells #[.string op, .int .i64 a, .int .i64 b, .slice A n c] 49)) 169 [.bool u, .func (.func f) #[] cv, .func (.func nm) #[] #[], .func (.func rg) #[] #[]]
   rw [World.size_alloc, World.size_alloc] at this
   exact Lib.hid this
  clear hc hu hnm hen hrg her y2 al
  by_cases hk : 0 < (n : Int)
  ·have HQ : Hid (aloneE si.n sr.n op a b n = 1) := by show _ = _; rw [HAL.out, if_pos (.inr (.inl (by omega)))]
   clear HAL HNM HRG hno ho
   go_enter Tryz.func84, Tryz.ntmps84
   go_wp2
   go_ret
   exact ⟨by rw [HQ.out]; rfl, Y.out⟩
  obtain rfl : n = 0 := by omega
  clear hk
  by_cases hb : b = 0
  ·subst hb
   have HQ : Hid (aloneE si.n sr.n op a 0 0 = if namesOk op si.n sr.n a 0 = false then 6 else if rangeK op a 0 = false then 5 else 0) := by show _ = _; rw [HAL.out, if_neg (by simp [ho])]
   clear HAL hno ho
   go_enter Tryz.func84, Tryz.ntmps84
   go_wp2_with fail
   refine HNM.out.mono ?_
   rintro e w1 ⟨rfl, hb1⟩
   have YB := Lib.hid (Y.out.trans (hb1.mono Y.out.size))
   have B8 := BB.out.below hb1 BB.out.lt
   have B5 := BK.out.below hb1 BK.out.lt
   have HR1 := Lib.hid (HRG.out w1)
   have f3 : w1.cell? ⟨w.heap.size + 1 + 1, 3, none⟩ = some (.func (.func rg) #[] #[]) := B8.cell 3
   have l8 := B8.lt
   have c0 : w1.cell? ⟨w.heap.size + 1, 0, none⟩ = some (.string op) := B5.cell 0
   have c1 : w1.cell? ⟨w.heap.size + 1, 1, none⟩ = some (.int .i64 a) := B5.cell 1
   have c2 : w1.cell? ⟨w.heap.size + 1, 2, none⟩ = some (.int .i64 0) := B5.cell 2
   have c3 : w1.cell? ⟨w.heap.size + 1, 3, none⟩ = some (.slice A 0 c) := B5.cell 3
   have l5 := B5.lt
   clear HNM hb1 B8 B5 HRG BB BK
   cases hnq : namesOk op si.n sr.n a 0
   ·have HQ2 : Hid (aloneE si.n sr.n op a 0 0 = 6) := by show _ = _; rw [HQ.out, if_pos hnq]
    clear HQ hnq
    go_wp2
    go_ret
    exact ⟨by rw [HQ2.out]; rfl, YB.out⟩
   ·have HQ2 : Hid (aloneE si.n sr.n op a 0 0 = if rangeK op a 0 = false then 5 else 0) := by show _ = _; rw [HQ.out, if_neg (by simp [hnq])]
    clear HQ hnq
    go_wp2_with fail
    refine HR1.out.mono ?_
    rintro e w2 ⟨rfl, hb2⟩
    have YC := Lib.hid (YB.out.trans (hb2.mono YB.out.size))
    clear HR1 hb2 YB
    cases hrq : rangeK op a 0
    ·have HQ3 : Hid (aloneE si.n sr.n op a 0 0 = 5) := by show _ = _; rw [HQ2.out, if_pos hrq]
     clear HQ2 hrq
     go_wp2
     go_ret
     exact ⟨by rw [HQ3.out]; rfl, YC.out⟩
    ·have HQ3 : Hid (aloneE si.n sr.n op a 0 0 = 0) := by show _ = _; rw [HQ2.out, if_neg (by simp [hrq])]
     clear HQ2 hrq
     go_wp2
     go_ret
     exact ⟨by rw [HQ3.out]; rfl, YC.out⟩
  ·cases u
   ·have HQ : Hid (aloneE si.n sr.n op a b 0 = 1) := by show _ = _; rw [HAL.out, if_pos (.inr (.inr ⟨hb, rfl⟩))]
    clear HAL HNM HRG hno ho
    go_enter Tryz.func84, Tryz.ntmps84
    go_wp2
    go_ret
    exact ⟨by rw [HQ.out]; rfl, Y.out⟩
   ·have HQ : Hid (aloneE si.n sr.n op a b 0 = if namesOk op si.n sr.n a b = false then 6 else if rangeK op a b = false then 5 else 0) := by show _ = _; rw [HAL.out, if_neg (by simp [ho])]
    clear HAL hno ho
    go_enter Tryz.func84, Tryz.ntmps84
    go_wp2_with fail
    refine HNM.out.mono ?_
    rintro e w1 ⟨rfl, hb1⟩
    have YB := Lib.hid (Y.out.trans (hb1.mono Y.out.size))
    have B8 := BB.out.below hb1 BB.out.lt
    have B5 := BK.out.below hb1 BK.out.lt
    have HR1 := Lib.hid (HRG.out w1)
    have f3 : w1.cell? ⟨w.heap.size + 1 + 1, 3, none⟩ = some (.func (.func rg) #[] #[]) := B8.cell 3
    have l8 := B8.lt
    have c0 : w1.cell? ⟨w.heap.size + 1, 0, none⟩ = some (.string op) := B5.cell 0
    have c1 : w1.cell? ⟨w.heap.size + 1, 1, none⟩ = some (.int .i64 a) := B5.cell 1
    have c2 : w1.cell? ⟨w.heap.size + 1, 2, none⟩ = some (.int .i64 b) := B5.cell 2
    have c3 : w1.cell? ⟨w.heap.size + 1, 3, none⟩ = some (.slice A 0 c) := B5.cell 3
    have l5 := B5.lt
    clear HNM hb1 B8 B5 HRG BB BK
    cases hnq : namesOk op si.n sr.n a b
    ·have HQ2 : Hid (aloneE si.n sr.n op a b 0 = 6) := by show _ = _; rw [HQ.out, if_pos hnq]
     clear HQ hnq
     go_wp2
     go_ret
     exact ⟨by rw [HQ2.out]; rfl, YB.out⟩
    ·have HQ2 : Hid (aloneE si.n sr.n op a b 0 = if rangeK op a b = false then 5 else 0) := by show _ = _; rw [HQ.out, if_neg (by simp [hnq])]
     clear HQ hnq
     go_wp2_with fail
     refine HR1.out.mono ?_
     rintro e w2 ⟨rfl, hb2⟩
     have YC := Lib.hid (YB.out.trans (hb2.mono YB.out.size))
     clear HR1 hb2 YB
     cases hrq : rangeK op a b
     ·have HQ3 : Hid (aloneE si.n sr.n op a b 0 = 5) := by show _ = _; rw [HQ2.out, if_pos hrq]
      clear HQ2 hrq
      go_wp2
      go_ret
      exact ⟨by rw [HQ3.out]; rfl, YC.out⟩
     ·have HQ3 : Hid (aloneE si.n sr.n op a b 0 = 0) := by show _ = _; rw [HQ2.out, if_neg (by simp [hrq])]
      clear HQ2 hrq
      go_wp2
      go_ret
      exact ⟨by rw [HQ3.out]; rfl, YC.out⟩
set_option maxRecDepth 100000 in
set_option maxHeartbeats 1000000 in
theorem check_any {bm kk b1 b2 b3 : Nat} (si sr st sx : Sl) : ∀ (M : MkM) (w : World) (P : Nat → Prop), M.Ok w 49 P → MapC w bm kk (condsM b1 b2 b3) →
 Calls Tryz.prog 55 #[.map (some bm), .agg #[.slice si.A si.n si.c, .slice sr.A sr.n sr.c, .slice st.A st.n st.c, .slice sx.A sx.n sx.c], .agg #[.string M.op, .int .i64 M.a, .int .i64 M.b, .slice M.s.A M.s.n M.s.c]] w fun e w' => e = .returned (.int .i64 (M.core.check si.n sr.n)) ∧ Below w.heap.size w w' := by
 intro M
 induction M using MkM.ind with
 | h M ih =>
   intro w P h hm
   have y : Below w.heap.size w ((w.alloc (.cells #[.slice si.A si.n si.c, .slice sr.A sr.n sr.c, .slice st.A st.n st.c, .slice sx.A sx.n sx.c] 28)).alloc (.cells #[.string M.op, .int .i64 M.a, .int .i64 M.b, .slice M.s.A M.s.n M.s.c] 49)) := ((Below.refl _ _).alloc (Nat.le_refl _) _).alloc (by simp) _
   have Y := Lib.hid y
   have KA := Lib.hid (alone_any (hm.below y) M.op M.a M.b M.s.A M.s.n M.s.c si sr st sx h.hop h.small)
   have B4 := Lib.hid ((Bk.new w 28 [.slice si.A si.n si.c, .slice sr.A sr.n sr.c, .slice st.A st.n st.c, .slice sx.A sx.n sx.c]).alloc (.cells #[.string M.op, .int .i64 M.a, .int .i64 M.b, .slice M.s.A M.s.n M.s.c] 49))
   have B5 : Hid (Bk ((w.alloc (.cells #[.slice si.A si.n si.c, .slice sr.A sr.n sr.c, .slice st.A st.n st.c, .slice sx.A sx.n sx.c] 28)).alloc (.cells #[.string M.op, .int .i64 M.a, .int .i64 M.b, .slice M.s.A M.s.n M.s.c] 49)) (w.heap.size + 1) 49 [.string M.op, .int .i64 M.a, .int .i64 M.b, .slice M.s.A M.s.n M.s.c]) := by
    have := Bk.new (w.alloc (.cells #[.slice si.A si.n si.c, .slice sr.A sr.n sr.c, .slice st.A st.n st.c, .slice sx.A sx.n sx.c] 28)) 49 [.string M.op, .int .i64 M.a, .int .i64 M.b, .slice M.s.A M.s.n M.s.c]
    rw [World.size_alloc] at this
    exact Lib.hid this
   have Hn := Lib.hid h.len
   have H := Lib.hid h
   have HM := Lib.hid hm
   have hs := h.small
   have hT : M.core.check si.n sr.n = if aloneE si.n sr.n M.op M.a M.b M.s.n ≠ 0 then aloneE si.n sr.n M.op M.a M.b M.s.n else Mk.checkL si.n sr.n ((M.ks.drop 0).map MkM.core) := by
    rw [List.drop_zero, ← coreL_map, h.len, ← coreL_len]; cases M; rfl
   have HT := Lib.hid hT
   have HI := Lib.hid ih
   generalize M.core.check si.n sr.n = T at *
   obtain ⟨mop, ma, mbb, l, s⟩ := M
   dsimp only [MkM.ks, MkM.s, MkM.op, MkM.a, MkM.b] at *
   obtain ⟨A, n, c⟩ := s
   dsimp only at *
   clear h hT ih hm y
   go_enter Tryz.func55, Tryz.ntmps55
   go_wp2_with fail
   refine KA.out.mono ?_
   rintro e w1 ⟨rfl, hb1⟩
   have Y1 := Lib.hid (Y.out.trans (hb1.mono Y.out.size))
   have B41 := B4.out.below hb1 B4.out.lt
   have B51 := B5.out.below hb1 B5.out.lt
   have c0 : w1.cell? ⟨w.heap.size + 1, 3, none⟩ = some (.slice A n c) := B51.cell 3
   have l5 := B51.lt
   have HB4 := Lib.hid B41
   clear KA hb1 B4 B5 B51 B41 Y
   cases ha : (aloneE si.n sr.n mop ma mbb n == 0)
   ·have HQ : Hid (T = aloneE si.n sr.n mop ma mbb n) := by show T = _; rw [HT.out, if_pos (by simpa using ha)]
    generalize aloneE si.n sr.n mop ma mbb n = er at *
    have ha' : ¬ er = 0 := by simpa using ha
    clear HT HI
    go_wp2
    go_ret
    exact ⟨by rw [HQ.out]; rfl, Y1.out⟩
   ·have ha0 : aloneE si.n sr.n mop ma mbb n = 0 := by simpa using ha
    have HQ : Hid (T = Mk.checkL si.n sr.n ((l.drop 0).map MkM.core)) := by show T = _; rw [HT.out, if_neg (by simpa using ha)]
    rw [ha0]
    clear HT ha ha0
    go_wp2_with fail
    go_loopw [21] (fun i wr => ∃ k : Nat, k ≤ n ∧ i = .int .i64 k ∧ T = Mk.checkL si.n sr.n ((l.drop k).map MkM.core) ∧ Below w.heap.size w wr ∧ Bk wr w.heap.size 28 [.slice si.A si.n si.c, .slice sr.A sr.n sr.c, .slice st.A st.n st.c, .slice sx.A sx.n sx.c]) (fun i _ => n - (intOf i).toNat)
    case atStart => exact ⟨0, Nat.zero_le _, rfl, HQ.out, Y1.out, HB4.out⟩
    case round =>
     obtain ⟨k, hk, rfl, hR, hb, hB⟩ := hrel
     have HB := Lib.hid hb
     have hsz := hb.size
     by_cases hlt : k < n
     ·have hkl : k < l.length := by have := Hn.out; omega
      obtain ⟨b, off, rfl, hbb, c0, c1, c2, c3⟩ := (H.out.bel hb).at_ k hkl
      dsimp only [MkM.ks, MkM.s] at c0 c1 c2 c3
      have hdr : l.drop k = l[k] :: l.drop (k + 1) := List.drop_eq_getElem_cons hkl
      have HR2 : Hid (T = if l[k].core.check si.n sr.n ≠ 0 then l[k].core.check si.n sr.n else Mk.checkL si.n sr.n ((l.drop (k + 1)).map MkM.core)) := by
       show T = _
       rw [hR, hdr, List.map_cons]; rfl
      have hmem := List.getElem_mem hkl
      have y2 : Below wr.heap.size wr (wr.alloc (.cells #[.string l[k].op, .int .i64 l[k].a, .int .i64 l[k].b, .slice l[k].s.A l[k].s.n l[k].s.c] 49)) := (Below.refl _ _).alloc (Nat.le_refl _) _
      have HC := Lib.hid (HI.out l[k] hmem _ P (((H.out.bel hb).each l[k] hmem).bel y2) ((HM.out.below hb).below y2))
      have HB2 := Lib.hid (hb.trans (y2.mono hsz))
      have hBk := hB.below y2 hB.lt
      have e0 : wr.cell? ⟨w.heap.size, 0, none⟩ = some (.slice si.A si.n si.c) := hB.cell 0
      have e1 : wr.cell? ⟨w.heap.size, 1, none⟩ = some (.slice sr.A sr.n sr.c) := hB.cell 1
      have e2 : wr.cell? ⟨w.heap.size, 2, none⟩ = some (.slice st.A st.n st.c) := hB.cell 2
      have e3 : wr.cell? ⟨w.heap.size, 3, none⟩ = some (.slice sx.A sx.n sx.c) := hB.cell 3
      have el := hB.lt
      have HBk := Lib.hid hBk
      clear hmem hdr hR hb y2 hB hBk HB4
      generalize l[k] = t at *
      generalize t.core.check si.n sr.n = z at *
      clear hkl
      go_wp2_with fail
      refine HC.out.mono ?_
      rintro e w1 ⟨rfl, hb1⟩
      have HB3 := Lib.hid (HB2.out.trans (hb1.mono HB2.out.size))
      have HBk3 := Lib.hid (HBk.out.below hb1 HBk.out.lt)
      clear HC hb1 HB2 HBk
      by_cases hz : z = 0
      ·subst hz
       have HF : Hid (T = Mk.checkL si.n sr.n ((l.drop (k + 1)).map MkM.core)) := by show T = _; rw [HR2.out, if_neg (by simp)]
       clear HR2
       go_wp2
       go_roundw
       case rel => exact ⟨k + 1, by omega, by go_num, HF.out, HB3.out, HBk3.out⟩
       case measure => simp [intOf]; omega
      ·have HF : Hid (T = z) := by show T = _; rw [HR2.out, if_pos hz]
       clear HR2
       go_wp2
       go_ret
       exact ⟨by rw [HF.out]; rfl, HB3.out⟩
     ·have hkn : k = n := by omega
      have HF : Hid (T = 0) := by
       show T = 0
       rw [hR, hkn, List.drop_of_length_le (by have := Hn.out; omega)]; rfl
      clear hR hkn
      go_wp2
      go_ret
      exact ⟨by rw [HF.out]; rfl, HB.out⟩
end Go.Proofs.YtocodlpgaamblaaGreatDoor
