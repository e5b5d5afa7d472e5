/- What a mark's text reads as. Steps in memory; the tests of conditions. reading: the reader of tokens. The table of conditions: a map from words to tests. conditions: the table of conditions. Matches: which steps a mark chooses. Matches: which steps a mark chooses. The parser's state; names. The names of a catalog's items and rules. The parser's state; find, name. The parser reads a name; the tests of ranges. -/
import Derived.Test.YtocodlpgaamblaaGreatDoorS3
import Derived.WalkKit
import Derived.Maps.Own
import Derived.Maps.OwnOps
import Derived.Maps.OwnSet
import Derived.Laws.EntriesVeiled
set_option linter.unusedVariables false
set_option linter.unusedSimpArgs false
open Go.RowKit
namespace Go.Proofs.YtocodlpgaamblaaGreatDoor
section
/-- The first index of a name. -/
def nameIx : List ByteArray → ByteArray → Option Nat
 | [], _ => none
 | x :: xs, s => if x = s then some 0 else (nameIx xs s).map (· + 1)
theorem nameIx_lt {l : List ByteArray} {s : ByteArray} {k : Nat} (h : nameIx l s = some k) : k < l.length := by
 induction l generalizing k with
 | nil => simp [nameIx] at h
 | cons x xs ih =>
   simp only [nameIx] at h
   split at h
   ·simp at h; subst h; simp
   ·cases hq : nameIx xs s with
    | none => rw [hq] at h; simp at h
    | some j => rw [hq] at h; simp at h; subst h; have := ih hq; simp; omega
abbrev PSt := Int × Int
inductive PR (α : Type) where
 | bad (rest : List Tok)
 | ok (v : α) (rest : List Tok) (st : PSt)
def PSt.note (st : PSt) (e a : Int) : PSt := if st.1 = 0 then (e, a) else st
def sNot : ByteArray := ⟨#[110, 111, 116]⟩
def sAnd : ByteArray := ⟨#[97, 110, 100]⟩
def sOr : ByteArray := ⟨#[111, 114]⟩
def sOpen : ByteArray := ⟨#[40]⟩
def sClose : ByteArray := ⟨#[41]⟩
def sDot : ByteArray := ⟨#[46]⟩
def sKind : ByteArray := ⟨#[107, 105, 110, 100]⟩
def sActor : ByteArray := ⟨#[97, 99, 116, 111, 114]⟩
def sRule : ByteArray := ⟨#[114, 117, 108, 101]⟩
def sTick : ByteArray := ⟨#[116, 105, 99, 107]⟩
def sItem : ByteArray := ⟨#[105, 116, 101, 109]⟩
def sMore : ByteArray := ⟨#[109, 111, 114, 101]⟩
def sStep : ByteArray := ⟨#[115, 116, 101, 112]⟩
def sAccount : ByteArray := ⟨#[97, 99, 99, 111, 117, 110, 116]⟩
/-- Whether the next token has a kind and a text. -/
def headB (ts : List Tok) (k : Int) (s : ByteArray) : Bool := match ts with | t :: _ => t.kind == k && decide (t.text = s) | [] => false
def kindB (ts : List Tok) (k : Int) : Bool := match ts with | t :: _ => t.kind == k | [] => false
/-- A name of a list. -/
def nameP (l : List ByteArray) (f : Int → Mk) (ts : List Tok) (st : PSt) : PR Mk :=
 match ts with
 | [] => .bad []
 | t :: r => if t.kind ≠ 0 then .bad (t :: r) else
   match nameIx l t.text with
   | some i => .ok (f i) r st
   | none => .ok (f 0) r (st.note 6 t.at_)
def isTwo (op : ByteArray) : Bool := decide (op = sTick) || decide (op = sStep)
/-- Whether the numbers of a condition are in range. -/
def rangeOk (op : ByteArray) (a b : Int) : Bool := if isTwo op then decide (0 ≤ a) && decide (a ≤ b) && decide (b ≤ 1099511627776) else decide (0 ≤ a) && decide (a ≤ 1073741824)
def numsP (op : ByteArray) (ts : List Tok) (st : PSt) : PR Mk :=
 match ts with
 | [] => .bad []
 | t :: r => if t.kind ≠ 1 then .bad (t :: r) else
   if isTwo op then
    if headB r 2 sDot = false then .bad r else
    if headB r.tail 2 sDot = false then .bad r.tail else
    match r.tail.tail with
    | [] => .bad []
    | u :: r2 => if u.kind ≠ 1 then .bad (u :: r2) else .ok (.node op t.num u.num []) r2 (if rangeOk op t.num u.num then st else st.note 5 u.at_)
   else .ok (.node op t.num 0 []) r (if rangeOk op t.num 0 then st else st.note 5 t.at_)
def isOp (s : ByteArray) : Bool := decide (s = sKind) || decide (s = sActor) || decide (s = sRule) || decide (s = sTick) || decide (s = sItem) || decide (s = sMore) || decide (s = sStep) || decide (s = sAccount)
def condP (kn rn it : List ByteArray) (ts : List Tok) (st : PSt) : PR Mk :=
 match ts with
 | [] => .bad []
 | t :: r => if t.kind ≠ 0 ∨ isOp t.text = false then .bad (t :: r) else
   if t.text = sKind then nameP kn (fun i => .node sKind i 0 []) r st
   else if t.text = sRule then nameP rn (fun i => .node sRule i 0 []) r st
   else if t.text = sItem then nameP it (fun i => .node sItem i 0 []) r st
   else if t.text = sMore then
    match r with
    | [] => .bad []
    | u :: r2 => if u.kind ≠ 1 then .bad (u :: r2) else nameP it (fun i => .node sMore u.num i []) r2 st
   else numsP t.text r st
def PR.not : PR Mk → PR Mk | .bad x => .bad x | .ok m r st => .ok (.node sNot 0 0 [m]) r st
def PR.close : PR Mk → PR Mk | .bad x => .bad x | .ok m r st => if headB r 2 sClose then .ok m r.tail st else .bad r
def PR.joined (op : ByteArray) : PR (List Mk) → PR Mk | .bad x => .bad x | .ok ms r st => .ok (match ms with | [m] => m | l => .node op 0 0 l) r st
def jOp (o : Bool) : ByteArray := if o then sOr else sAnd
section
variable (kn rn it : List ByteArray)
mutual
def factP : Nat → List Tok → PSt → PR Mk
 | 0, ts, _ => .bad ts
 | n + 1, ts, st => if headB ts 0 sNot then (factP n ts.tail st).not else if headB ts 2 sOpen then (joinP n true ts.tail st).close else condP kn rn it ts st
def joinP : Nat → Bool → List Tok → PSt → PR Mk
 | 0, _, ts, _ => .bad ts
 | n + 1, o, ts, st => (listP n o ts st).joined (jOp o)
def listP : Nat → Bool → List Tok → PSt → PR (List Mk)
 | 0, _, ts, _ => .bad ts
 | n + 1, o, ts, st =>
   match (if o then joinP n false ts st else factP n ts st) with
   | .bad x => .bad x
   | .ok m r st' => if headB r 0 (jOp o) then (match listP n o r.tail st' with | .bad x => .bad x | .ok ms r' st'' => .ok (m :: ms) r' st'') else .ok [m] r st'
end
end
/-- What is left is shorter, and no error is forgotten. -/
def PR.good {α : Type} (ts : List Tok) (st : PSt) : PR α → Prop | .bad _ => True | .ok _ r st' => r.length < ts.length ∧ (st'.1 = 0 → st.1 = 0)
theorem note_zero {st : PSt} {e a : Int} (he : e ≠ 0) (h : (st.note e a).1 = 0) : st.1 = 0 := by
 unfold PSt.note at h
 split at h
 ·assumption
 ·exact h
theorem tail_lt {ts : List Tok} {k : Int} {s : ByteArray} (h : headB ts k s = true) : ts.tail.length < ts.length := by
 cases ts with
 | nil => simp [headB] at h
 | cons t r => simp
theorem nameP_good (l : List ByteArray) (f : Int → Mk) (ts : List Tok) (st : PSt) : (nameP l f ts st).good ts st := by
 cases ts with
 | nil => trivial
 | cons t r =>
   simp only [nameP]
   split
   ·trivial
   ·split
    ·exact ⟨by simp, id⟩
    ·exact ⟨by simp, note_zero (by decide)⟩
theorem numsP_good (op : ByteArray) (ts : List Tok) (st : PSt) : (numsP op ts st).good ts st := by
 cases ts with
 | nil => trivial
 | cons t r =>
   simp only [numsP]
   split
   ·trivial
   ·split
    ·split
     ·trivial
     ·split
      ·trivial
      ·split
       ·trivial
       ·rename_i he
        split
        ·trivial
        ·refine ⟨?_, fun h => ?_⟩
         ·have := congrArg List.length he; simp at this ⊢; omega
         ·split at h
          ·exact h
          ·exact note_zero (by decide) h
    ·refine ⟨by simp, fun h => ?_⟩
     split at h
     ·exact h
     ·exact note_zero (by decide) h
theorem PR.good.mono {α : Type} {ts us : List Tok} {st : PSt} {p : PR α} (h : p.good ts st) (hl : ts.length ≤ us.length) : p.good us st := by
 cases p with
 | bad x => trivial
 | ok v r st' => exact ⟨Nat.lt_of_lt_of_le h.1 hl, h.2⟩
theorem condP_good (kn rn it : List ByteArray) (ts : List Tok) (st : PSt) : (condP kn rn it ts st).good ts st := by
 cases ts with
 | nil => trivial
 | cons t r =>
   simp only [condP]
   split
   ·trivial
   ·split
    ·exact (nameP_good ..).mono (by simp)
    ·split
     ·exact (nameP_good ..).mono (by simp)
     ·split
      ·exact (nameP_good ..).mono (by simp)
      ·split
       ·split
        ·trivial
        ·split
         ·trivial
         ·exact (nameP_good ..).mono (by simp; omega)
       ·exact (numsP_good ..).mono (by simp)
section
variable (kn rn it : List ByteArray)
theorem good_all (n : Nat) : (∀ ts st, (factP kn rn it n ts st).good ts st) ∧ (∀ o ts st, (joinP kn rn it n o ts st).good ts st) ∧ (∀ o ts st, (listP kn rn it n o ts st).good ts st) := by
 induction n with
 | zero => exact ⟨fun _ _ => by simp [factP, PR.good], fun _ _ _ => by simp [joinP, PR.good], fun _ _ _ => by simp [listP, PR.good]⟩
 | succ n ih =>
   obtain ⟨h1, h2, h3⟩ := ih
   refine ⟨fun ts st => ?_, fun o ts st => ?_, fun o ts st => ?_⟩
   ·simp only [factP]
    split
    ·rename_i hh
     have := (h1 ts.tail st).mono (Nat.le_of_lt (tail_lt hh))
     revert this
     cases factP kn rn it n ts.tail st <;> exact id
    ·split
     ·rename_i hh
      have := (h2 true ts.tail st).mono (Nat.le_of_lt (tail_lt hh))
      revert this
      cases joinP kn rn it n true ts.tail st with
      | bad x => exact id
      | ok m r st' =>
        intro h
        simp only [PR.close]
        split
        ·rename_i hc
         exact ⟨Nat.lt_trans (tail_lt hc) h.1, h.2⟩
        ·trivial
     ·exact condP_good ..
   ·simp only [joinP]
    have := h3 o ts st
    revert this
    cases listP kn rn it n o ts st <;> exact id
   ·simp only [listP]
    have hg : (if o then joinP kn rn it n false ts st else factP kn rn it n ts st).good ts st := by
     split
     ·exact h2 false ts st
     ·exact h1 ts st
    revert hg
    cases (if o then joinP kn rn it n false ts st else factP kn rn it n ts st) with
    | bad x => exact id
    | ok m r st' =>
      intro h
      dsimp only
      split
      ·rename_i hh
       have := (h3 o r.tail st').mono (Nat.le_of_lt (tail_lt hh))
       revert this
       cases listP kn rn it n o r.tail st' with
       | bad x => exact id
       | ok ms r2 st2 => exact fun k => ⟨Nat.lt_trans k.1 h.1, fun z => h.2 (k.2 z)⟩
      ·exact h
end
/-- What Parse answers: an error with its offset, or a mark. -/
inductive PAns where
 | err (at_ code : Int)
 | mark (m : Mk)
def parseA (kn rn it : List ByteArray) (len : Int) (ts : List Tok) : PAns :=
 let bad := fun (r : List Tok) => PAns.err (match r with | t :: _ => t.at_ | [] => len) 2
 match joinP kn rn it (5 * ts.length + 5) true ts (0, 0) with
 | .bad r => bad r
 | .ok m r st => if r ≠ [] then bad r else if st.1 ≠ 0 then .err st.2 st.1 else if 64 < m.size ∨ 16 < m.depth then .err 0 4 else .mark m
end
structure MvM where
 from_ : Int
 to_ : Int
 item : Int
 n : Int
 sp : Sl
abbrev MvM.cells (v : MvM) : List Value := [.int .i64 v.from_, .int .i64 v.to_, .int .i64 v.item, .int .i64 v.n, .slice v.sp.A v.sp.n v.sp.c]
abbrev MvM.val (v : MvM) : Value := .agg #[.int .i64 v.from_, .int .i64 v.to_, .int .i64 v.item, .int .i64 v.n, .slice v.sp.A v.sp.n v.sp.c]
theorem MvM.cells_len (v : MvM) : v.cells.length = 5 := rfl
structure StepM where
 id : Int
 kind : Int
 actor : Int
 tick : Int
 rule : Int
 times : Int
 moves : List MvM
 sm : Sl
abbrev StepM.cells (s : StepM) : List Value := [.int .i64 s.id, .int .i64 s.kind, .int .i64 s.actor, .int .i64 s.tick, .int .i64 s.rule, .int .i64 s.times, .slice s.sm.A s.sm.n s.sm.c]
abbrev StepM.val (s : StepM) : Value := .agg #[.int .i64 s.id, .int .i64 s.kind, .int .i64 s.actor, .int .i64 s.tick, .int .i64 s.rule, .int .i64 s.times, .slice s.sm.A s.sm.n s.sm.c]
theorem StepM.cells_len (s : StepM) : s.cells.length = 7 := rfl
structure MovesV (w : World) (s : Sl) (l : List MvM) : Prop where
 row : TRow w 125 s.A (l.flatMap MvM.cells)
 len : s.n = l.length
 small : s.n ≤ 1000
theorem MovesV.keep {w w' : World} {s : Sl} {l : List MvM} (h : MovesV w s l) (h1 : Keep 125 w w') : MovesV w' s l := ⟨h.row.keep h1, h.len, h.small⟩
theorem MovesV.below {w w' : World} {s : Sl} {l : List MvM} (h : MovesV w s l) (hb : Below w.heap.size w w') : MovesV w' s l := h.keep (.below hb)
theorem MovesV.at_ {w : World} {s : Sl} {l : List MvM} (h : MovesV w s l) (k : Nat) (hk : k < l.length) : ∃ b off, s.A = some ⟨b, off, none⟩ ∧ b < w.heap.size ∧ w.cell? ⟨b, off + k * 5, none⟩ = some (.int .i64 l[k].from_) ∧ w.cell? ⟨b, off + k * 5 + 1, none⟩ = some (.int .i64 l[k].to_) ∧ w.cell? ⟨b, off + k * 5 + 2, none⟩ = some (.int .i64 l[k].item) ∧ w.cell? ⟨b, off + k * 5 + 3, none⟩ = some (.int .i64 l[k].n) ∧ w.cell? ⟨b, off + k * 5 + 4, none⟩ = some (.slice l[k].sp.A l[k].sp.n l[k].sp.c) := by
 obtain ⟨b, off, hA, hb, hc⟩ := TRow.at_ (f := MvM.cells) MvM.cells_len h.row k hk (by omega)
 exact ⟨b, off, hA, hb, hc 0 _ rfl, hc 1 _ rfl, hc 2 _ rfl, hc 3 _ rfl, hc 4 _ rfl⟩
structure StepM.Ok (w : World) (s : StepM) : Prop where
 moves : MovesV w s.sm s.moves
 id : In64 s.id
 kind : In64 s.kind
 actor : In64 s.actor
 tick : In64 s.tick
 rule : In64 s.rule
theorem StepM.Ok.below {w w' : World} {s : StepM} (h : s.Ok w) (hb : Below w.heap.size w w') : s.Ok w' := ⟨h.moves.below hb, h.id, h.kind, h.actor, h.tick, h.rule⟩
theorem StepM.Ok.keep {w w' : World} {s : StepM} (h : s.Ok w) (hk : Keep 125 w w') : s.Ok w' := ⟨h.moves.keep hk, h.id, h.kind, h.actor, h.tick, h.rule⟩
set_option maxRecDepth 100000 in
theorem t_kind (op : ByteArray) (a b : Int) (A : Option Addr) (n c : Nat) (s : StepM) (w : World) : Calls Tryz.prog 90 #[.agg #[.string op, .int .i64 a, .int .i64 b, .slice A n c], s.val] w fun e w' => e = .returned (.bool (s.kind == a)) ∧ Below w.heap.size w w' := by
 go_enter Tryz.func90, Tryz.ntmps90
 go_wp2
 go_ret
 exact ⟨rfl, ((Below.refl _ _).alloc (Nat.le_refl _) _).alloc (by simp) _⟩
set_option maxRecDepth 100000 in
theorem t_actor (op : ByteArray) (a b : Int) (A : Option Addr) (n c : Nat) (s : StepM) (w : World) : Calls Tryz.prog 92 #[.agg #[.string op, .int .i64 a, .int .i64 b, .slice A n c], s.val] w fun e w' => e = .returned (.bool (s.actor == a)) ∧ Below w.heap.size w w' := by
 go_enter Tryz.func92, Tryz.ntmps92
 go_wp2
 go_ret
 exact ⟨rfl, ((Below.refl _ _).alloc (Nat.le_refl _) _).alloc (by simp) _⟩
set_option maxRecDepth 100000 in
theorem t_rule (op : ByteArray) (a b : Int) (A : Option Addr) (n c : Nat) (s : StepM) (w : World) : Calls Tryz.prog 94 #[.agg #[.string op, .int .i64 a, .int .i64 b, .slice A n c], s.val] w fun e w' => e = .returned (.bool (s.rule == a || s.rule == wrap64 (-2 - a))) ∧ Below w.heap.size w w' := by
 cases q : (s.rule == a)
 ·have q' : (s.rule == a) = false := q
  go_enter Tryz.func94, Tryz.ntmps94
  go_wp2
  go_ret
  exact ⟨by simp, ((Below.refl _ _).alloc (Nat.le_refl _) _).alloc (by simp) _⟩
 ·have q' : (s.rule == a) = true := q
  go_enter Tryz.func94, Tryz.ntmps94
  go_wp2
  go_ret
  exact ⟨by simp, ((Below.refl _ _).alloc (Nat.le_refl _) _).alloc (by simp) _⟩
set_option maxRecDepth 100000 in
theorem t_tick (op : ByteArray) (a b : Int) (A : Option Addr) (n c : Nat) (s : StepM) (w : World) : Calls Tryz.prog 97 #[.agg #[.string op, .int .i64 a, .int .i64 b, .slice A n c], s.val] w fun e w' => e = .returned (.bool (decide (a ≤ s.tick) && decide (s.tick ≤ b))) ∧ Below w.heap.size w w' := by
 cases q : decide (a ≤ s.tick)
 ·have q' : decide (a ≤ s.tick) = false := q
  go_enter Tryz.func97, Tryz.ntmps97
  go_wp2
  go_ret
  exact ⟨by simp, ((Below.refl _ _).alloc (Nat.le_refl _) _).alloc (by simp) _⟩
 ·have q' : decide (a ≤ s.tick) = true := q
  go_enter Tryz.func97, Tryz.ntmps97
  go_wp2
  go_ret
  exact ⟨by simp, ((Below.refl _ _).alloc (Nat.le_refl _) _).alloc (by simp) _⟩
set_option maxRecDepth 100000 in
theorem t_step (op : ByteArray) (a b : Int) (A : Option Addr) (n c : Nat) (s : StepM) (w : World) : Calls Tryz.prog 104 #[.agg #[.string op, .int .i64 a, .int .i64 b, .slice A n c], s.val] w fun e w' => e = .returned (.bool (decide (a ≤ s.id) && decide (s.id ≤ b))) ∧ Below w.heap.size w w' := by
 cases q : decide (a ≤ s.id)
 ·have q' : decide (a ≤ s.id) = false := q
  go_enter Tryz.func104, Tryz.ntmps104
  go_wp2
  go_ret
  exact ⟨by simp, ((Below.refl _ _).alloc (Nat.le_refl _) _).alloc (by simp) _⟩
 ·have q' : decide (a ≤ s.id) = true := q
  go_enter Tryz.func104, Tryz.ntmps104
  go_wp2
  go_ret
  exact ⟨by simp, ((Below.refl _ _).alloc (Nat.le_refl _) _).alloc (by simp) _⟩
set_option maxRecDepth 100000 in
theorem t_item (op : ByteArray) (a b : Int) (A : Option Addr) (n c : Nat) (v : MvM) (w : World) : Calls Tryz.prog 99 #[.agg #[.string op, .int .i64 a, .int .i64 b, .slice A n c], v.val] w fun e w' => e = .returned (.bool (v.item == a)) ∧ Below w.heap.size w w' := by
 go_enter Tryz.func99, Tryz.ntmps99
 go_wp2
 go_ret
 exact ⟨rfl, ((Below.refl _ _).alloc (Nat.le_refl _) _).alloc (by simp) _⟩
set_option maxRecDepth 100000 in
theorem t_more (op : ByteArray) (a b : Int) (A : Option Addr) (n c : Nat) (v : MvM) (w : World) : Calls Tryz.prog 101 #[.agg #[.string op, .int .i64 a, .int .i64 b, .slice A n c], v.val] w fun e w' => e = .returned (.bool (v.item == b && decide (a < v.n))) ∧ Below w.heap.size w w' := by
 cases q : (v.item == b)
 ·have q' : (v.item == b) = false := q
  go_enter Tryz.func101, Tryz.ntmps101
  go_wp2
  go_ret
  exact ⟨by simp, ((Below.refl _ _).alloc (Nat.le_refl _) _).alloc (by simp) _⟩
 ·have q' : (v.item == b) = true := q
  go_enter Tryz.func101, Tryz.ntmps101
  go_wp2
  go_ret
  exact ⟨by simp, ((Below.refl _ _).alloc (Nat.le_refl _) _).alloc (by simp) _⟩
set_option maxRecDepth 100000 in
theorem t_account (op : ByteArray) (a b : Int) (A : Option Addr) (n c : Nat) (v : MvM) (w : World) : Calls Tryz.prog 105 #[.agg #[.string op, .int .i64 a, .int .i64 b, .slice A n c], v.val] w fun e w' => e = .returned (.bool (v.from_ == a || v.to_ == a)) ∧ Below w.heap.size w w' := by
 cases q : (v.from_ == a)
 ·have q' : (v.from_ == a) = false := q
  go_enter Tryz.func105, Tryz.ntmps105
  go_wp2
  go_ret
  exact ⟨by simp, ((Below.refl _ _).alloc (Nat.le_refl _) _).alloc (by simp) _⟩
 ·have q' : (v.from_ == a) = true := q
  go_enter Tryz.func105, Tryz.ntmps105
  go_wp2
  go_ret
  exact ⟨by simp, ((Below.refl _ _).alloc (Nat.le_refl _) _).alloc (by simp) _⟩
/-- The reader at block rb: the tokens that are left, and the text's end. -/
def RdAt (W : World) (rb : Nat) (ts : List Tok) (len : Int) : Prop :=
 ∃ A c, Bk W rb 176 [.slice A ts.length c, .int .i64 len] ∧ TRow W 186 A (kcells ts) ∧ ts.length ≤ c ∧ ts.length ≤ 8192 ∧ ∀ b off, A = some ⟨b, off, none⟩ → b < rb
theorem RdAt.lt {W : World} {rb : Nat} {ts : List Tok} {len : Int} (h : RdAt W rb ts len) : rb < W.heap.size := by
 obtain ⟨A, c, h1, _⟩ := h; exact h1.lt
theorem RdAt.keep {W W' : World} {rb : Nat} {ts : List Tok} {len : Int} (h : RdAt W rb ts len) (hk : ∀ i, i ≤ rb → W'.heap[i]? = W.heap[i]?) : RdAt W' rb ts len := by
 obtain ⟨A, c, h1, h2, h3, h4, h5⟩ := h
 refine ⟨A, c, (hk rb (Nat.le_refl _)).trans h1, ?_, h3, h4, h5⟩
 rcases h2 with h2 | ⟨b, off, cur, fl, hA, hb, hc⟩
 ·exact .inl h2
 ·exact .inr ⟨b, off, cur, fl, hA, (hk b (Nat.le_of_lt (h5 b off hA))).trans hb, hc⟩
theorem RdAt.upTo {W W' : World} {rb B : Nat} {ts : List Tok} {len : Int} (h : RdAt W rb ts len) (hb : Below B W W') (hB : rb < B) : RdAt W' rb ts len := h.keep fun i hi => hb.block i (by omega)
theorem RdAt.below {W W' : World} {rb : Nat} {ts : List Tok} {len : Int} (h : RdAt W rb ts len) (hb : Below W.heap.size W W') : RdAt W' rb ts len := h.upTo hb h.lt
theorem grown_new {w w' : World} {row : Option Nat} (h : w.grownBy w' row) {p : Addr} (hp : w.heap.size ≤ p.block) (u : Value) : w.grownBy (w'.setCell p u) row :=
 ⟨h.os, h.tape, h.output, by simpa [World.setCell] using h.size, fun i hi hne => (Below.heap_setCell w' p u i (by omega)).trans (h.block i hi hne)⟩
/-- A new block of four cells, laid. -/
theorem four_laid {w : World} {g : Nat} {t : TypeId} {x0 x1 x2 x3 : Value} (h : Bk w g t [x0, x1, x2, x3]) (a b c d : Value) : Bk ((((w.setCell ⟨g, 0, none⟩ a).setCell ⟨g, 1, none⟩ b).setCell ⟨g, 2, none⟩ c).setCell ⟨g, 3, none⟩ d) g t [a, b, c, d] :=
 (((h.set 0 a).set 1 b).set 2 c).set 3 d
theorem four_below {w : World} {B g : Nat} (hg : B ≤ g) (a b c d : Value) : Below B w ((((w.setCell ⟨g, 0, none⟩ a).setCell ⟨g, 1, none⟩ b).setCell ⟨g, 2, none⟩ c).setCell ⟨g, 3, none⟩ d) :=
 ((((Below.refl B w).setCell (p := ⟨g, 0, none⟩) hg a).setCell (p := ⟨g, 1, none⟩) hg b).setCell (p := ⟨g, 2, none⟩) hg c).setCell (p := ⟨g, 3, none⟩) hg d
theorem four_grown {w w' : World} {row : Option Nat} {g : Nat} (h : w.grownBy w' row) (hg : w.heap.size ≤ g) (a b c d : Value) : w.grownBy ((((w'.setCell ⟨g, 0, none⟩ a).setCell ⟨g, 1, none⟩ b).setCell ⟨g, 2, none⟩ c).setCell ⟨g, 3, none⟩ d) row :=
 grown_new (grown_new (grown_new (grown_new h (p := ⟨g, 0, none⟩) hg a) (p := ⟨g, 1, none⟩) hg b) (p := ⟨g, 2, none⟩) hg c) (p := ⟨g, 3, none⟩) hg d
def atOf (ts : List Tok) (len : Int) : Int := match ts with | [] => len | t :: _ => t.at_
/-- Whether the next token has a kind and, unless it is empty, a text. -/
def isB (ts : List Tok) (k : Int) (s : ByteArray) : Bool := match ts with | [] => false | t :: _ => t.kind == k && (s.toList.isEmpty || t.text.toList == s.toList)
theorem TRow.tok {W : World} {A : Option Addr} {t : Tok} {r : List Tok} (h : TRow W 186 A (kcells (t :: r))) : ∃ b off, A = some ⟨b, off, none⟩ ∧ b < W.heap.size ∧ W.cell? ⟨b, off, none⟩ = some (.int .i64 t.kind) ∧ W.cell? ⟨b, off + 1, none⟩ = some (.string t.text) ∧ W.cell? ⟨b, off + 2, none⟩ = some (.int .i64 t.num) ∧ W.cell? ⟨b, off + 3, none⟩ = some (.int .i64 t.at_) := by
 obtain ⟨b, off, hA, hb, hc⟩ := TRow.at_ (f := Tok.cells) (n := 4) (fun _ => rfl) h 0 (by simp) (by omega)
 exact ⟨b, off, hA, hb, by simpa using hc 0 _ rfl, by simpa using hc 1 _ rfl, by simpa using hc 2 _ rfl, by simpa using hc 3 _ rfl⟩
theorem TRow.toks {W : World} {b off : Nat} {t : Tok} {r : List Tok} (h : TRow W 186 (some ⟨b, off, none⟩) (kcells (t :: r))) : TRow W 186 (some ⟨b, off + 4, none⟩) (kcells r) := by
 rcases h with h | ⟨b', off', cur, fl, hA, hb, hc⟩
 ·simp [kcells, Tok.cells] at h
 ·cases hA
  refine .inr ⟨b, off + 4, cur, fl, rfl, hb, fun j u hu => ?_⟩
  have := hc (j + 4) u (by simpa [kcells, Tok.cells] using hu)
  rw [show off + 4 + j = off + (j + 4) by omega]
  exact this
set_option maxRecDepth 100000 in
theorem is_any {W : World} {rb : Nat} {ts : List Tok} {len : Int} (k : Int) (s : ByteArray) (h : RdAt W rb ts len) : Calls Tryz.prog 133 #[.pointer (some ⟨rb, 0, none⟩), .int .i64 k, .string s] W fun e w' => e = .returned (.bool (isB ts k s)) ∧ w' = W := by
 obtain ⟨A, c, h1, h2, h3, h4, h5⟩ := h
 have hl := h1.lt
 have c0 : W.cell? ⟨rb, 0, none⟩ = some (.slice A ts.length c) := h1.cell 0
 cases ts with
 | nil =>
   clear h1 h2
   go_enter Tryz.func133, Tryz.ntmps133
   go_wp2
   go_ret
   exact ⟨rfl, rfl⟩
 | cons t r =>
   obtain ⟨b, off, rfl, hb, d0, d1, d2, d3⟩ := h2.tok
   have e1 : isB (t :: r) k s = (t.kind == k && (s.toList.isEmpty || t.text.toList == s.toList)) := rfl
   rw [e1]
   have hlen : (t :: r).length = r.length + 1 := rfl
   rw [hlen] at c0
   generalize r.length = n at c0
   clear h1 h2 e1 h3 h4 hlen
   cases q1 : (t.kind == k)
   ·have q1' : (t.kind == k) = false := q1
    go_enter Tryz.func133, Tryz.ntmps133
    go_wp2
    go_ret
    exact ⟨by simp, rfl⟩
   ·have q1' : (t.kind == k) = true := q1
    cases q2 : s.toList.isEmpty
    ·cases q3 : (t.text.toList == s.toList)
     ·go_enter Tryz.func133, Tryz.ntmps133
      go_wp2
      go_ret
      exact ⟨by simp, rfl⟩
     ·go_enter Tryz.func133, Tryz.ntmps133
      go_wp2
      go_ret
      exact ⟨by simp, rfl⟩
    ·go_enter Tryz.func133, Tryz.ntmps133
     go_wp2
     go_ret
     exact ⟨by simp, rfl⟩
set_option maxRecDepth 100000 in
theorem at_any {W : World} {rb : Nat} {ts : List Tok} {len : Int} (h : RdAt W rb ts len) : Calls Tryz.prog 130 #[.pointer (some ⟨rb, 0, none⟩)] W fun e w' => e = .returned (.int .i64 (atOf ts len)) ∧ w' = W := by
 obtain ⟨A, c, h1, h2, h3, h4, h5⟩ := h
 have hl := h1.lt
 have c0 : W.cell? ⟨rb, 0, none⟩ = some (.slice A ts.length c) := h1.cell 0
 have c1 : W.cell? ⟨rb, 1, none⟩ = some (.int .i64 len) := h1.cell 1
 cases ts with
 | nil =>
   clear h1 h2
   go_enter Tryz.func130, Tryz.ntmps130
   go_wp2
   go_ret
   exact ⟨rfl, rfl⟩
 | cons t r =>
   obtain ⟨b, off, rfl, hb, d0, d1, d2, d3⟩ := h2.tok
   have e1 : atOf (t :: r) len = t.at_ := rfl
   rw [e1]
   have hlen : (t :: r).length = r.length + 1 := rfl
   rw [hlen] at c0
   generalize r.length = n at c0
   clear h1 h2 e1 h3 h4 hlen
   go_enter Tryz.func130, Tryz.ntmps130
   go_wp2
   go_ret
   exact ⟨rfl, rfl⟩
def failV (ts : List Tok) (len : Int) : Ending := .panicked [{ v := .iface 178 (.agg #[.int .i64 (atOf ts len)]), recovered := false }]
set_option maxRecDepth 100000 in
theorem fail_any {W : World} {rb : Nat} {ts : List Tok} {len : Int} (h : RdAt W rb ts len) : Calls Tryz.prog 112 #[.pointer (some ⟨rb, 0, none⟩)] W fun e w' => e = failV ts len ∧ w' = W := by
 have K := Lib.hid (at_any h)
 clear h
 go_enter Tryz.func112, Tryz.ntmps112
 go_wp2_with fail
 refine K.out.mono ?_
 rintro e w1 ⟨rfl, rfl⟩
 clear K
 go_wp2
 exact ⟨rfl, rfl, rfl⟩
def tailA (A : Addr) (c : Nat) : Addr := if c = 1 then A else ⟨A.block, A.off + 4, none⟩
theorem run_tail (w : World) (b off n c : Nat) : (Instr.slice 172 (.slice (some ⟨b, off, none⟩) (n + 1) c) (some (.int .i64 1)) none none).run Tryz.prog w = .ok (.slice (some (tailA ⟨b, off, none⟩ c)) n (c - 1)) w := by
 have h1 : (1 : Int) ≤ ((n + 1 : Nat) : Int) := by omega
 simp [Instr.slice, Instr.sliceBounds, Instr.sliceBound, asIntOf, run_underlying Tryz.underlying172, go_sem]
 rw [if_pos (by omega)]
 unfold tailA
 split <;> rfl
theorem RdAt.tail {W : World} {rb : Nat} {t : Tok} {r : List Tok} {len : Int} {b off n c : Nat} (hB : Bk W rb 176 [.slice (some ⟨b, off, none⟩) (n + 1) c, .int .i64 len]) (hR : TRow W 186 (some ⟨b, off, none⟩) (kcells (t :: r))) (hn : n = r.length) (hc : n + 1 ≤ c) (hs : n + 1 ≤ 8192) (h5 : b < rb) :
 RdAt (W.setCell ⟨rb, 0, none⟩ (.slice (some (tailA ⟨b, off, none⟩ c)) n (c - 1))) rb r len := by
 subst hn
 refine ⟨some (tailA ⟨b, off, none⟩ c), c - 1, hB.set 0 _, ?_, by omega, by omega, fun b' off' e => ?_⟩
 rotate_left
 ·unfold tailA at e
  split at e <;> (cases e; exact h5)
 refine TRow.keep ?_ (.setCell hB (by decide) _)
 by_cases h1 : c = 1
 ·left
  have : r = [] := List.eq_nil_of_length_eq_zero (by omega)
  subst this; rfl
 ·unfold tailA
  rw [if_neg h1]
  exact hR.toks
set_option maxRecDepth 100000 in
theorem accept_yes {W : World} {rb : Nat} {ts : List Tok} {len : Int} (k : Int) (s : ByteArray) (h : RdAt W rb ts len) (hi : isB ts k s = true) : Calls Tryz.prog 131 #[.pointer (some ⟨rb, 0, none⟩), .int .i64 k, .string s] W fun e w' => e = .returned (.bool true) ∧ RdAt w' rb ts.tail len ∧ W.grownBy w' (some rb) := by
 have K := Lib.hid (is_any k s h)
 cases ts with
 | nil => cases hi
 | cons t r =>
   rw [hi] at K
   obtain ⟨A, c, h1, h2, h3, h4, h5⟩ := h
   obtain ⟨b, off, rfl, hb, _⟩ := h2.tok
   have hl := h1.lt
   have hrun := fun w => run_tail w b off r.length c
   have hlen : (t :: r).length = r.length + 1 := rfl
   rw [hlen] at h1 h3 h4
   have HN := Lib.hid (rfl : r.length = r.length)
   have HT := Lib.hid (fun (n : Nat) (hn : n = r.length) (hB : Bk W rb 176 [.slice (some ⟨b, off, none⟩) (n + 1) c, .int .i64 len]) (hc : n + 1 ≤ c) (hs : n + 1 ≤ 8192) => RdAt.tail hB h2 hn hc hs (h5 b off rfl))
   clear h2 hi hlen
   show Calls Tryz.prog 131 _ W fun e w' => _ ∧ RdAt w' rb r len ∧ _
   generalize hq : r.length = n at *
   have HT2 := Lib.hid (HT.out n rfl h1 h3 h4)
   have c0 : W.cell? ⟨rb, 0, none⟩ = some (.slice (some ⟨b, off, none⟩) (n + 1) c) := h1.cell 0
   have f0 := h1.frozen 0
   have HG := Lib.hid (grown_setCell W rb 0 (.slice (some (tailA ⟨b, off, none⟩ c)) n (c - 1)))
   clear h1 HT hq HN
   go_enter Tryz.func131, Tryz.ntmps131
   go_wp2_with fail
   refine K.out.mono ?_
   rintro e w1 ⟨rfl, rfl⟩
   clear K
   go_wp2
   go_ret
   exact ⟨rfl, HT2.out, HG.out⟩
set_option maxRecDepth 100000 in
theorem accept_no {W : World} {rb : Nat} {ts : List Tok} {len : Int} (k : Int) (s : ByteArray) (h : RdAt W rb ts len) (hi : isB ts k s = false) : Calls Tryz.prog 131 #[.pointer (some ⟨rb, 0, none⟩), .int .i64 k, .string s] W fun e w' => e = .returned (.bool false) ∧ w' = W := by
 have K := Lib.hid (is_any k s h)
 rw [hi] at K
 clear h hi
 go_enter Tryz.func131, Tryz.ntmps131
 go_wp2_with fail
 refine K.out.mono ?_
 rintro e w1 ⟨rfl, rfl⟩
 clear K
 go_wp2
 go_ret
 exact ⟨rfl, rfl⟩
theorem grown_trans2 {a b c : World} {row : Option Nat} (h : a.grownBy b row) (k : b.grownBy c row) : a.grownBy c row :=
 ⟨k.os.trans h.os, k.tape.trans h.tape, k.output.trans h.output, Nat.le_trans h.size k.size, fun i hi hne => (k.block i (Nat.lt_of_lt_of_le hi h.size) hne).trans (h.block i hi hne)⟩
set_option maxRecDepth 100000 in
theorem need_no {W : World} {rb : Nat} {ts : List Tok} {len : Int} (k : Int) (s : ByteArray) (h : RdAt W rb ts len) (hi : isB ts k s = false) : Calls Tryz.prog 141 #[.pointer (some ⟨rb, 0, none⟩), .int .i64 k, .string s] W fun e w' => e = failV ts len ∧ W.grownBy w' (some rb) := by
 have y : Below W.heap.size W (W.alloc (.cells #[.int .i64 0, .string ⟨#[]⟩, .int .i64 0, .int .i64 0] 186)) := (Below.refl _ _).alloc (Nat.le_refl _) _
 have h' := h.below y
 have K := Lib.hid (is_any k s h')
 have F := Lib.hid (fail_any h')
 rw [hi] at K
 clear h h' hi
 go_enter Tryz.func141, Tryz.ntmps141
 go_wp2_with fail
 refine K.out.mono ?_
 rintro e w1 ⟨rfl, rfl⟩
 clear K
 go_wp2_with fail
 refine F.out.mono ?_
 rintro e w1 ⟨rfl, rfl⟩
 exact ⟨rfl, rfl, grown_of_below y _⟩
set_option maxRecDepth 100000 in
theorem need_yes {W : World} {rb : Nat} {t : Tok} {r : List Tok} {len : Int} (k : Int) (s : ByteArray) (h : RdAt W rb (t :: r) len) (hi : isB (t :: r) k s = true) : Calls Tryz.prog 141 #[.pointer (some ⟨rb, 0, none⟩), .int .i64 k, .string s] W fun e w' => e = .returned (.agg #[.int .i64 t.kind, .string t.text, .int .i64 t.num, .int .i64 t.at_]) ∧ RdAt w' rb r len ∧ W.grownBy w' (some rb) := by
 have y : Below W.heap.size W (W.alloc (.cells #[.int .i64 0, .string ⟨#[]⟩, .int .i64 0, .int .i64 0] 186)) := (Below.refl _ _).alloc (Nat.le_refl _) _
 have y2 := y.alloc (by simp) (.cells #[.int .i64 t.kind, .string t.text, .int .i64 t.num, .int .i64 t.at_] 186)
 have K := Lib.hid (is_any k s (h.below y))
 rw [hi] at K
 obtain ⟨A, c, h1, h2, h3, h4, h5⟩ := h
 obtain ⟨b, off, rfl, hb, d0, d1, d2, d3⟩ := h2.tok
 have hl := h1.lt
 have hrun := fun w => run_tail w b off r.length c
 have hlen : (t :: r).length = r.length + 1 := rfl
 rw [hlen] at h1 h3 h4
 have HR := Lib.hid h2
 clear h2 hi hlen
 have hq : r.length = r.length := rfl
 generalize hq : r.length = n at *
 have c0 : W.cell? ⟨rb, 0, none⟩ = some (.slice (some ⟨b, off, none⟩) (n + 1) c) := h1.cell 0
 have HB := Lib.hid h1
 have f0 := h1.frozen 0
 have Hq := Lib.hid hq
 clear h1 hq
 go_enter Tryz.func141, Tryz.ntmps141
 go_wp2_with fail
 refine K.out.mono ?_
 rintro e w1 ⟨rfl, rfl⟩
 clear K
 go_wp2
 refine bodyPost_ret (v := .agg #[.int .i64 t.kind, .string t.text, .int .i64 t.num, .int .i64 t.at_]) (by simp [results, Tryz.results141, go_sem]) rfl ?_
 have hT := RdAt.tail HB.out HR.out hq.symm h3 h4 (h5 b off rfl)
 have b2 : Below (W.setCell ⟨rb, 0, none⟩ (.slice (some (tailA ⟨b, off, none⟩ c)) n (c - 1))).heap.size (W.setCell ⟨rb, 0, none⟩ (.slice (some (tailA ⟨b, off, none⟩ c)) n (c - 1))) (((W.setCell ⟨rb, 0, none⟩ (.slice (some (tailA ⟨b, off, none⟩ c)) n (c - 1))).alloc (.cells #[.int .i64 t.kind, .string t.text, .int .i64 t.num, .int .i64 t.at_] 186)).alloc (.cells #[.int .i64 t.kind, .string t.text, .int .i64 t.num, .int .i64 t.at_] 186)) := ((Below.refl _ _).alloc (Nat.le_refl _) _).alloc (by simp) _
 exact ⟨rfl, hT.below b2, grown_trans2 (grown_setCell W rb 0 _) (grown_of_below b2 _)⟩
set_option maxRecDepth 100000 in
theorem word_no {W : World} {rb : Nat} {ts : List Tok} {len : Int} (s : ByteArray) (h : RdAt W rb ts len) (hi : isB ts 0 s = false) : Calls Tryz.prog 142 #[.pointer (some ⟨rb, 0, none⟩), .string s] W fun e w' => e = failV ts len ∧ W.grownBy w' (some rb) := by
 have y : Below W.heap.size W (W.alloc (.cells #[.int .i64 0, .string ⟨#[]⟩, .int .i64 0, .int .i64 0] 186)) := (Below.refl _ _).alloc (Nat.le_refl _) _
 have K := Lib.hid (need_no 0 s (h.below y) hi)
 clear h hi
 go_enter Tryz.func142, Tryz.ntmps142
 go_wp2_with fail
 refine K.out.mono ?_
 rintro e w1 ⟨rfl, hg⟩
 exact ⟨rfl, rfl, grown_trans2 (grown_of_below y _) hg⟩
set_option maxRecDepth 100000 in
theorem word_yes {W : World} {rb : Nat} {t : Tok} {r : List Tok} {len : Int} (s : ByteArray) (h : RdAt W rb (t :: r) len) (hi : isB (t :: r) 0 s = true) : Calls Tryz.prog 142 #[.pointer (some ⟨rb, 0, none⟩), .string s] W fun e w' => e = .returned (.agg #[.int .i64 t.kind, .string t.text, .int .i64 t.num, .int .i64 t.at_]) ∧ RdAt w' rb r len ∧ W.grownBy w' (some rb) := by
 have y : Below W.heap.size W (W.alloc (.cells #[.int .i64 0, .string ⟨#[]⟩, .int .i64 0, .int .i64 0] 186)) := (Below.refl _ _).alloc (Nat.le_refl _) _
 have K := Lib.hid (need_yes 0 s (h.below y) hi)
 have hl := h.lt
 have Bz := Bk.new W 186 [.int .i64 0, .string ⟨#[]⟩, .int .i64 0, .int .i64 0]
 clear h hi
 go_enter Tryz.func142, Tryz.ntmps142
 go_wp2_with fail
 refine K.out.mono ?_
 rintro e w1 ⟨rfl, hr, hg⟩
 have B1 := Bz.grown hg (by simp; omega)
 have hg2 := grown_trans2 (grown_of_below y (some rb)) hg
 have hz := B1.lt
 have c0 : w1.cell? ⟨W.heap.size, 0, none⟩ = some (.int .i64 0) := B1.cell 0
 have c1 : w1.cell? ⟨W.heap.size, 1, none⟩ = some (.string ⟨#[]⟩) := B1.cell 1
 have c2 : w1.cell? ⟨W.heap.size, 2, none⟩ = some (.int .i64 0) := B1.cell 2
 have c3 : w1.cell? ⟨W.heap.size, 3, none⟩ = some (.int .i64 0) := B1.cell 3
 have f0 := B1.frozen 0
 have f1 := B1.frozen 1
 have f2 := B1.frozen 2
 have f3 := B1.frozen 3
 have HR := Lib.hid hr
 have HB := Lib.hid B1
 clear hr B1 Bz K hg y
 go_wp2
 have HF := Lib.hid (four_laid HB.out (.int .i64 t.kind) (.string t.text) (.int .i64 t.num) (.int .i64 t.at_))
 have hR2 := HR.out.upTo (four_below (B := W.heap.size) (Nat.le_refl _) (.int .i64 t.kind) (.string t.text) (.int .i64 t.num) (.int .i64 t.at_)) hl
 have hG2 := four_grown hg2 (Nat.le_refl _) (.int .i64 t.kind) (.string t.text) (.int .i64 t.num) (.int .i64 t.at_)
 generalize (((w1.setCell ⟨W.heap.size, 0, none⟩ (.int .i64 t.kind)).setCell ⟨W.heap.size, 1, none⟩ (.string t.text)).setCell ⟨W.heap.size, 2, none⟩ (.int .i64 t.num)).setCell ⟨W.heap.size, 3, none⟩ (.int .i64 t.at_) = X at *
 have e0 : X.cell? ⟨W.heap.size, 0, none⟩ = some (.int .i64 t.kind) := HF.out.cell 0
 have e1 : X.cell? ⟨W.heap.size, 1, none⟩ = some (.string t.text) := HF.out.cell 1
 have e2 : X.cell? ⟨W.heap.size, 2, none⟩ = some (.int .i64 t.num) := HF.out.cell 2
 have e3 : X.cell? ⟨W.heap.size, 3, none⟩ = some (.int .i64 t.at_) := HF.out.cell 3
 refine bodyPost_ret (v := .agg #[.int .i64 t.kind, .string t.text, .int .i64 t.num, .int .i64 t.at_]) (by simp [results, Tryz.results142, go_sem, e0, e1, e2, e3]) rfl ?_
 exact ⟨rfl, hR2, hG2⟩
set_option maxRecDepth 100000 in
theorem number_no {W : World} {rb : Nat} {ts : List Tok} {len : Int} (h : RdAt W rb ts len) (hi : isB ts 1 ⟨#[]⟩ = false) : Calls Tryz.prog 144 #[.pointer (some ⟨rb, 0, none⟩)] W fun e w' => e = failV ts len ∧ W.grownBy w' (some rb) := by
 have y : Below W.heap.size W (W.alloc (.cells #[.int .i64 0, .string ⟨#[]⟩, .int .i64 0, .int .i64 0] 186)) := (Below.refl _ _).alloc (Nat.le_refl _) _
 have K := Lib.hid (need_no 1 ⟨#[]⟩ (h.below y) hi)
 clear h hi
 go_enter Tryz.func144, Tryz.ntmps144
 go_wp2_with fail
 refine K.out.mono ?_
 rintro e w1 ⟨rfl, hg⟩
 exact ⟨rfl, rfl, grown_trans2 (grown_of_below y _) hg⟩
set_option maxRecDepth 100000 in
theorem number_yes {W : World} {rb : Nat} {t : Tok} {r : List Tok} {len : Int} (h : RdAt W rb (t :: r) len) (hi : isB (t :: r) 1 ⟨#[]⟩ = true) : Calls Tryz.prog 144 #[.pointer (some ⟨rb, 0, none⟩)] W fun e w' => e = .returned (.agg #[.int .i64 t.kind, .string t.text, .int .i64 t.num, .int .i64 t.at_]) ∧ RdAt w' rb r len ∧ W.grownBy w' (some rb) := by
 have y : Below W.heap.size W (W.alloc (.cells #[.int .i64 0, .string ⟨#[]⟩, .int .i64 0, .int .i64 0] 186)) := (Below.refl _ _).alloc (Nat.le_refl _) _
 have K := Lib.hid (need_yes 1 ⟨#[]⟩ (h.below y) hi)
 have hl := h.lt
 have Bz := Bk.new W 186 [.int .i64 0, .string ⟨#[]⟩, .int .i64 0, .int .i64 0]
 clear h hi
 go_enter Tryz.func144, Tryz.ntmps144
 go_wp2_with fail
 refine K.out.mono ?_
 rintro e w1 ⟨rfl, hr, hg⟩
 have B1 := Bz.grown hg (by simp; omega)
 have hg2 := grown_trans2 (grown_of_below y (some rb)) hg
 have hz := B1.lt
 have c0 : w1.cell? ⟨W.heap.size, 0, none⟩ = some (.int .i64 0) := B1.cell 0
 have c1 : w1.cell? ⟨W.heap.size, 1, none⟩ = some (.string ⟨#[]⟩) := B1.cell 1
 have c2 : w1.cell? ⟨W.heap.size, 2, none⟩ = some (.int .i64 0) := B1.cell 2
 have c3 : w1.cell? ⟨W.heap.size, 3, none⟩ = some (.int .i64 0) := B1.cell 3
 have f0 := B1.frozen 0
 have f1 := B1.frozen 1
 have f2 := B1.frozen 2
 have f3 := B1.frozen 3
 have HR := Lib.hid hr
 have HB := Lib.hid B1
 clear hr B1 Bz K hg y
 go_wp2
 have HF := Lib.hid (four_laid HB.out (.int .i64 t.kind) (.string t.text) (.int .i64 t.num) (.int .i64 t.at_))
 have hR2 := HR.out.upTo (four_below (B := W.heap.size) (Nat.le_refl _) (.int .i64 t.kind) (.string t.text) (.int .i64 t.num) (.int .i64 t.at_)) hl
 have hG2 := four_grown hg2 (Nat.le_refl _) (.int .i64 t.kind) (.string t.text) (.int .i64 t.num) (.int .i64 t.at_)
 generalize (((w1.setCell ⟨W.heap.size, 0, none⟩ (.int .i64 t.kind)).setCell ⟨W.heap.size, 1, none⟩ (.string t.text)).setCell ⟨W.heap.size, 2, none⟩ (.int .i64 t.num)).setCell ⟨W.heap.size, 3, none⟩ (.int .i64 t.at_) = X at *
 have e0 : X.cell? ⟨W.heap.size, 0, none⟩ = some (.int .i64 t.kind) := HF.out.cell 0
 have e1 : X.cell? ⟨W.heap.size, 1, none⟩ = some (.string t.text) := HF.out.cell 1
 have e2 : X.cell? ⟨W.heap.size, 2, none⟩ = some (.int .i64 t.num) := HF.out.cell 2
 have e3 : X.cell? ⟨W.heap.size, 3, none⟩ = some (.int .i64 t.at_) := HF.out.cell 3
 refine bodyPost_ret (v := .agg #[.int .i64 t.kind, .string t.text, .int .i64 t.num, .int .i64 t.at_]) (by simp [results, Tryz.results144, go_sem, e0, e1, e2, e3]) rfl ?_
 exact ⟨rfl, hR2, hG2⟩
set_option maxRecDepth 100000 in
theorem symbol_no {W : World} {rb : Nat} {ts : List Tok} {len : Int} (s : ByteArray) (h : RdAt W rb ts len) (hi : isB ts 2 s = false) : Calls Tryz.prog 132 #[.pointer (some ⟨rb, 0, none⟩), .string s] W fun e w' => e = failV ts len ∧ W.grownBy w' (some rb) := by
 have K := Lib.hid (need_no 2 s h hi)
 clear h hi
 go_enter Tryz.func132, Tryz.ntmps132
 go_wp2_with fail
 refine K.out.mono ?_
 rintro e w1 ⟨rfl, hg⟩
 exact ⟨rfl, rfl, hg⟩
set_option maxRecDepth 100000 in
theorem symbol_yes {W : World} {rb : Nat} {t : Tok} {r : List Tok} {len : Int} (s : ByteArray) (h : RdAt W rb (t :: r) len) (hi : isB (t :: r) 2 s = true) : Calls Tryz.prog 132 #[.pointer (some ⟨rb, 0, none⟩), .string s] W fun e w' => e = .returned (.tuple #[]) ∧ RdAt w' rb r len ∧ W.grownBy w' (some rb) := by
 have K := Lib.hid (need_yes 2 s h hi)
 clear h hi
 go_enter Tryz.func132, Tryz.ntmps132
 go_wp2_with fail
 refine K.out.mono ?_
 rintro e w1 ⟨rfl, hr, hg⟩
 clear K
 go_wp2
 go_end0
 exact ⟨rfl, hr, hg⟩
/-- What there is to know of a condition: whether it uses B, its tests by their numbers, and where the test of moves lies. -/
structure CondM where
 u : Bool
 f : Nat
 cap : Option Nat
 nm : Nat
 rg : Nat
def capsV : Option Nat → Array Value | none => #[] | some b => #[.pointer (some ⟨b, 0, none⟩)]
theorem capsV_inj {a b : Option Nat} (h : capsV a = capsV b) : a = b := by
 cases a <;> cases b <;> simp [capsV] at h ⊢
 exact h
def condVal : Option CondM → Value
 | none => .agg #[.bool false, .nilFunc, .nilFunc, .nilFunc]
 | some c => .agg #[.bool c.u, .func (.func c.f) #[] (capsV c.cap), .func (.func c.nm) #[] #[], .func (.func c.rg) #[] #[]]
def condD : Option CondM → DataW Unit
 | none => .agg []
 | some c => .agg [.lit (.bool c.u), .lit (.int .i64 c.f), .lit (.int .i64 (match c.cap with | none => -1 | some b => b)), .lit (.int .i64 c.nm), .lit (.int .i64 c.rg)]
theorem condVal_inj {a b : Option CondM} (h : condVal a = condVal b) : a = b := by
 cases a with
 | none =>
   cases b with
   | none => rfl
   | some d => simp [condVal] at h
 | some c =>
   cases b with
   | none => simp [condVal] at h
   | some d =>
     obtain ⟨u, f, cap, nm, rg⟩ := c
     obtain ⟨u', f', cap', nm', rg'⟩ := d
     simp only [condVal, Value.agg.injEq, Array.mk.injEq, List.cons.injEq, Value.bool.injEq, Value.func.injEq, Fn.func.injEq, true_and, and_true] at h
     obtain ⟨h1, ⟨h2, h3⟩, h4, h5⟩ := h
     have h3 := capsV_inj h3
     subst h1; subst h2; subst h3; subst h4; subst h5
     rfl
theorem condD_inj {a b : Option CondM} (h : condD a = condD b) : a = b := by
 cases a with
 | none => cases b <;> simp [condD] at h ⊢
 | some c =>
   cases b with
   | none => simp [condD] at h
   | some d =>
     obtain ⟨u, f, cap, nm, rg⟩ := c
     obtain ⟨u', f', cap', nm', rg'⟩ := d
     simp only [condD, DataW.agg.injEq, List.cons.injEq, DataW.lit.injEq, Lit.bool.injEq, Lit.int.injEq, true_and, and_true] at h
     obtain ⟨h1, h2, h3, h4, h5⟩ := h
     obtain rfl := h1
     obtain rfl : f = f' := by omega
     obtain rfl : nm = nm' := by omega
     obtain rfl : rg = rg' := by omega
     have : cap = cap' := by
      cases cap <;> cases cap' <;> simp at h3 ⊢ <;> omega
     rw [this]
open Classical in
noncomputable def condElem (v : Value) : Option (DataW Unit × List MemPlace) := if h : ∃ o, v = condVal o then some (condD h.choose, []) else none
theorem condElem_mk (o : Option CondM) : condElem (condVal o) = some (condD o, []) := by
 unfold condElem
 have h : ∃ o', condVal o = condVal o' := ⟨o, rfl⟩
 rw [dif_pos h, ← condVal_inj h.choose_spec]
theorem condElem_inv {v : Value} {o : Option CondM} {ps : List MemPlace} (h : condElem v = some (condD o, ps)) : v = condVal o := by
 unfold condElem at h
 split at h
 ·rename_i hx
  simp only [Option.some.injEq, Prod.mk.injEq] at h
  rw [← condD_inj h.1]
  exact hx.choose_spec
 ·cases h
theorem zero169 (w : World) : (zeroValue 169).run Tryz.prog w = .ok (condVal none) w := by kernel_rfl
/-- The map at block b: the conditions M. -/
def MapC (w : World) (b n : Nat) (M : ByteArray → Option CondM) : Prop :=
 ∃ D : DataW Unit, w.ownsMap Tryz.prog 9 condElem b n D ∧ ∀ s : ByteArray, Maps.has D (.string s.data.toList) = (M s).isSome ∧ D.atKey (.string s.data.toList) (condD none) = condD (M s)
theorem MapC.made (w : World) : MapC (w.alloc (.map #[] 0)) w.heap.size 0 fun _ => none :=
 ⟨_, World.ownsMap_made w Tryz.prog 9 condElem, fun _ => ⟨rfl, rfl⟩⟩
theorem MapC.kept {w w' : World} {b n : Nat} {M : ByteArray → Option CondM} {row : Option Nat} (h : MapC w b n M) (hg : w.grownBy w' row) (hne : some b ≠ row) : MapC w' b n M := by
 obtain ⟨D, ho, hD⟩ := h
 exact ⟨D, ho.kept hg hne, hD⟩
theorem MapC.below {w w' : World} {b n : Nat} {M : ByteArray → Option CondM} (h : MapC w b n M) (hb : Below w.heap.size w w') : MapC w' b n M := h.kept (grown_of_below hb none) (by simp)
theorem MapC.lt {w : World} {b n : Nat} {M : ByteArray → Option CondM} (h : MapC w b n M) : b < w.heap.size := by
 obtain ⟨D, ho, hD⟩ := h
 exact ho.lt
theorem MapC.look {w : World} {b n : Nat} {M : ByteArray → Option CondM} (h : MapC w b n M) {s : ByteArray} (hs : s.size ≤ maxLen) :
 (Instr.lookup 121 (.map (some b)) (.string s) false).run Tryz.prog w = .ok (condVal (M s)) w := by
 obtain ⟨D, ho, hD⟩ := h
 obtain ⟨v, ps, hrun, hv⟩ := ho.lookup (Maps.string_keyed Tryz.underlying9) Tryz.underlying121 (zero169 w) (condElem_mk none) (key_str hs)
 rw [(hD s).2] at hv
 rw [← condElem_inv hv]
 exact hrun
theorem MapC.look_ok {w : World} {b n : Nat} {M : ByteArray → Option CondM} (h : MapC w b n M) {s : ByteArray} (hs : s.size ≤ maxLen) :
 (Instr.lookup 121 (.map (some b)) (.string s) true).run Tryz.prog w = .ok (.tuple #[condVal (M s), .bool (M s).isSome]) w := by
 obtain ⟨D, ho, hD⟩ := h
 obtain ⟨v, ps, hrun, hv⟩ := ho.look_ok (Maps.string_keyed Tryz.underlying9) Tryz.underlying121 (zero169 w) (condElem_mk none) (key_str hs)
 rw [(hD s).2] at hv
 rw [← condElem_inv hv, ← (hD s).1]
 exact hrun
def updC (M : ByteArray → Option CondM) (s : ByteArray) (c : CondM) : ByteArray → Option CondM := fun t => if t = s then some c else M t
def FnAt (W : World) (b f : Nat) : Prop := b < W.heap.size ∧ W.cell? ⟨b, 0, none⟩ = some (.func (.func f) #[] #[])
theorem FnAt.below {W W' : World} {b f : Nat} (h : FnAt W b f) (hb : Below W.heap.size W W') : FnAt W' b f := ⟨Nat.lt_of_lt_of_le h.1 hb.size, (hb.cell (p := ⟨b, 0, none⟩) h.1).trans h.2⟩
theorem FnAt.grown {W W' : World} {b f r n : Nat} {M : ByteArray → Option CondM} (h : FnAt W b f) (hm : MapC W r n M) (hg : W.grownBy W' (some r)) : FnAt W' b f := by
 have hne : b ≠ r := by
  rintro rfl
  obtain ⟨D, ⟨es, clock, hb, _⟩, _⟩ := hm
  have := h.2
  simp [World.cell?, hb] at this
 exact ⟨Nat.lt_of_lt_of_le h.1 hg.size, (World.cell?_of_block (w := W) (hg.block b h.1 (fun e => hne (Option.some.inj e)))).trans h.2⟩
theorem some_any (f : Nat) (w : World) : Calls Tryz.prog 86 #[.func (.func f) #[] #[]] w fun e w' => e = .returned (.func (.func 87) #[] #[.pointer (some ⟨w.heap.size, 0, none⟩)]) ∧ FnAt w' w.heap.size f ∧ Below w.heap.size w w' := by
 have hmf : ∀ (fn : Fn) (first cap : Array Value) (w : World), (Instr.makeFunc fn first cap).run Tryz.prog w = .ok (.func fn first cap) w := fun _ _ _ _ => rfl
 go_enter Tryz.func86, Tryz.ntmps86
 go_wp2
 go_ret
 refine ⟨rfl, ⟨by simp, ?_⟩, (Below.refl _ _).alloc (Nat.le_refl _) _⟩
 simp
def condsM (b1 b2 b3 : Nat) : ByteArray → Option CondM :=
 updC (updC (updC (updC (updC (updC (updC (updC (fun _ => none) sKind ⟨false, 90, none, 85, 91⟩) sActor ⟨false, 92, none, 85, 93⟩) sRule ⟨false, 94, none, 95, 96⟩) sTick ⟨true, 97, none, 85, 98⟩)
  sItem ⟨false, 87, some b1, 100, 96⟩) sMore ⟨true, 87, some b2, 102, 103⟩) sStep ⟨true, 104, none, 85, 98⟩) sAccount ⟨false, 87, some b3, 85, 93⟩
/-- The table of conditions lies at block bm. -/
structure CondsAt (W : World) (bm n b1 b2 b3 : Nat) : Prop where
 map : MapC W bm n (condsM b1 b2 b3)
 f1 : FnAt W b1 99
 f2 : FnAt W b2 101
 f3 : FnAt W b3 105
theorem CondsAt.below {W W' : World} {bm n b1 b2 b3 : Nat} (h : CondsAt W bm n b1 b2 b3) (hb : Below W.heap.size W W') : CondsAt W' bm n b1 b2 b3 := ⟨h.map.below hb, h.f1.below hb, h.f2.below hb, h.f3.below hb⟩
def CondsQ (w : World) (e : Ending) (w' : World) : Prop := ∃ bm n b1 b2 b3, e = .returned (.map (some bm)) ∧ CondsAt w' bm n b1 b2 b3 ∧ Below w.heap.size w w'
theorem MapC.put {w : World} {b n : Nat} {M : ByteArray → Option CondM} (h : MapC w b n M) (s : ByteArray) (hs : s.size ≤ 100) (c : CondM) (hn : n < 1000) :
 ∃ w', (Instr.mapUpdate 121 (.map (some b)) (.string s) (.agg #[.bool c.u, .func (.func c.f) #[] (capsV c.cap), .func (.func c.nm) #[] #[], .func (.func c.rg) #[] #[]])).run Tryz.prog w = .ok () w' ∧ MapC w' b (n + 1) (updC M s c) ∧ w.grownBy w' (some b) := by
 obtain ⟨D, ho, hD⟩ := h
 obtain ⟨w', hrun, ho', hg⟩ := ho.update (Maps.string_keyed Tryz.underlying9) Tryz.underlying121 (by unfold maxLen; omega) (key_str (s := s) (by unfold maxLen; omega)) (condElem_mk (some c))
 refine ⟨w', hrun, ⟨_, ho', fun t => ?_⟩, hg⟩
 by_cases e : t = s
 ·subst e
  rw [Maps.has_put_same ho.isMap (keyLit _), Maps.atKey_put_same ho.isMap (keyLit _)]
  simp [updC]
 ·have hne : (Lit.string t.data.toList) ≠ .string s.data.toList := fun h => e (bytes_inj (by simpa using h))
  rw [Maps.has_put_other hne, Maps.atKey_put_other hne]
  simpa [updC, e] using hD t
set_option maxRecDepth 100000 in
set_option maxHeartbeats 1000000 in
theorem conds_any (w : World) : Calls Tryz.prog 56 #[] w (CondsQ w) := by
 have hmm := @run_makeMap Tryz.prog
 have m0 := MapC.made w
 obtain ⟨w1, r1, m1, g1⟩ := m0.put sKind (by decide) ⟨false, 90, none, 85, 91⟩ (by omega)
 obtain ⟨w2, r2, m2, g2⟩ := m1.put sActor (by decide) ⟨false, 92, none, 85, 93⟩ (by omega)
 obtain ⟨w3, r3, m3, g3⟩ := m2.put sRule (by decide) ⟨false, 94, none, 95, 96⟩ (by omega)
 obtain ⟨w4, r4, m4, g4⟩ := m3.put sTick (by decide) ⟨true, 97, none, 85, 98⟩ (by omega)
 have G0 : Below w.heap.size w (w.alloc (.map #[] 0)) := (Below.refl _ _).alloc (Nat.le_refl _) _
 have z1 := g1.size
 have z2 := g2.size
 have z3 := g3.size
 rw [World.size_alloc] at z1
 have q4 : Below w.heap.size w w4 := (((G0.grown g1 G0.size (by simp)).grown g2 (by omega) (by simp)).grown g3 (by omega) (by simp)).grown g4 (by omega) (by simp)
 clear z1 z2 z3
 have Q4 := Lib.hid q4
 have M4 := Lib.hid m4
 clear m0 m1 m2 m3 m4 g1 g2 g3 g4 q4 G0
 dsimp only [capsV, sKind, sActor, sRule, sTick] at r1 r2 r3 r4
 go_enter Tryz.func56, Tryz.ntmps56
 go_wp2_with fail
 (with_reducible refine (some_any 99 w4).mono ?_)
 rintro e w5 ⟨rfl, f5, b5⟩
 obtain ⟨w6, r6, m6, g6⟩ := (M4.out.below b5).put sItem (by decide) ⟨false, 87, some w4.heap.size, 100, 96⟩ (by omega)
 have q5 := Q4.out.trans (b5.mono Q4.out.size)
 have Q6 := Lib.hid (q5.grown g6 q5.size (by simp))
 have F6 := Lib.hid (f5.grown (M4.out.below b5) g6)
 have M6 := Lib.hid m6
 clear f5 b5 g6 m6 q5 r1 r2 r3 r4 M4 Q4
 dsimp only [capsV, sItem] at r6
 generalize w4.heap.size = b1 at *
 go_wp2_with fail
 (with_reducible refine (some_any 101 w6).mono ?_)
 rintro e w7 ⟨rfl, f7, b7⟩
 obtain ⟨w8, r8, m8, g8⟩ := (M6.out.below b7).put sMore (by decide) ⟨true, 87, some w6.heap.size, 102, 103⟩ (by omega)
 obtain ⟨w9, r9, m9, g9⟩ := m8.put sStep (by decide) ⟨true, 104, none, 85, 98⟩ (by omega)
 have q7 := Q6.out.trans (b7.mono Q6.out.size)
 have q8 := q7.grown g8 q7.size (by simp)
 have Q9 := Lib.hid (q8.grown g9 q8.size (by simp))
 have F9 := Lib.hid (((F6.out.below b7).grown (M6.out.below b7) g8).grown m8 g9)
 have E9 := Lib.hid ((f7.grown (M6.out.below b7) g8).grown m8 g9)
 have M9 := Lib.hid m9
 clear f7 b7 g8 g9 m8 m9 q7 q8 r6 M6 Q6 F6
 dsimp only [capsV, sMore, sStep] at r8 r9
 generalize w6.heap.size = b2 at *
 go_wp2_with fail
 (with_reducible refine (some_any 105 w9).mono ?_)
 rintro e w10 ⟨rfl, f10, b10⟩
 obtain ⟨w11, r11, m11, g11⟩ := (M9.out.below b10).put sAccount (by decide) ⟨false, 87, some w9.heap.size, 85, 93⟩ (by omega)
 have q10 := Q9.out.trans (b10.mono Q9.out.size)
 have Q11 := Lib.hid (q10.grown g11 q10.size (by simp))
 have C11 : Hid (CondsAt w11 w.heap.size _ b1 b2 w9.heap.size) := Lib.hid ⟨m11, (F9.out.below b10).grown (M9.out.below b10) g11, (E9.out.below b10).grown (M9.out.below b10) g11, f10.grown (M9.out.below b10) g11⟩
 clear f10 b10 g11 m11 q10 r8 r9 M9 Q9 F9 E9
 dsimp only [capsV, sAccount] at r11
 generalize w9.heap.size = b3 at *
 go_wp2_with fail
 go_ret
 exact ⟨_, _, b1, b2, b3, rfl, C11.out, Q11.out⟩
section
section
variable {α : Type}
def noK (f : α → Bool) (l : List α) (k : Nat) : Bool := (l.take k).any f
theorem noK_succ (f : α → Bool) (l : List α) (k : Nat) (h : k < l.length) : noK f l (k + 1) = (noK f l k || f l[k]) := by
 unfold noK
 rw [List.take_succ_eq_append_getElem h, List.any_append]
 simp
theorem noK_yes (f : α → Bool) (l : List α) (k : Nat) (h : k < l.length) (hf : f l[k] = true) : l.any f = true := List.any_eq_true.2 ⟨l[k], List.getElem_mem h, hf⟩
theorem noK_all (f : α → Bool) (l : List α) (n : Nat) (h : n = l.length) : noK f l n = l.any f := by
 unfold noK; rw [h, List.take_length]
end
/-- IndexFunc's answer: at least 0 if there is one. -/
def IxQ (w : World) (b : Bool) (e : Ending) (w' : World) : Prop := ∃ i : Int, e = .returned (.int .i64 i) ∧ decide (0 ≤ i) = b ∧ Below w.heap.size w w'
set_option maxRecDepth 100000 in
set_option maxHeartbeats 1000000 in
theorem ix_mk (q : FuncId) (caps : Array Value) (hq : ∀ (args : Array Value) (W : World), (callFunc q args).run Tryz.prog W = .ok (.enter q args) W) {w : World} {P : Nat → Prop} {m : MkM} (f : MkM → Bool) (h : m.Ok w 49 P)
 (hF : Hid (∀ (t : MkM) (W : World), t ∈ m.ks → Below w.heap.size w W → Calls Tryz.prog q (#[t.val] ++ caps) W fun e w' => e = .returned (.bool (f t)) ∧ Below W.heap.size W w')) :
 Calls Tryz.prog 128 #[.slice m.s.A m.s.n m.s.c, .func (.func q) #[] caps] w (IxQ w (m.ks.any f)) := by
 have Hn := Lib.hid h.len
 have H := Lib.hid h
 have hs := h.small
 clear h
 obtain ⟨op, ma, mb, l, s⟩ := m
 dsimp only [MkM.ks, MkM.s] at *
 obtain ⟨A, n, c⟩ := s
 dsimp only at Hn hs ⊢
 go_enter Tryz.func128, Tryz.ntmps128
 go_wp2_with fail
 go_loopw [8] (fun i wr => ∃ k : Nat, k ≤ n ∧ i = .int .i64 k ∧ noK f l k = false ∧ Below w.heap.size w wr) (fun i _ => n - (intOf i).toNat)
 case atStart => exact ⟨0, Nat.zero_le _, rfl, rfl, Below.refl _ _⟩
 case round =>
  obtain ⟨k, hk, rfl, hR, hb⟩ := hrel
  have HR := Lib.hid hR
  have hsz := hb.size
  clear hR
  by_cases hlt : k < n
  ·have hkl : k < l.length := by have := Hn.out; omega
   obtain ⟨b, off, rfl, hbb, c0, c1, c2, c3⟩ := (H.out.bel hb).at_ k hkl
   dsimp only [MkM.ks, MkM.s] at c0 c1 c2 c3
   have Hs := Lib.hid (noK_succ f l k hkl)
   have Hno := Lib.hid (noK_yes f l k hkl)
   have hmem := List.getElem_mem hkl
   have HF := Lib.hid (fun W hW => hF.out l[k] W hmem hW)
   clear hmem hF
   generalize l[k] = t at *
   have HC := Lib.hid (HF.out _ hb)
   clear HF hkl
   go_wp2_with fail
   refine HC.out.mono ?_
   rintro e w1 ⟨rfl, hb1⟩
   have hb3 : Below w.heap.size w w1 := hb.trans (hb1.mono hsz)
   clear HC
   cases hq : f t
   ·rw [hq, HR.out] at Hs
    clear hq Hno
    go_wp2
    go_roundw
    case rel => exact ⟨k + 1, by omega, by go_num, Hs.out, hb3⟩
    case measure => simp [intOf]; omega
   ·have Hq := Lib.hid (Hno.out hq)
    clear hq Hs Hno
    go_wp2
    go_ret
    exact ⟨k, rfl, by rw [Hq.out]; simp, hb3⟩
  ·have hkn : k = n := by omega
   have HT : Hid (l.any f = false) := by
    show l.any f = false
    rw [← noK_all f l n Hn.out, ← hkn]; exact HR.out
   clear hkn
   go_wp2
   go_ret
   exact ⟨-1, rfl, by rw [HT.out]; rfl, hb⟩
set_option maxRecDepth 100000 in
theorem has_mk (q : FuncId) (caps : Array Value) (hq : ∀ (args : Array Value) (W : World), (callFunc q args).run Tryz.prog W = .ok (.enter q args) W) {w : World} {P : Nat → Prop} {m : MkM} (f : MkM → Bool) (h : m.Ok w 49 P)
 (hF : Hid (∀ (t : MkM) (W : World), t ∈ m.ks → Below w.heap.size w W → Calls Tryz.prog q (#[t.val] ++ caps) W fun e w' => e = .returned (.bool (f t)) ∧ Below W.heap.size W w')) :
 Calls Tryz.prog 108 #[.slice m.s.A m.s.n m.s.c, .func (.func q) #[] caps] w fun e w' => e = .returned (.bool (m.ks.any f)) ∧ Below w.heap.size w w' := by
 have K := Lib.hid (ix_mk q caps hq f h hF)
 clear hF h hq
 go_enter Tryz.func108, Tryz.ntmps108
 go_wp2_with fail
 refine K.out.mono ?_
 rintro e w1 ⟨i, rfl, hi, hb⟩
 clear K
 go_wp2
 go_ret
 exact ⟨by rw [← hi]; rfl, hb⟩
set_option maxRecDepth 100000 in
set_option maxHeartbeats 1000000 in
theorem ix_mv (q : FuncId) (caps : Array Value) (hq : ∀ (args : Array Value) (W : World), (callFunc q args).run Tryz.prog W = .ok (.enter q args) W) {w : World} {s : Sl} {l : List MvM} (f : MvM → Bool) (h : MovesV w s l)
 (hF : Hid (∀ (t : MvM) (W : World), t ∈ l → Below w.heap.size w W → Calls Tryz.prog q (#[t.val] ++ caps) W fun e w' => e = .returned (.bool (f t)) ∧ Below W.heap.size W w')) :
 Calls Tryz.prog 126 #[.slice s.A s.n s.c, .func (.func q) #[] caps] w (IxQ w (l.any f)) := by
 have Hn := Lib.hid h.len
 have H := Lib.hid h
 have hs := h.small
 clear h
 skip
 obtain ⟨A, n, c⟩ := s
 dsimp only at Hn hs ⊢
 go_enter Tryz.func126, Tryz.ntmps126
 go_wp2_with fail
 go_loopw [8] (fun i wr => ∃ k : Nat, k ≤ n ∧ i = .int .i64 k ∧ noK f l k = false ∧ Below w.heap.size w wr) (fun i _ => n - (intOf i).toNat)
 case atStart => exact ⟨0, Nat.zero_le _, rfl, rfl, Below.refl _ _⟩
 case round =>
  obtain ⟨k, hk, rfl, hR, hb⟩ := hrel
  have HR := Lib.hid hR
  have hsz := hb.size
  clear hR
  by_cases hlt : k < n
  ·have hkl : k < l.length := by have := Hn.out; omega
   obtain ⟨b, off, rfl, hbb, c0, c1, c2, c3, c4⟩ := (H.out.below hb).at_ k hkl
   skip
   have Hs := Lib.hid (noK_succ f l k hkl)
   have Hno := Lib.hid (noK_yes f l k hkl)
   have hmem := List.getElem_mem hkl
   have HF := Lib.hid (fun W hW => hF.out l[k] W hmem hW)
   clear hmem hF
   generalize l[k] = t at *
   have HC := Lib.hid (HF.out _ hb)
   clear HF hkl
   go_wp2_with fail
   refine HC.out.mono ?_
   rintro e w1 ⟨rfl, hb1⟩
   have hb3 : Below w.heap.size w w1 := hb.trans (hb1.mono hsz)
   clear HC
   cases hq : f t
   ·rw [hq, HR.out] at Hs
    clear hq Hno
    go_wp2
    go_roundw
    case rel => exact ⟨k + 1, by omega, by go_num, Hs.out, hb3⟩
    case measure => simp [intOf]; omega
   ·have Hq := Lib.hid (Hno.out hq)
    clear hq Hs Hno
    go_wp2
    go_ret
    exact ⟨k, rfl, by rw [Hq.out]; simp, hb3⟩
  ·have hkn : k = n := by omega
   have HT : Hid (l.any f = false) := by
    show l.any f = false
    rw [← noK_all f l n Hn.out, ← hkn]; exact HR.out
   clear hkn
   go_wp2
   go_ret
   exact ⟨-1, rfl, by rw [HT.out]; rfl, hb⟩
set_option maxRecDepth 100000 in
theorem has_mv (q : FuncId) (caps : Array Value) (hq : ∀ (args : Array Value) (W : World), (callFunc q args).run Tryz.prog W = .ok (.enter q args) W) {w : World} {s : Sl} {l : List MvM} (f : MvM → Bool) (h : MovesV w s l)
 (hF : Hid (∀ (t : MvM) (W : World), t ∈ l → Below w.heap.size w W → Calls Tryz.prog q (#[t.val] ++ caps) W fun e w' => e = .returned (.bool (f t)) ∧ Below W.heap.size W w')) :
 Calls Tryz.prog 88 #[.slice s.A s.n s.c, .func (.func q) #[] caps] w fun e w' => e = .returned (.bool (l.any f)) ∧ Below w.heap.size w w' := by
 have K := Lib.hid (ix_mv q caps hq f h hF)
 clear hF h hq
 go_enter Tryz.func88, Tryz.ntmps88
 go_wp2_with fail
 refine K.out.mono ?_
 rintro e w1 ⟨i, rfl, hi, hb⟩
 clear K
 go_wp2
 go_ret
 exact ⟨by rw [← hi]; rfl, hb⟩
end
theorem hmfN : ∀ (fn : Fn) (first cap : Array Value) (w : World), (Instr.makeFunc fn first cap).run Tryz.prog w = .ok (.func fn first cap) w := fun _ _ _ _ => rfl
theorem enter_of {f : FuncId} {fn : Func} {c : Code} (hf : Tryz.prog.funcs[f]? = some fn) (hname : (fn.name == "runtime.NumGoroutine") = false) (hb : fn.body = some c) : ∀ (args : Array Value) (W : World), (callFunc f args).run Tryz.prog W = .ok (.enter f args) W := fun args W => by
 have h1 : fn.name ≠ "runtime.NumGoroutine" := by simpa using hname
 simp [callFunc, hf, h1, hb, mark]
def TestOk (f : Nat) (g : Int → Int → MvM → Bool) : Prop :=
 (∀ (args : Array Value) (W : World), (callFunc f args).run Tryz.prog W = .ok (.enter f args) W) ∧
 ∀ (op : ByteArray) (a b : Int) (A : Option Addr) (n c : Nat) (v : MvM) (W : World), Calls Tryz.prog f #[.agg #[.string op, .int .i64 a, .int .i64 b, .slice A n c], v.val] W fun e w' => e = .returned (.bool (g a b v)) ∧ Below W.heap.size W w'
theorem enters89 : ∀ (args : Array Value) (W : World), (callFunc 89 args).run Tryz.prog W = .ok (.enter 89 args) W := enter_of Tryz.func89 (by kernel_rfl) rfl
theorem enters107 : ∀ (args : Array Value) (W : World), (callFunc 107 args).run Tryz.prog W = .ok (.enter 107 args) W := enter_of Tryz.func107 (by kernel_rfl) rfl
theorem enters109 : ∀ (args : Array Value) (W : World), (callFunc 109 args).run Tryz.prog W = .ok (.enter 109 args) W := enter_of Tryz.func109 (by kernel_rfl) rfl
theorem test99 : TestOk 99 (fun a _ v => v.item == a) := ⟨enter_of Tryz.func99 (by kernel_rfl) rfl, t_item⟩
theorem test101 : TestOk 101 (fun a b v => v.item == b && decide (a < v.n)) := ⟨enter_of Tryz.func101 (by kernel_rfl) rfl, t_more⟩
theorem test105 : TestOk 105 (fun a _ v => v.from_ == a || v.to_ == a) := ⟨enter_of Tryz.func105 (by kernel_rfl) rfl, t_account⟩
set_option maxRecDepth 100000 in
theorem some89 {f : Nat} {g : Int → Int → MvM → Bool} (hT : TestOk f g) {W : World} {tb mb : Nat} (op : ByteArray) (a b : Int) (A : Option Addr) (n c : Nat) (v : MvM) (hf : FnAt W tb f) (hm : Bk W mb 49 [.string op, .int .i64 a, .int .i64 b, .slice A n c]) :
 Calls Tryz.prog 89 (#[v.val] ++ #[.pointer (some ⟨tb, 0, none⟩), .pointer (some ⟨mb, 0, none⟩)]) W fun e w' => e = .returned (.bool (g a b v)) ∧ Below W.heap.size W w' := by
 have y : Below W.heap.size W (W.alloc (.cells #[.int .i64 v.from_, .int .i64 v.to_, .int .i64 v.item, .int .i64 v.n, .slice v.sp.A v.sp.n v.sp.c] 125)) := (Below.refl _ _).alloc (Nat.le_refl _) _
 have hq := hT.1
 have K := Lib.hid (hT.2 op a b A n c v (W.alloc (.cells #[.int .i64 v.from_, .int .i64 v.to_, .int .i64 v.item, .int .i64 v.n, .slice v.sp.A v.sp.n v.sp.c] 125)))
 have c1 := hf.2
 have l1 := hf.1
 have m0 : W.cell? ⟨mb, 0, none⟩ = some (.string op) := hm.cell 0
 have m1 : W.cell? ⟨mb, 1, none⟩ = some (.int .i64 a) := hm.cell 1
 have m2 : W.cell? ⟨mb, 2, none⟩ = some (.int .i64 b) := hm.cell 2
 have m3 : W.cell? ⟨mb, 3, none⟩ = some (.slice A n c) := hm.cell 3
 have ml := hm.lt
 clear hT hf hm
 show Calls Tryz.prog 89 #[v.val, .pointer (some ⟨tb, 0, none⟩), .pointer (some ⟨mb, 0, none⟩)] W _
 go_enter Tryz.func89, Tryz.ntmps89
 go_wp2_with fail
 refine K.out.mono ?_
 rintro e w1 ⟨rfl, hb⟩
 have hb2 := y.trans (hb.mono (by simp))
 clear K
 go_wp2
 go_ret
 exact ⟨rfl, hb2⟩
set_option maxRecDepth 100000 in
theorem some87 {f : Nat} {g : Int → Int → MvM → Bool} (hT : TestOk f g) {W : World} {tb : Nat} (op : ByteArray) (a b : Int) (A : Option Addr) (n c : Nat) (s : StepM) (hf : FnAt W tb f) (hs : s.Ok W) :
 Calls Tryz.prog 87 #[.agg #[.string op, .int .i64 a, .int .i64 b, .slice A n c], s.val, .pointer (some ⟨tb, 0, none⟩)] W fun e w' => e = .returned (.bool (s.moves.any (g a b))) ∧ Below W.heap.size W w' := by
 have hmf := hmfN
 have y : Below W.heap.size W ((W.alloc (.cells #[.string op, .int .i64 a, .int .i64 b, .slice A n c] 49)).alloc (.cells #[.int .i64 s.id, .int .i64 s.kind, .int .i64 s.actor, .int .i64 s.tick, .int .i64 s.rule, .int .i64 s.times, .slice s.sm.A s.sm.n s.sm.c] 59)) := ((Below.refl _ _).alloc (Nat.le_refl _) _).alloc (by simp) _
 have k := (Bk.new W 49 [.string op, .int .i64 a, .int .i64 b, .slice A n c]).alloc (.cells #[.int .i64 s.id, .int .i64 s.kind, .int .i64 s.actor, .int .i64 s.tick, .int .i64 s.rule, .int .i64 s.times, .slice s.sm.A s.sm.n s.sm.c] 59)
 have K := Lib.hid (has_mv 89 #[.pointer (some ⟨tb, 0, none⟩), .pointer (some ⟨W.heap.size, 0, none⟩)] enters89 (g a b) (hs.below y).moves (Lib.hid fun v W' _ hW' => some89 hT op a b A n c v ((hf.below y).below hW') (k.below hW' k.lt)))
 clear hT hf hs k
 go_enter Tryz.func87, Tryz.ntmps87
 go_wp2_with fail
 refine K.out.mono ?_
 rintro e w1 ⟨rfl, hb⟩
 have hb2 := y.trans (hb.mono (by simp; omega))
 clear K
 go_wp2
 go_ret
 exact ⟨rfl, hb2⟩
/-- What a condition says of a step. -/
def condV (s : StepM) (op : ByteArray) (a b : Int) : Bool :=
 if op = sKind then s.kind == a else if op = sActor then s.actor == a else if op = sRule then s.rule == a || s.rule == wrap64 (-2 - a)
 else if op = sTick then decide (a ≤ s.tick) && decide (s.tick ≤ b) else if op = sItem then s.moves.any (fun v => v.item == a)
 else if op = sMore then s.moves.any (fun v => v.item == b && decide (a < v.n)) else if op = sStep then decide (a ≤ s.id) && decide (s.id ≤ b)
 else if op = sAccount then s.moves.any (fun v => v.from_ == a || v.to_ == a) else false
set_option maxRecDepth 100000 in
set_option maxHeartbeats 1000000 in
theorem kid_any {W : World} {bk bs bm : Nat} (t : MkM) (s : StepM) (b : Bool) (hk : Bk W bk 121 [.map (some bm)]) (hs : Bk W bs 59 s.cells) (hC : Hid (∀ W', Below W.heap.size W W' → Calls Tryz.prog 60 #[.map (some bm), t.val, s.val] W' fun e w' => e = .returned (.bool b) ∧ Below W'.heap.size W' w')) :
 Calls Tryz.prog 107 (#[t.val] ++ #[.pointer (some ⟨bk, 0, none⟩), .pointer (some ⟨bs, 0, none⟩)]) W fun e w' => e = .returned (.bool b) ∧ Below W.heap.size W w' := by
 have y : Below W.heap.size W (W.alloc (.cells #[.string t.op, .int .i64 t.a, .int .i64 t.b, .slice t.s.A t.s.n t.s.c] 49)) := (Below.refl _ _).alloc (Nat.le_refl _) _
 have K := Lib.hid (hC.out _ y)
 have k0 : W.cell? ⟨bk, 0, none⟩ = some (.map (some bm)) := hk.cell 0
 have kl := hk.lt
 have c0 : W.cell? ⟨bs, 0, none⟩ = some (.int .i64 s.id) := hs.cell 0
 have c1 : W.cell? ⟨bs, 1, none⟩ = some (.int .i64 s.kind) := hs.cell 1
 have c2 : W.cell? ⟨bs, 2, none⟩ = some (.int .i64 s.actor) := hs.cell 2
 have c3 : W.cell? ⟨bs, 3, none⟩ = some (.int .i64 s.tick) := hs.cell 3
 have c4 : W.cell? ⟨bs, 4, none⟩ = some (.int .i64 s.rule) := hs.cell 4
 have c5 : W.cell? ⟨bs, 5, none⟩ = some (.int .i64 s.times) := hs.cell 5
 have c6 : W.cell? ⟨bs, 6, none⟩ = some (.slice s.sm.A s.sm.n s.sm.c) := hs.cell 6
 have cl := hs.lt
 clear hk hs hC
 show Calls Tryz.prog 107 #[t.val, .pointer (some ⟨bk, 0, none⟩), .pointer (some ⟨bs, 0, none⟩)] W _
 go_enter Tryz.func107, Tryz.ntmps107
 go_wp2_with fail
 refine K.out.mono ?_
 rintro e w1 ⟨rfl, hb⟩
 have hb2 := y.trans (hb.mono (by simp))
 clear K
 go_wp2
 go_ret
 exact ⟨rfl, hb2⟩
set_option maxRecDepth 100000 in
theorem nkid_any {W : World} {b7 bk bs : Nat} (t : MkM) (b : Bool) (h7 : W.cell? ⟨b7, 0, none⟩ = some (.func (.func 107) #[] #[.pointer (some ⟨bk, 0, none⟩), .pointer (some ⟨bs, 0, none⟩)])) (hl : b7 < W.heap.size)
 (hC : Hid (∀ W', Below W.heap.size W W' → Calls Tryz.prog 107 (#[t.val] ++ #[.pointer (some ⟨bk, 0, none⟩), .pointer (some ⟨bs, 0, none⟩)]) W' fun e w' => e = .returned (.bool b) ∧ Below W'.heap.size W' w')) :
 Calls Tryz.prog 109 (#[t.val] ++ #[.pointer (some ⟨b7, 0, none⟩)]) W fun e w' => e = .returned (.bool (!b)) ∧ Below W.heap.size W w' := by
 have hq := enters107
 have y : Below W.heap.size W (W.alloc (.cells #[.string t.op, .int .i64 t.a, .int .i64 t.b, .slice t.s.A t.s.n t.s.c] 49)) := (Below.refl _ _).alloc (Nat.le_refl _) _
 have K := Lib.hid (hC.out _ y)
 clear hC
 show Calls Tryz.prog 109 #[t.val, .pointer (some ⟨b7, 0, none⟩)] W _
 go_enter Tryz.func109, Tryz.ntmps109
 go_wp2_with fail
 refine K.out.mono ?_
 rintro e w1 ⟨rfl, hb⟩
 have hb2 := y.trans (hb.mono (by simp))
 clear K
 go_wp2
 go_ret
 exact ⟨rfl, hb2⟩
/-- A list of names in memory. -/
structure NmV (w : World) (A : Option Addr) (n : Nat) (l : List ByteArray) : Prop where
 row : TRow w 9 A (l.map Value.string)
 len : n = l.length
 small : n ≤ 100000
theorem NmV.below {w w' : World} {A : Option Addr} {n : Nat} {l : List ByteArray} (h : NmV w A n l) (hb : Below w.heap.size w w') : NmV w' A n l := ⟨h.row.keep (.below hb), h.len, h.small⟩
theorem NmV.keep {w w' : World} {A : Option Addr} {n : Nat} {l : List ByteArray} (h : NmV w A n l) (hb : Keep 9 w w') : NmV w' A n l := ⟨h.row.keep hb, h.len, h.small⟩
theorem NmV.at_ {w : World} {A : Option Addr} {n : Nat} {l : List ByteArray} (h : NmV w A n l) (k : Nat) (hk : k < l.length) : ∃ b off, A = some ⟨b, off, none⟩ ∧ b < w.heap.size ∧ w.cell? ⟨b, off + k, none⟩ = some (.string l[k]) := by
 have e : ∀ l : List ByteArray, l.map Value.string = l.flatMap fun s => [Value.string s] := by
  intro l
  induction l with
  | nil => rfl
  | cons x xs ih => rw [List.flatMap_cons, ← ih]; rfl
 have hr := h.row
 rw [e] at hr
 obtain ⟨b, off, hA, hb, hc⟩ := TRow.at_ (f := fun s => [Value.string s]) (n := 1) (fun _ => rfl) hr k hk (by omega)
 exact ⟨b, off, hA, hb, by simpa using hc 0 _ rfl⟩
def ixOf (l : List ByteArray) (s : ByteArray) : Int := match nameIx l s with | some k => k | none => -1
theorem nameIx_some {l : List ByteArray} {s : ByteArray} {k : Nat} (hk : k < l.length) (h : ∀ j (hj : j < l.length), j < k → l[j] ≠ s) (he : l[k] = s) : nameIx l s = some k := by
 induction l generalizing k with
 | nil => simp at hk
 | cons x xs ih =>
   simp only [nameIx]
   cases k with
   | zero => simp at he; simp [he]
   | succ k =>
     have h0 := h 0 (by simp) (by omega)
     simp at h0
     rw [if_neg h0, ih (k := k) (by simpa using hk) (fun j hj hjk => by
      have := h (j + 1) (by simp; omega) (by omega)
      simpa using this) (by simpa using he)]
     rfl
theorem nameIx_none {l : List ByteArray} {s : ByteArray} (h : ∀ j (hj : j < l.length), l[j] ≠ s) : nameIx l s = none := by
 induction l with
 | nil => rfl
 | cons x xs ih =>
   have h0 := h 0 (by simp)
   simp at h0
   simp only [nameIx]
   rw [if_neg h0, ih fun j hj => by
    have := h (j + 1) (by simp; omega)
    simpa using this]
   rfl
theorem eqL (a b : ByteArray) : (a.toList == b.toList) = decide (a = b) := by
 by_cases h : a = b
 ·subst h; simp
 ·have : (a.toList == b.toList) = false := by
   simp only [beq_eq_false_iff_ne, ne_eq, ByteArray.toList_eq]
   exact fun e => h (bytes_inj (by simpa using e))
  rw [this]; simp [h]
set_option maxRecDepth 100000 in
theorem index_any {w : World} {A : Option Addr} {n c : Nat} {l : List ByteArray} (s : ByteArray) (h : NmV w A n l) : Calls Tryz.prog 124 #[.slice A n c, .string s] w fun e w' => e = .returned (.int .i64 (ixOf l s)) ∧ w' = w := by
 have Hn := Lib.hid h.len
 have H := Lib.hid h
 have hs := h.small
 clear h
 go_enter Tryz.func124, Tryz.ntmps124
 go_wp2_with fail
 go_loopw [8] (fun i wr => ∃ k : Nat, k ≤ n ∧ i = .int .i64 k ∧ (∀ j (hj : j < l.length), j < k → l[j] ≠ s) ∧ wr = w) (fun i _ => n - (intOf i).toNat)
 case atStart => exact ⟨0, Nat.zero_le _, rfl, fun _ _ h => absurd h (by omega), rfl⟩
 case round =>
  obtain ⟨k, hk, rfl, hR, rfl⟩ := hrel
  have HR := Lib.hid hR
  clear hR
  by_cases hlt : k < n
  ·have hkl : k < l.length := by have := Hn.out; omega
   obtain ⟨b, off, rfl, hbb, c0⟩ := H.out.at_ k hkl
   have e := eqL s l[k]
   have Hs := Lib.hid (fun (hne : l[k] ≠ s) j (hj : j < l.length) (hjk : j < k + 1) => show l[j] ≠ s from by
    by_cases e : j = k
    ·subst e; exact hne
    ·exact HR.out j hj (by omega))
   have Hy := Lib.hid (fun (he : l[k] = s) => nameIx_some hkl HR.out he)
   generalize l[k] = y at *
   clear hkl HR
   by_cases hq : y = s
   ·have e2 : (s.toList == y.toList) = true := by rw [e]; simp [hq]
    have Hz := Lib.hid (Hy.out hq)
    clear hq Hs Hy e
    go_wp2
    go_ret
    exact ⟨by unfold ixOf; rw [Hz.out]; rfl, rfl⟩
   ·have e2 : (s.toList == y.toList) = false := by rw [e]; simp [Ne.symm hq]
    have Hz := Lib.hid (Hs.out hq)
    clear hq Hs Hy e
    go_wp2
    go_roundw
    case rel => exact ⟨k + 1, by omega, by go_num, Hz.out, trivial⟩
    case measure => simp [intOf]; omega
  ·have hkn : k = n := by omega
   have HT : Hid (nameIx l s = none) := nameIx_none fun j hj => HR.out j hj (by have := Hn.out; omega)
   clear hkn HR
   go_wp2
   go_ret
   exact ⟨by unfold ixOf; rw [HT.out]; rfl, rfl⟩
def kindNs : List ByteArray := [⟨#[115, 112, 97, 119, 110]⟩, ⟨#[115, 105, 110, 107]⟩, ⟨#[116, 114, 97, 100, 101]⟩, ⟨#[102, 101, 101]⟩, ⟨#[99, 114, 97, 102, 116]⟩, ⟨#[105, 109, 112, 111, 114, 116]⟩, ⟨#[101, 120, 112, 111, 114, 116]⟩, ⟨#[114, 101, 99, 97, 108, 108]⟩, ⟨#[99, 108, 97, 105, 109]⟩, ⟨#[114, 101, 118, 111, 107, 101]⟩, ⟨#[99, 111, 110, 118, 101, 114, 116]⟩]
def NmQ (w : World) (l : List ByteArray) (e : Ending) (w' : World) : Prop := ∃ A n c, e = .returned (.slice A n c) ∧ NmV w' A n l ∧ Below w.heap.size w w'
set_option maxRecDepth 100000 in
theorem kinds_any (w : World) : Calls Tryz.prog 81 #[] w (NmQ w kindNs) := by
 go_enter Tryz.func81, Tryz.ntmps81
 go_wp2
 go_ret
 refine ⟨_, _, _, rfl, ⟨.inr ⟨w.heap.size, 0, _, _, rfl, heap_alloc_new w _, fun j u hu => ?_⟩, rfl, by decide⟩, (Below.refl _ _).alloc (Nat.le_refl _) _⟩
 rw [Nat.zero_add, ← List.getElem?_toArray] at *
 exact hu
set_option maxRecDepth 100000 in
set_option maxHeartbeats 1000000 in
theorem itemNames_any {w : World} {m : CatM} (h : ItsV w m.si m.items) : Calls Tryz.prog 50 #[m.val] w (NmQ w (m.items.map It.name)) := by
 have Hn := Lib.hid h.len
 have H := Lib.hid h
 have hs := h.small
 clear h
 obtain ⟨i0, hi, hz0, hz1, hz2⟩ := info_parts info9
 obtain ⟨items, rules, tables, taxes, si, sr, st, sx⟩ := m
 dsimp only [CatM.val, catS] at *
 obtain ⟨A0, n0, c0⟩ := si
 obtain ⟨A1, n1, c1⟩ := sr
 obtain ⟨A2, n2, c2⟩ := st
 obtain ⟨A3, n3, c3⟩ := sx
 dsimp only at *
 have y : Below w.heap.size w (w.alloc (.cells #[.slice A0 n0 c0, .slice A1 n1 c1, .slice A2 n2 c2, .slice A3 n3 c3] 28)) := (Below.refl _ _).alloc (Nat.le_refl _) _
 go_enter Tryz.func50, Tryz.ntmps50
 go_wp2_with fail
 go_loopw [3, 9] (fun v i wr => ∃ k : Nat, k ≤ n0 ∧ i = .int .i64 k ∧ wr.ownsRow w.heap.size 9 1 v k (((items.take k).map It.name).map Value.string) ∧ Below w.heap.size w wr) (fun _ i _ => n0 - (intOf i).toNat)
 case atStart => exact ⟨0, Nat.zero_le _, rfl, World.ownsRow_nil _ _ _ _, y⟩
 case round =>
  obtain ⟨k, hk, rfl, hown, hb⟩ := hrel
  have HO := Lib.hid hown
  have HB := Lib.hid hb
  have hsz := hb.size
  by_cases hlt : k < n0
  ·have hkl : k < items.length := by have := Hn.out; omega
   obtain ⟨b, off, rfl, hbb, d0, d1, d2, d3, d4, d5, d6⟩ := (H.out.below hb).at_ k hkl
   have HS : Hid (((items.take (k + 1)).map It.name).map Value.string = ((items.take k).map It.name).map Value.string ++ [.string (It.name items[k])]) := by
    show _ = _
    rw [List.take_succ_eq_append_getElem hkl, List.map_append, List.map_append]; rfl
   clear hown hb
   generalize items[k] = x at *
   clear hkl
   generalize ((items.take k).map It.name).map Value.string = X at *
   go_wp2_with (at_builtin; refine wpList_append_own_at _ rfl _ _ 39 rfl w.heap.size 9 i0 (.string ⟨#[]⟩) 1 16 Tryz.underlying39 hi hz0 hz1 hz2 rfl (by decide) _ k X rfl ((HO.out.alloc _).alloc _) ⟨wr.heap.size + 1, 0, none⟩ 1 1 [.string (It.name x)] rfl rfl ?c1 (one1s _) ?c3 ?c4 ?c5 ?_)
   case c1 => simpa using new1 (wr.alloc (.cells #[.string x.name, .bool x.object, .bool x.mixed, .bool x.coin, .int .i64 x.wear, .int .i64 x.bnd, .int .i64 x.level] 76)) 9 (.string (It.name x))
   case c3 => unfold maxLen; omega
   case c4 => omega
   case c5 => simp; omega
   intro v' w1 hown' hgrow _ _
   have hb1 : Below w.heap.size w w1 := ((HB.out.alloc hsz _).alloc (by simp; omega) _).grown hgrow (by simp; omega) (row_base HO.out)
   have HO1 := Lib.hid hown'
   clear hown' hgrow
   go_wp2_with fail
   go_roundw
   case rel => exact ⟨k + 1, by omega, by go_num, by rw [HS.out]; exact HO1.out, hb1⟩
   case measure => simp [intOf]; omega
  ·have hkn : k = n0 := by omega
   have hT : items.take k = items := List.take_of_length_le (by have := Hn.out; omega)
   rw [hT] at HO
   have hQ : ∃ A c, u3 = .slice A n0 c := by
    rw [hkn] at HO
    rcases HO.out.2 with ⟨hv, h0⟩ | ⟨g, cap, cur, hv, _⟩
    ·exact ⟨none, 0, by rw [hv, h0]⟩
    ·exact ⟨_, _, hv⟩
   obtain ⟨A, c, rfl⟩ := hQ
   have hL := Hn.out
   rw [hkn] at HO
   have HQ : Hid (NmQ w (items.map It.name) (.returned (.slice A n0 c)) wr) := ⟨A, n0, c, rfl, ⟨TRow.of_own HO.out, by simpa using hL, hs⟩, HB.out⟩
   clear hkn hT HO hb hown hL
   go_wp2
   go_ret
   exact HQ.out
set_option maxRecDepth 100000 in
set_option maxHeartbeats 1000000 in
theorem ruleNames_any {w : World} {m : CatM} (h : RulesV w m.sr m.rules) : Calls Tryz.prog 51 #[m.val] w (NmQ w (m.rules.map RuM.name)) := by
 have Hn := Lib.hid h.len
 have H := Lib.hid h
 have hs := h.small
 clear h
 obtain ⟨i0, hi, hz0, hz1, hz2⟩ := info_parts info9
 obtain ⟨items, rules, tables, taxes, si, sr, st, sx⟩ := m
 dsimp only [CatM.val, catS] at *
 obtain ⟨A0, n0, c0⟩ := si
 obtain ⟨A1, n1, c1⟩ := sr
 obtain ⟨A2, n2, c2⟩ := st
 obtain ⟨A3, n3, c3⟩ := sx
 dsimp only at *
 have y : Below w.heap.size w (w.alloc (.cells #[.slice A0 n0 c0, .slice A1 n1 c1, .slice A2 n2 c2, .slice A3 n3 c3] 28)) := (Below.refl _ _).alloc (Nat.le_refl _) _
 go_enter Tryz.func51, Tryz.ntmps51
 go_wp2_with fail
 go_loopw [3, 9] (fun v i wr => ∃ k : Nat, k ≤ n1 ∧ i = .int .i64 k ∧ wr.ownsRow w.heap.size 9 1 v k (((rules.take k).map RuM.name).map Value.string) ∧ Below w.heap.size w wr) (fun _ i _ => n1 - (intOf i).toNat)
 case atStart => exact ⟨0, Nat.zero_le _, rfl, World.ownsRow_nil _ _ _ _, y⟩
 case round =>
  obtain ⟨k, hk, rfl, hown, hb⟩ := hrel
  have HO := Lib.hid hown
  have HB := Lib.hid hb
  have hsz := hb.size
  by_cases hlt : k < n1
  ·have hkl : k < rules.length := by have := Hn.out; omega
   obtain ⟨b, off, rfl, hbb, d0, d1, d2, d3, d4, d5, d6, d7, d8⟩ := (H.out.below hb).at_ k hkl
   have HS : Hid (((rules.take (k + 1)).map RuM.name).map Value.string = ((rules.take k).map RuM.name).map Value.string ++ [.string (RuM.name rules[k])]) := by
    show _ = _
    rw [List.take_succ_eq_append_getElem hkl, List.map_append, List.map_append]; rfl
   clear hown hb
   generalize rules[k] = x at *
   clear hkl
   generalize ((rules.take k).map RuM.name).map Value.string = X at *
   go_wp2_with (at_builtin; refine wpList_append_own_at _ rfl _ _ 39 rfl w.heap.size 9 i0 (.string ⟨#[]⟩) 1 16 Tryz.underlying39 hi hz0 hz1 hz2 rfl (by decide) _ k X rfl ((HO.out.alloc _).alloc _) ⟨wr.heap.size + 1, 0, none⟩ 1 1 [.string (RuM.name x)] rfl rfl ?c1 (one1s _) ?c3 ?c4 ?c5 ?_)
   case c1 => simpa using new1 (wr.alloc (.cells #[.string x.name, .bool x.spawn, .int .i64 x.level, .int .i64 x.time, .int .i64 x.chance, .int .i64 x.of_, .slice x.st.A x.st.n x.st.c, .slice x.sg.A x.sg.n x.sg.c, .slice x.sb.A x.sb.n x.sb.c] 80)) 9 (.string (RuM.name x))
   case c3 => unfold maxLen; omega
   case c4 => omega
   case c5 => simp; omega
   intro v' w1 hown' hgrow _ _
   have hb1 : Below w.heap.size w w1 := ((HB.out.alloc hsz _).alloc (by simp; omega) _).grown hgrow (by simp; omega) (row_base HO.out)
   have HO1 := Lib.hid hown'
   clear hown' hgrow
   go_wp2_with fail
   go_roundw
   case rel => exact ⟨k + 1, by omega, by go_num, by rw [HS.out]; exact HO1.out, hb1⟩
   case measure => simp [intOf]; omega
  ·have hkn : k = n1 := by omega
   have hT : rules.take k = rules := List.take_of_length_le (by have := Hn.out; omega)
   rw [hT] at HO
   have hQ : ∃ A c, u3 = .slice A n1 c := by
    rw [hkn] at HO
    rcases HO.out.2 with ⟨hv, h0⟩ | ⟨g, cap, cur, hv, _⟩
    ·exact ⟨none, 0, by rw [hv, h0]⟩
    ·exact ⟨_, _, hv⟩
   obtain ⟨A, c, rfl⟩ := hQ
   have hL := Hn.out
   rw [hkn] at HO
   have HQ : Hid (NmQ w (rules.map RuM.name) (.returned (.slice A n1 c)) wr) := ⟨A, n1, c, rfl, ⟨TRow.of_own HO.out, by simpa using hL, hs⟩, HB.out⟩
   clear hkn hT HO hb hown hL
   go_wp2
   go_ret
   exact HQ.out
section
/-- Of what was there the blocks r and p alone have changed. -/
structure Gr2 (r p : Nat) (w w' : World) : Prop where
 os : w'.os = w.os
 tape : w'.tape = w.tape
 output : w'.output = w.output
 size : w.heap.size ≤ w'.heap.size
 block : ∀ i, i < w.heap.size → i ≠ r → i ≠ p → w'.heap[i]? = w.heap[i]?
section
variable {r p : Nat} {a b c w w' : World}
theorem Gr2.refl (r p : Nat) (w : World) : Gr2 r p w w := ⟨rfl, rfl, rfl, Nat.le_refl _, fun _ _ _ _ => rfl⟩
theorem Gr2.trans (h : Gr2 r p a b) (k : Gr2 r p b c) : Gr2 r p a c := ⟨k.os.trans h.os, k.tape.trans h.tape, k.output.trans h.output, Nat.le_trans h.size k.size, fun i hi h1 h2 => (k.block i (Nat.lt_of_lt_of_le hi h.size) h1 h2).trans (h.block i hi h1 h2)⟩
theorem Gr2.of_r (h : w.grownBy w' (some r)) : Gr2 r p w w' := ⟨h.os, h.tape, h.output, h.size, fun i hi h1 _ => h.block i hi (by simpa using h1)⟩
theorem Gr2.of_p (h : w.grownBy w' (some p)) : Gr2 r p w w' := ⟨h.os, h.tape, h.output, h.size, fun i hi _ h2 => h.block i hi (by simpa using h2)⟩
theorem Gr2.of_below (h : Below w.heap.size w w') : Gr2 r p w w' := ⟨h.os, h.tape, h.output, h.size, fun i hi _ _ => h.block i hi⟩
theorem Gr2.below {B : Nat} (h : Gr2 r p b c) (k : Below B a b) (hr : B ≤ r) (hp : B ≤ p) (hB : B ≤ b.heap.size) : Below B a c := k.trans ⟨h.os, h.tape, h.output, h.size, fun i hi => h.block i (by omega) (by omega) (by omega)⟩
theorem Gr2.keep {t : TypeId} (h : Gr2 r p w w') (hr : ∀ cur fl, w.heap[r]? ≠ some (.cells cur t fl)) (hp : ∀ cur fl, w.heap[p]? ≠ some (.cells cur t fl)) : Keep t w w' := fun i cur fl hi => by
 have h1 : i ≠ r := fun e => hr cur fl (e ▸ hi)
 have h2 : i ≠ p := fun e => hp cur fl (e ▸ hi)
 exact (h.block i (Array.getElem?_eq_some_iff.1 hi).1 h1 h2).trans hi
theorem Bk.gr2 {g : Nat} {t : TypeId} {xs : List Value} (k : Bk w g t xs) (h : Gr2 r p w w') (h1 : g ≠ r) (h2 : g ≠ p) : Bk w' g t xs := (h.block g k.lt h1 h2).trans k
theorem Bk.not {g : Nat} {t t' : TypeId} {xs : List Value} (k : Bk w g t xs) (hne : t ≠ t') : ∀ cur fl, w.heap[g]? ≠ some (.cells cur t' fl) := fun cur fl e => by
 unfold Bk at k
 rw [k] at e
 cases e
 exact hne rfl
theorem MkM.Ok.gr2 {t : TypeId} {P : Nat → Prop} {m : MkM} (h : m.Ok w t P) (hg : Gr2 r p w w') (hP : ∀ b, P b → b ≠ r ∧ b ≠ p) : m.Ok w' t P := by
 induction h with
 | mk op a b ks s row len small hop ha hb _ ih =>
   refine .mk op a b ks s ?_ len small hop ha hb ih
   rcases row with h | ⟨b, off, cur, fl, hA, hPb, hb, hc⟩
   ·exact .inl h
   ·exact .inr ⟨b, off, cur, fl, hA, hPb, (hg.block b (Array.getElem?_eq_some_iff.1 hb).1 (hP b hPb).1 (hP b hPb).2).trans hb, hc⟩
end
def pCells (rb : Nat) (m : CatM) (st : PSt) : List Value := [.pointer (some ⟨rb, 0, none⟩), .slice m.si.A m.si.n m.si.c, .slice m.sr.A m.sr.n m.sr.c, .slice m.st.A m.st.n m.st.c, .slice m.sx.A m.sx.n m.sx.c, .string ⟨#[]⟩, .int .i64 0, .int .i64 0, .slice none 0 0, .int .i64 st.2, .int .i64 st.1]
/-- The parser at block pb, its reader at block rb. -/
structure PAt (W : World) (rb pb : Nat) (m : CatM) (ts : List Tok) (len : Int) (st : PSt) : Prop where
 rd : RdAt W rb ts len
 pk : Bk W pb 142 (pCells rb m st)
 its : ItsV W m.si m.items
 rus : RulesV W m.sr m.rules
 lt : rb < pb
 toks : ∀ t ∈ ts, t.text.size ≤ 8192 ∧ In64 t.num
section
variable {W W' : World} {rb pb : Nat} {m : CatM} {ts ts' : List Tok} {len : Int} {st st' : PSt}
theorem RdAt.not {t' : TypeId} (h : RdAt W rb ts len) (hne : 176 ≠ t') : ∀ cur fl, W.heap[rb]? ≠ some (.cells cur t' fl) := by
 obtain ⟨A, c, h1, _⟩ := h; exact h1.not hne
theorem PAt.turned (h : PAt W rb pb m ts len st) (g : Gr2 rb pb W W') (hrd : RdAt W' rb ts' len) (hpk : Bk W' pb 142 (pCells rb m st')) (hts : ∀ t ∈ ts', t ∈ ts) : PAt W' rb pb m ts' len st' :=
 ⟨hrd, hpk, h.its.keep (g.keep (h.rd.not (by decide)) (h.pk.not (by decide))), h.rus.keep (g.keep (h.rd.not (by decide)) (h.pk.not (by decide))) (g.keep (h.rd.not (by decide)) (h.pk.not (by decide))), h.lt, fun t ht => h.toks t (hts t ht)⟩
/-- Behind a call that reads. -/
theorem PAt.read (h : PAt W rb pb m ts len st) (g : W.grownBy W' (some rb)) (hrd : RdAt W' rb ts' len) (hts : ∀ t ∈ ts', t ∈ ts) : PAt W' rb pb m ts' len st :=
 h.turned (.of_r g) hrd (h.pk.grown g (by have := h.lt; simp; omega)) hts
theorem PAt.below (h : PAt W rb pb m ts len st) (hb : Below W.heap.size W W') : PAt W' rb pb m ts len st :=
 h.turned (.of_below hb) (h.rd.below hb) (h.pk.below hb h.pk.lt) fun _ ht => ht
theorem PAt.r0 (h : PAt W rb pb m ts len st) : W.cell? ⟨pb, 0, none⟩ = some (.pointer (some ⟨rb, 0, none⟩)) := h.pk.cell 0
theorem PAt.plt (h : PAt W rb pb m ts len st) : pb < W.heap.size := h.pk.lt
theorem PAt.rlt (h : PAt W rb pb m ts len st) : rb < W.heap.size := h.rd.lt
end
theorem isB_any (ts : List Tok) (k : Int) : isB ts k ⟨#[]⟩ = kindB ts k := by
 cases ts with
 | nil => rfl
 | cons t r => simp [isB, kindB, ByteArray.toList_eq]
theorem isB_word (ts : List Tok) (k : Int) {s : ByteArray} (hs : s ≠ ⟨#[]⟩) : isB ts k s = headB ts k s := by
 cases ts with
 | nil => rfl
 | cons t r =>
   have : s.toList.isEmpty = false := by
    cases q : s.toList.isEmpty
    ·rfl
    ·exfalso
     rw [List.isEmpty_iff, ByteArray.toList_eq] at q
     exact hs (bytes_inj (by simpa using q))
   simp [isB, headB, this, eqL]
set_option maxRecDepth 100000 in
theorem find_any {W : World} {rb pb : Nat} {m : CatM} {ts : List Tok} {len : Int} {st : PSt} (a e : Int) (h : PAt W rb pb m ts len st) : Calls Tryz.prog 145 #[.pointer (some ⟨pb, 0, none⟩), .int .i64 a, .int .i64 e] W fun en w' => en = .returned (.tuple #[]) ∧ PAt w' rb pb m ts len (st.note e a) ∧ Gr2 rb pb W w' := by
 have H := Lib.hid h
 have hl := h.plt
 have c10 : W.cell? ⟨pb, 10, none⟩ = some (.int .i64 st.1) := h.pk.cell 10
 have f9 := h.pk.frozen 9
 have f10 := h.pk.frozen 10
 have c9 : W.cell? ⟨pb, 9, none⟩ = some (.int .i64 st.2) := h.pk.cell 9
 obtain ⟨s1, s2⟩ := st
 dsimp only at *
 clear h
 cases q : (s1 == 0)
 ·have q' : (s1 == 0) = false := q
  have hn : (PSt.note (s1, s2) e a) = (s1, s2) := by simp only [PSt.note]; rw [if_neg (by simpa using q)]
  have HN := Lib.hid hn
  clear hn q
  go_enter Tryz.func145, Tryz.ntmps145
  go_wp2
  go_end0
  exact ⟨rfl, by rw [HN.out]; exact H.out, .refl _ _ _⟩
 ·have hn : (PSt.note (s1, s2) e a) = (e, a) := by simp only [PSt.note]; rw [if_pos (by simpa using q)]
  have HB : Hid (Bk ((W.setCell ⟨pb, 9, none⟩ (.int .i64 a)).setCell ⟨pb, 10, none⟩ (.int .i64 e)) pb 142 (pCells rb m (e, a))) := (H.out.pk.set 9 (.int .i64 a)).set 10 (.int .i64 e)
  have HG : Hid (W.grownBy ((W.setCell ⟨pb, 9, none⟩ (.int .i64 a)).setCell ⟨pb, 10, none⟩ (.int .i64 e)) (some pb)) := grown_trans2 (grown_setCell W pb 9 _) (grown_setCell _ pb 10 _)
  have HR := Lib.hid (H.out.rd.keep (W' := (W.setCell ⟨pb, 9, none⟩ (.int .i64 a)).setCell ⟨pb, 10, none⟩ (.int .i64 e)) fun i hi => HG.out.block i (Nat.lt_of_le_of_lt hi H.out.rlt) (by have := H.out.lt; simp; omega))
  have q' : s1 = 0 := by simpa using q
  subst q'
  have HN := Lib.hid hn
  clear hn q
  go_enter Tryz.func145, Tryz.ntmps145
  go_wp2
  go_end0
  exact ⟨rfl, by rw [HN.out]; exact H.out.turned (.of_p HG.out) HR.out HB.out fun _ ht => ht, .of_p HG.out⟩
end
def nameV (l : List ByteArray) (s : ByteArray) : Int := match nameIx l s with | some i => i | none => 0
def nameSt (l : List ByteArray) (t : Tok) (st : PSt) : PSt := match nameIx l t.text with | some _ => st | none => st.note 6 t.at_
set_option maxRecDepth 100000 in
theorem name_no {W : World} {rb pb : Nat} {m : CatM} {ts : List Tok} {len : Int} {st : PSt} {A : Option Addr} {n c : Nat} (h : PAt W rb pb m ts len st) (hk : kindB ts 0 = false) : Calls Tryz.prog 143 #[.pointer (some ⟨pb, 0, none⟩), .slice A n c] W fun e w' => e = failV ts len ∧ Gr2 rb pb W w' := by
 have K := Lib.hid (word_no ⟨#[]⟩ h.rd (by rw [isB_any]; exact hk))
 have r0 := h.r0
 have hl := h.plt
 clear h hk
 go_enter Tryz.func143, Tryz.ntmps143
 go_wp2_with fail
 refine K.out.mono ?_
 rintro e w1 ⟨rfl, hg⟩
 exact ⟨rfl, rfl, .of_r hg⟩
set_option maxRecDepth 100000 in
set_option maxHeartbeats 1000000 in
theorem name_ok {W : World} {rb pb : Nat} {m : CatM} {t : Tok} {r : List Tok} {len : Int} {st : PSt} {A : Option Addr} {n c : Nat} {l : List ByteArray} (h : PAt W rb pb m (t :: r) len st) (hN : NmV W A n l) (hk : t.kind = 0) :
 Calls Tryz.prog 143 #[.pointer (some ⟨pb, 0, none⟩), .slice A n c] W fun e w' => e = .returned (.int .i64 (nameV l t.text)) ∧ PAt w' rb pb m r len (nameSt l t st) ∧ Gr2 rb pb W w' := by
 have K := Lib.hid (word_yes ⟨#[]⟩ h.rd (by rw [isB_any]; simp [kindB, hk]))
 have r0 := h.r0
 have hl := h.plt
 have H := Lib.hid h
 have HN := Lib.hid hN
 clear h hk hN
 go_enter Tryz.func143, Tryz.ntmps143
 go_wp2_with fail
 refine K.out.mono ?_
 rintro e w1 ⟨rfl, hr, hg⟩
 have H1 := H.out.read hg hr (fun _ ht => List.mem_cons_of_mem _ ht)
 have y : Below w1.heap.size w1 (w1.alloc (.cells #[.int .i64 t.kind, .string t.text, .int .i64 t.num, .int .i64 t.at_] 186)) := (Below.refl _ _).alloc (Nat.le_refl _) _
 have H2 := Lib.hid (H1.below y)
 have HG := Lib.hid ((Gr2.of_r (p := pb) hg).trans (.of_below y))
 have KI := Lib.hid (index_any (c := c) t.text ((HN.out.keep (.grown hg (H.out.rd.not (by decide)))).below y))
 clear K hr hg H1
 go_wp2_with fail
 refine KI.out.mono ?_
 rintro e w2 ⟨rfl, rfl⟩
 have HF := Lib.hid (find_any t.at_ 6 H2.out)
 clear KI y
 have e1 : ixOf l t.text = (match nameIx l t.text with | some k => (k : Int) | none => -1) := rfl
 have e2 : nameV l t.text = (match nameIx l t.text with | some k => (k : Int) | none => 0) := rfl
 have e3 : nameSt l t st = (match nameIx l t.text with | some _ => st | none => st.note 6 t.at_) := rfl
 have E3 := Lib.hid e3
 have E2 := Lib.hid e2
 rw [e1]
 clear e1 e2 e3
 cases q : nameIx l t.text with
 | some k =>
   rw [q] at E3 E2
   have E3' := E3.out
   have E2' := E2.out
   dsimp only at E3' E2' ⊢
   have E4 := Lib.hid E3'
   have E5 := Lib.hid E2'
   clear E2 E2'
   clear E3 E3' q HF
   go_wp2
   go_ret
   exact ⟨by rw [E5.out]; rfl, by rw [E4.out]; exact H2.out, HG.out⟩
 | none =>
   rw [q] at E3 E2
   have E3' := E3.out
   have E2' := E2.out
   dsimp only at E3' E2' ⊢
   have E4 := Lib.hid E3'
   have E5 := Lib.hid E2'
   clear E2 E2'
   clear E3 E3' q
   go_wp2_with fail
   refine HF.out.mono ?_
   rintro e w3 ⟨rfl, hp, hg3⟩
   have HP := Lib.hid hp
   have HG3 := Lib.hid (HG.out.trans hg3)
   clear HF hp hg3
   go_wp2
   go_ret
   exact ⟨by rw [E5.out]; rfl, by rw [E4.out]; exact HP.out, HG3.out⟩
/-- The test of a condition's numbers. -/
def RgOk (q : Nat) (f : Int → Int → Bool) : Prop := ∀ (op : ByteArray) (a b : Int) (A : Option Addr) (n c : Nat) (w : World), Calls Tryz.prog q #[.agg #[.string op, .int .i64 a, .int .i64 b, .slice A n c]] w fun e w' => e = .returned (.bool (f a b)) ∧ Below w.heap.size w w'
set_option maxRecDepth 100000 in
theorem rg_account : RgOk 93 fun a _ => decide (0 ≤ a) && decide (a ≤ 1073741824) := by
 intro op a b A n c w
 cases q : decide (0 ≤ a)
 ·have q' : decide (0 ≤ a) = false := q
  go_enter Tryz.func93, Tryz.ntmps93
  go_wp2
  go_ret
  exact ⟨by congr 2; (first | (rw [q]; simp) | skip); (first | (rw [q2]; simp) | skip), (Below.refl _ _).alloc (Nat.le_refl _) _⟩
 ·have q' : decide (0 ≤ a) = true := q
  go_enter Tryz.func93, Tryz.ntmps93
  go_wp2
  go_ret
  exact ⟨by congr 2; (first | (rw [q]; simp) | skip); (first | (rw [q2]; simp) | skip), (Below.refl _ _).alloc (Nat.le_refl _) _⟩
set_option maxRecDepth 100000 in
theorem rg_range : RgOk 98 fun a b => decide (0 ≤ a) && decide (a ≤ b) && decide (b ≤ 1099511627776) := by
 intro op a b A n c w
 cases q : decide (0 ≤ a)
 ·have q' : decide (0 ≤ a) = false := q
  go_enter Tryz.func98, Tryz.ntmps98
  go_wp2
  go_ret
  exact ⟨by congr 2; (first | (rw [q]; simp) | skip); (first | (rw [q2]; simp) | skip), (Below.refl _ _).alloc (Nat.le_refl _) _⟩
 ·have q' : decide (0 ≤ a) = true := q
  cases q2 : decide (a ≤ b)
  ·have q2' : decide (a ≤ b) = false := q2
   go_enter Tryz.func98, Tryz.ntmps98
   go_wp2
   go_ret
   exact ⟨by congr 2; rw [q, q2]; simp, (Below.refl _ _).alloc (Nat.le_refl _) _⟩
  ·have q2' : decide (a ≤ b) = true := q2
   go_enter Tryz.func98, Tryz.ntmps98
   go_wp2
   go_ret
   exact ⟨by congr 2; rw [q, q2]; simp, (Below.refl _ _).alloc (Nat.le_refl _) _⟩
set_option maxRecDepth 100000 in
theorem rg_always : RgOk 96 fun _ _ => true := by
 intro op a b A n c w
 go_enter Tryz.func96, Tryz.ntmps96
 go_wp2
 go_ret
 exact ⟨rfl, by first | exact Below.refl _ _ | exact (Below.refl _ _).alloc (Nat.le_refl _) _⟩
set_option maxRecDepth 100000 in
theorem rg_kind : RgOk 91 fun a _ => decide (0 ≤ a) && decide (a ≤ 10) := by
 intro op a b A n c w
 cases q : decide (0 ≤ a)
 ·have q' : decide (0 ≤ a) = false := q
  go_enter Tryz.func91, Tryz.ntmps91
  go_wp2
  go_ret
  exact ⟨by congr 2; (first | (rw [q]; simp) | skip); (first | (rw [q2]; simp) | skip), (Below.refl _ _).alloc (Nat.le_refl _) _⟩
 ·have q' : decide (0 ≤ a) = true := q
  go_enter Tryz.func91, Tryz.ntmps91
  go_wp2
  go_ret
  exact ⟨by congr 2; (first | (rw [q]; simp) | skip); (first | (rw [q2]; simp) | skip), (Below.refl _ _).alloc (Nat.le_refl _) _⟩
set_option maxRecDepth 100000 in
theorem rg_more : RgOk 103 fun a _ => decide (0 ≤ a) && decide (a ≤ 1099511627776) := by
 intro op a b A n c w
 cases q : decide (0 ≤ a)
 ·have q' : decide (0 ≤ a) = false := q
  go_enter Tryz.func103, Tryz.ntmps103
  go_wp2
  go_ret
  exact ⟨by congr 2; (first | (rw [q]; simp) | skip); (first | (rw [q2]; simp) | skip), (Below.refl _ _).alloc (Nat.le_refl _) _⟩
 ·have q' : decide (0 ≤ a) = true := q
  go_enter Tryz.func103, Tryz.ntmps103
  go_wp2
  go_ret
  exact ⟨by congr 2; (first | (rw [q]; simp) | skip); (first | (rw [q2]; simp) | skip), (Below.refl _ _).alloc (Nat.le_refl _) _⟩
end Go.Proofs.YtocodlpgaamblaaGreatDoor
