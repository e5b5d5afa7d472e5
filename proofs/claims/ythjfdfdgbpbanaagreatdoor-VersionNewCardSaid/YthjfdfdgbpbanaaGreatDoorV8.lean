/- The reference's names on any catalog. catalog.wellFormed on any catalog. -/
import Derived.Test.YthjfdfdgbpbanaaGreatDoorV7
import Derived.Maps.AppendAt
set_option linter.unusedVariables false
set_option linter.unusedSimpArgs false
open Go.RowKit
namespace Go.Proofs.YthjfdfdgbpbanaaGreatDoor
def strs (l : List ByteArray) : List Value := l.map Value.string
theorem strs_snoc (l : List ByteArray) (s : ByteArray) : strs (l ++ [s]) = strs l ++ [.string s] := by simp [strs]
theorem one1s (s : ByteArray) : ∀ u ∈ ([.string s] : List Value), u.oneCell' = true := by
 intro u hu
 simp only [List.mem_cons, List.not_mem_nil, or_false] at hu
 rcases hu with rfl; rfl
theorem info9 : (Tryz.prog.info? 9).map (fun i => (i.zero, i.size, i.bytes)) = some (some (.string ⟨#[]⟩), 1, 16) := by kernel_rfl
/-- What names returns: the four lists of names. -/
def NamesR (w : World) (m : CatM) (e : Ending) (w' : World) : Prop :=
 ∃ g A0 c0 A1 c1 A2 c2 A3 c3, e = .returned (.slice (some ⟨g, 0, none⟩) 4 4) ∧ Bk w' g 123 [.slice A0 m.items.length c0, .slice A1 m.rules.length c1, .slice A2 m.tables.length c2, .slice A3 m.taxes.length c3] ∧
  Row w' w'.heap.size A0 (strs (m.items.map It.name)) ∧ Row w' w'.heap.size A1 (strs (m.rules.map RuM.name)) ∧ Row w' w'.heap.size A2 (strs (m.tables.map TbM.name)) ∧ Row w' w'.heap.size A3 (strs (m.taxes.map TxM.name)) ∧ m.items.length ≤ c0 ∧ m.rules.length ≤ c1 ∧ m.tables.length ≤ c2 ∧ m.taxes.length ≤ c3 ∧ Below w.heap.size w w'
theorem own_cap {W : World} {base : Nat} {e : TypeId} {size n c : Nat} {A : Option Addr} {xs : List Value} (h : W.ownsRow base e size (.slice A n c) n xs) : n ≤ c := by
 rcases h.2 with ⟨hv, hn⟩ | ⟨g, cap, cur, hv, _, _, hc, _⟩
 ·omega
 ·cases hv; exact hc
set_option maxRecDepth 100000 in
set_option maxHeartbeats 4000000 in
theorem rnames_any {w : World} {m : CatM} (h : m.Ok w) : Calls Tryz.prog 87 #[m.val] w (NamesR w m) := by
 obtain ⟨items, rules, tables, taxes, ⟨Ai, ni, ci⟩, ⟨Ar, nr, cr⟩, ⟨At, nt, ct⟩, ⟨Ax, nx, cx⟩⟩ := m
 obtain ⟨i0, hinf, hz0, hz1, hz2⟩ := info_parts info9
 have X0 : Below w.heap.size w (w.alloc (.cells #[.slice Ai ni ci, .slice Ar nr cr, .slice At nt ct, .slice Ax nx cx] 28)) := (Below.refl _ _).alloc (Nat.le_refl _) _
 have k0 : Bk (w.alloc (.cells #[.slice Ai ni ci, .slice Ar nr cr, .slice At nt ct, .slice Ax nx cx] 28)) w.heap.size 28 [.slice Ai ni ci, .slice Ar nr cr, .slice At nt ct, .slice Ax nx cx] := Bk.new w 28 _
 have HX := Lib.hid X0
 have HK0 := Lib.hid k0
 have H := Lib.hid (h.below X0)
 have Hn0 := Lib.hid h.items.len
 have Hn1 := Lib.hid h.rules.len
 have Hn2 := Lib.hid h.tables.len
 have Hn3 := Lib.hid h.taxes.len
 have sm0 := h.items.small
 have sm1 := h.rules.small
 have sm2 := h.tables.small
 have sm3 := h.taxes.small
 dsimp only at Hn0 Hn1 Hn2 Hn3 sm0 sm1 sm2 sm3
 clear h k0 X0
 generalize hW0 : w.alloc (.cells #[.slice Ai ni ci, .slice Ar nr cr, .slice At nt ct, .slice Ax nx cx] 28) = W0 at H HX HK0
 go_enter Tryz.func87, Tryz.ntmps87
 go_wp2_with fail
 (try rw [hW0])
 clear hW0
 have GB0 := Lib.hid (Below.refl W0.heap.size W0)
 go_loopw [3, 7] (fun v i wr => ∃ k : Nat, k ≤ ni ∧ i = .int .i64 k ∧ wr.ownsRow W0.heap.size 9 1 v k (strs ((items.map It.name).take k)) ∧ Below W0.heap.size W0 wr) (fun _ i _ => ni - (intOf i).toNat)
 case atStart => exact ⟨0, Nat.zero_le _, rfl, World.ownsRow_nil _ _ _ _, Below.refl _ _⟩
 case round =>
  obtain ⟨k, hk, rfl, hown, hb⟩ := hrel
  have hsz := hb.size
  have GW := GB0.out.trans (hb.mono GB0.out.size)
  have hk0 := HK0.out.lt
  have bx : wr.cell? ⟨w.heap.size, 0, none⟩ = some (.slice Ai ni ci) := (GW.cell (p := ⟨w.heap.size, 0, none⟩) hk0).trans (HK0.out.cell 0)
  have hwl : w.heap.size < wr.heap.size := Nat.lt_of_lt_of_le hk0 GW.size
  have HO := Lib.hid hown
  have HG := Lib.hid GW
  clear hown GW hk0
  by_cases hlt : k < ni
  ·have hkl : k < items.length := by have := Hn0.out; omega
   have hAt := (H.out.items.below HG.out).at_ k hkl
   dsimp only at hAt
   obtain ⟨b, off, rfl, hbb, c0, _, _, _, _, _, _⟩ := hAt
   have HT := Lib.hid (name_take It.name items k hkl)
   generalize items[k] = it at *
   clear hkl
   go_wp2_with (at_builtin; refine wpList_append_own_at _ rfl _ _ 123 rfl W0.heap.size 9 i0 (.string ⟨#[]⟩) 1 16 Tryz.underlying123 hinf hz0 hz1 hz2 rfl (by decide) _ k (strs ((items.map It.name).take k)) rfl (HO.out.alloc _) ⟨wr.heap.size, 0, none⟩ 1 1 [.string it.name] rfl rfl (new1 _ _ _) (one1s _) (by unfold maxLen; omega) (by omega) (by simp; omega) ?_)
   intro v' w1 hown' hgrow _ _
   have hb1 : Below W0.heap.size W0 w1 := (hb.alloc hsz _).grown hgrow (by simp; omega) (row_base HO.out)
   have HO1 := Lib.hid hown'
   clear hown' hgrow
   go_wp2
   go_roundw
   case rel => exact ⟨k + 1, by omega, by go_num, by rw [HT.out, strs_snoc]; exact HO1.out, hb1⟩
   case measure => simp [intOf]; omega
  ·obtain rfl : ni = k := by omega
   obtain ⟨A0, c0, hv, hrow⟩ := row_of_owns HO.out
   rw [List.take_of_length_le (by have := Hn0.out; simp; omega)] at hrow
   have cap0 : ni ≤ c0 := own_cap (by rw [← hv]; exact HO.out)
   rw [hv]
   clear hv HO
   obtain ⟨W1, hW1⟩ : ∃ W1, wr = W1 := ⟨_, rfl⟩
   rw [hW1] at hrow HG hb bx hwl hsz ⊢
   clear hW1
   have GB1 := HG
   have R0 := Lib.hid hrow
   clear hrow hb HG
   go_wp2_with fail
   go_loopw [4, 8] (fun v i wr => ∃ k : Nat, k ≤ nr ∧ i = .int .i64 k ∧ wr.ownsRow W1.heap.size 9 1 v k (strs ((rules.map RuM.name).take k)) ∧ Below W1.heap.size W1 wr) (fun _ i _ => nr - (intOf i).toNat)
   case atStart => exact ⟨0, Nat.zero_le _, rfl, World.ownsRow_nil _ _ _ _, Below.refl _ _⟩
   case round =>
    obtain ⟨k, hk, rfl, hown, hb⟩ := hrel
    have hsz := hb.size
    have GW := GB1.out.trans (hb.mono GB1.out.size)
    have hk0 := HK0.out.lt
    have bx : wr.cell? ⟨w.heap.size, 1, none⟩ = some (.slice Ar nr cr) := (GW.cell (p := ⟨w.heap.size, 1, none⟩) hk0).trans (HK0.out.cell 1)
    have hwl : w.heap.size < wr.heap.size := Nat.lt_of_lt_of_le hk0 GW.size
    have HO := Lib.hid hown
    have HG := Lib.hid GW
    clear hown GW hk0
    by_cases hlt : k < nr
    ·have hkl : k < rules.length := by have := Hn1.out; omega
     have hAt := (H.out.rules.below HG.out).at_ k hkl
     dsimp only at hAt
     obtain ⟨b, off, rfl, hbb, c0, _, _, _, _, _, _, _, _⟩ := hAt
     have HT := Lib.hid (name_take RuM.name rules k hkl)
     generalize rules[k] = it at *
     clear hkl
     go_wp2_with (at_builtin; refine wpList_append_own_at _ rfl _ _ 123 rfl W1.heap.size 9 i0 (.string ⟨#[]⟩) 1 16 Tryz.underlying123 hinf hz0 hz1 hz2 rfl (by decide) _ k (strs ((rules.map RuM.name).take k)) rfl (HO.out.alloc _) ⟨wr.heap.size, 0, none⟩ 1 1 [.string it.name] rfl rfl (new1 _ _ _) (one1s _) (by unfold maxLen; omega) (by omega) (by simp; omega) ?_)
     intro v' w1 hown' hgrow _ _
     have hb1 : Below W1.heap.size W1 w1 := (hb.alloc hsz _).grown hgrow (by simp; omega) (row_base HO.out)
     have HO1 := Lib.hid hown'
     clear hown' hgrow
     go_wp2
     go_roundw
     case rel => exact ⟨k + 1, by omega, by go_num, by rw [HT.out, strs_snoc]; exact HO1.out, hb1⟩
     case measure => simp [intOf]; omega
    ·obtain rfl : nr = k := by omega
     obtain ⟨A1, c1, hv, hrow⟩ := row_of_owns HO.out
     rw [List.take_of_length_le (by have := Hn1.out; simp; omega)] at hrow
     have cap1 : nr ≤ c1 := own_cap (by rw [← hv]; exact HO.out)
     rw [hv]
     clear hv HO
     obtain ⟨W2, hW2⟩ : ∃ W2, wr = W2 := ⟨_, rfl⟩
     rw [hW2] at hrow HG hb bx hwl hsz ⊢
     clear hW2
     have GB2 := HG
     have R1 := Lib.hid hrow
     have R0' := Lib.hid ((R0.out.below hb).more hb.size)
     clear R0
     have R0 := R0'
     clear R0'
     clear hrow hb HG
     go_wp2_with fail
     go_loopw [5, 9] (fun v i wr => ∃ k : Nat, k ≤ nt ∧ i = .int .i64 k ∧ wr.ownsRow W2.heap.size 9 1 v k (strs ((tables.map TbM.name).take k)) ∧ Below W2.heap.size W2 wr) (fun _ i _ => nt - (intOf i).toNat)
     case atStart => exact ⟨0, Nat.zero_le _, rfl, World.ownsRow_nil _ _ _ _, Below.refl _ _⟩
     case round =>
      obtain ⟨k, hk, rfl, hown, hb⟩ := hrel
      have hsz := hb.size
      have GW := GB2.out.trans (hb.mono GB2.out.size)
      have hk0 := HK0.out.lt
      have bx : wr.cell? ⟨w.heap.size, 2, none⟩ = some (.slice At nt ct) := (GW.cell (p := ⟨w.heap.size, 2, none⟩) hk0).trans (HK0.out.cell 2)
      have hwl : w.heap.size < wr.heap.size := Nat.lt_of_lt_of_le hk0 GW.size
      have HO := Lib.hid hown
      have HG := Lib.hid GW
      clear hown GW hk0
      by_cases hlt : k < nt
      ·have hkl : k < tables.length := by have := Hn2.out; omega
       have hAt := (H.out.tables.below HG.out).at_ k hkl
       dsimp only at hAt
       obtain ⟨b, off, rfl, hbb, c0, _⟩ := hAt
       have HT := Lib.hid (name_take TbM.name tables k hkl)
       generalize tables[k] = it at *
       clear hkl
       go_wp2_with (at_builtin; refine wpList_append_own_at _ rfl _ _ 123 rfl W2.heap.size 9 i0 (.string ⟨#[]⟩) 1 16 Tryz.underlying123 hinf hz0 hz1 hz2 rfl (by decide) _ k (strs ((tables.map TbM.name).take k)) rfl (HO.out.alloc _) ⟨wr.heap.size, 0, none⟩ 1 1 [.string it.name] rfl rfl (new1 _ _ _) (one1s _) (by unfold maxLen; omega) (by omega) (by simp; omega) ?_)
       intro v' w1 hown' hgrow _ _
       have hb1 : Below W2.heap.size W2 w1 := (hb.alloc hsz _).grown hgrow (by simp; omega) (row_base HO.out)
       have HO1 := Lib.hid hown'
       clear hown' hgrow
       go_wp2
       go_roundw
       case rel => exact ⟨k + 1, by omega, by go_num, by rw [HT.out, strs_snoc]; exact HO1.out, hb1⟩
       case measure => simp [intOf]; omega
      ·obtain rfl : nt = k := by omega
       obtain ⟨A2, c2, hv, hrow⟩ := row_of_owns HO.out
       rw [List.take_of_length_le (by have := Hn2.out; simp; omega)] at hrow
       have cap2 : nt ≤ c2 := own_cap (by rw [← hv]; exact HO.out)
       rw [hv]
       clear hv HO
       obtain ⟨W3, hW3⟩ : ∃ W3, wr = W3 := ⟨_, rfl⟩
       rw [hW3] at hrow HG hb bx hwl hsz ⊢
       clear hW3
       have GB3 := HG
       have R2 := Lib.hid hrow
       have R0' := Lib.hid ((R0.out.below hb).more hb.size)
       clear R0
       have R0 := R0'
       clear R0'
       have R1' := Lib.hid ((R1.out.below hb).more hb.size)
       clear R1
       have R1 := R1'
       clear R1'
       clear hrow hb HG
       go_wp2_with fail
       go_loopw [6, 10] (fun v i wr => ∃ k : Nat, k ≤ nx ∧ i = .int .i64 k ∧ wr.ownsRow W3.heap.size 9 1 v k (strs ((taxes.map TxM.name).take k)) ∧ Below W3.heap.size W3 wr) (fun _ i _ => nx - (intOf i).toNat)
       case atStart => exact ⟨0, Nat.zero_le _, rfl, World.ownsRow_nil _ _ _ _, Below.refl _ _⟩
       case round =>
        obtain ⟨k, hk, rfl, hown, hb⟩ := hrel
        have hsz := hb.size
        have GW := GB3.out.trans (hb.mono GB3.out.size)
        have hk0 := HK0.out.lt
        have bx : wr.cell? ⟨w.heap.size, 3, none⟩ = some (.slice Ax nx cx) := (GW.cell (p := ⟨w.heap.size, 3, none⟩) hk0).trans (HK0.out.cell 3)
        have hwl : w.heap.size < wr.heap.size := Nat.lt_of_lt_of_le hk0 GW.size
        have HO := Lib.hid hown
        have HG := Lib.hid GW
        clear hown GW hk0
        by_cases hlt : k < nx
        ·have hkl : k < taxes.length := by have := Hn3.out; omega
         have hAt := (H.out.taxes.below HG.out).at_ k hkl
         dsimp only at hAt
         obtain ⟨b, off, rfl, hbb, c0, _⟩ := hAt
         have HT := Lib.hid (name_take TxM.name taxes k hkl)
         generalize taxes[k] = it at *
         clear hkl
         go_wp2_with (at_builtin; refine wpList_append_own_at _ rfl _ _ 123 rfl W3.heap.size 9 i0 (.string ⟨#[]⟩) 1 16 Tryz.underlying123 hinf hz0 hz1 hz2 rfl (by decide) _ k (strs ((taxes.map TxM.name).take k)) rfl (HO.out.alloc _) ⟨wr.heap.size, 0, none⟩ 1 1 [.string it.name] rfl rfl (new1 _ _ _) (one1s _) (by unfold maxLen; omega) (by omega) (by simp; omega) ?_)
         intro v' w1 hown' hgrow _ _
         have hb1 : Below W3.heap.size W3 w1 := (hb.alloc hsz _).grown hgrow (by simp; omega) (row_base HO.out)
         have HO1 := Lib.hid hown'
         clear hown' hgrow
         go_wp2
         go_roundw
         case rel => exact ⟨k + 1, by omega, by go_num, by rw [HT.out, strs_snoc]; exact HO1.out, hb1⟩
         case measure => simp [intOf]; omega
        ·obtain rfl : nx = k := by omega
         obtain ⟨A3, c3, hv, hrow⟩ := row_of_owns HO.out
         rw [List.take_of_length_le (by have := Hn3.out; simp; omega)] at hrow
         have cap3 : nx ≤ c3 := own_cap (by rw [← hv]; exact HO.out)
         rw [hv]
         clear hv HO
         obtain ⟨W4, hW4⟩ : ∃ W4, wr = W4 := ⟨_, rfl⟩
         rw [hW4] at hrow HG hb bx hwl hsz ⊢
         clear hW4
         have GB4 := HG
         have R3 := Lib.hid hrow
         have R0' := Lib.hid ((R0.out.below hb).more hb.size)
         clear R0
         have R0 := R0'
         clear R0'
         have R1' := Lib.hid ((R1.out.below hb).more hb.size)
         clear R1
         have R1 := R1'
         clear R1'
         have R2' := Lib.hid ((R2.out.below hb).more hb.size)
         clear R2
         have R2 := R2'
         clear R2'
         clear hrow hb HG
         go_wp2_with fail
         clear bx
         go_ret
         have bb : Below W4.heap.size W4 (W4.alloc (.cells #[.slice A0 ni c0, .slice A1 nr c1, .slice A2 nt c2, .slice A3 nx c3] 123)) := (Below.refl _ _).alloc (Nat.le_refl _) _
         have e0 := Hn0.out
         have e1 := Hn1.out
         have e2 := Hn2.out
         have e3 := Hn3.out
         refine ⟨W4.heap.size, A0, c0, A1, c1, A2, c2, A3, c3, rfl, ?_, (R0.out.below bb).more bb.size, (R1.out.below bb).more bb.size, (R2.out.below bb).more bb.size, (R3.out.below bb).more bb.size, ?_, ?_, ?_, ?_, ?_⟩
         ·dsimp only
          rw [← e0, ← e1, ← e2, ← e3]
          exact Bk.new W4 123 _
         ·dsimp only; omega
         ·dsimp only; omega
         ·dsimp only; omega
         ·dsimp only; omega
         ·exact (HX.out.trans (GB4.out.mono HX.out.size)).trans (bb.mono (Nat.le_trans HX.out.size GB4.out.size))
/-- A rule's form, for n items. -/
def wfR (n : Nat) (r : RuM) : Bool := sortB n r.take && sortB n r.give && sortB n r.back && ruFormed r && contB r.take r.back
def wfT (n : Nat) (t : TbM) : Bool := decide (0 < t.rows.length) && (t.rows.all fun r => sortB n r.give)
def wfX (t : TxM) : Bool := formedB t.brs
def wfC (m : CatM) : Bool := m.items.all itFormedB && m.rules.all (wfR m.items.length) && m.tables.all (wfT m.items.length) && m.taxes.all wfX
/-- The function 'sorted' in its box gs, over the items at gc. -/
structure SortedAt (w : World) (gs : Nat) (ni : Nat) : Prop where
 ex : ∃ gc Ai ci, gs < w.heap.size ∧ gc < w.heap.size ∧ w.cell? ⟨gs, 0, none⟩ = some (.func (.func 138) #[] #[.pointer (some ⟨gc, 0, none⟩)]) ∧ w.cell? ⟨gc, 0, none⟩ = some (.slice Ai ni ci)
theorem SortedAt.below {w w' : World} {gs ni : Nat} (h : SortedAt w gs ni) (hb : Below w.heap.size w w') : SortedAt w' gs ni := by
 obtain ⟨gc, Ai, ci, h1, h2, h3, h4⟩ := h.ex
 exact ⟨gc, Ai, ci, Nat.lt_of_lt_of_le h1 hb.size, Nat.lt_of_lt_of_le h2 hb.size, (hb.cell (p := ⟨gs, 0, none⟩) h1).trans h3, (hb.cell (p := ⟨gc, 0, none⟩) h2).trans h4⟩
theorem ent138 : ∀ (args : Array Value) (W : World), (callFunc 138 args).run Tryz.prog W = .ok (.enter 138 args) W := enter_of Tryz.func138 (by kernel_rfl) rfl
theorem ent140 : ∀ (args : Array Value) (W : World), (callFunc 140 args).run Tryz.prog W = .ok (.enter 140 args) W := enter_of Tryz.func140 (by kernel_rfl) rfl
theorem ent143 : ∀ (args : Array Value) (W : World), (callFunc 143 args).run Tryz.prog W = .ok (.enter 143 args) W := enter_of Tryz.func143 (by kernel_rfl) rfl
theorem ent145 : ∀ (args : Array Value) (W : World), (callFunc 145 args).run Tryz.prog W = .ok (.enter 145 args) W := enter_of Tryz.func145 (by kernel_rfl) rfl
theorem ent146 : ∀ (args : Array Value) (W : World), (callFunc 146 args).run Tryz.prog W = .ok (.enter 146 args) W := enter_of Tryz.func146 (by kernel_rfl) rfl
set_option maxRecDepth 100000 in
set_option maxHeartbeats 2000000 in
theorem wf_ru (t : RuM) (w : World) (h : t.Ok w) {gs ni : Nat} (hs : SortedAt w gs ni) : Calls Tryz.prog 140 #[t.val, .pointer (some ⟨gs, 0, none⟩)] w fun e w' => e = .returned (.bool (wfR ni t)) ∧ Below w.heap.size w w' := by
 obtain ⟨gc, Ai, ci, g1, g2, g3, g4⟩ := hs.ex
 obtain ⟨nm, sp, le, ti, ch, of_, tk, gv, bk, ⟨At, nt, ct⟩, ⟨Ag, ng, cg⟩, ⟨Ab, nb, cb⟩⟩ := t
 have X0 : Below w.heap.size w (w.alloc (.cells #[.string nm, .bool sp, .int .i64 le, .int .i64 ti, .int .i64 ch, .int .i64 of_, .slice At nt ct, .slice Ag ng cg, .slice Ab nb cb] 103)) := (Below.refl _ _).alloc (Nat.le_refl _) _
 have G0 := Below.refl (w.alloc (.cells #[.string nm, .bool sp, .int .i64 le, .int .i64 ti, .int .i64 ch, .int .i64 of_, .slice At nt ct, .slice Ag ng cg, .slice Ab nb cb] 103)).heap.size (w.alloc (.cells #[.string nm, .bool sp, .int .i64 le, .int .i64 ti, .int .i64 ch, .int .i64 of_, .slice At nt ct, .slice Ag ng cg, .slice Ab nb cb] 103))
 have K0 : Hid (∀ W, Below (w.alloc (.cells #[.string nm, .bool sp, .int .i64 le, .int .i64 ti, .int .i64 ch, .int .i64 of_, .slice At nt ct, .slice Ag ng cg, .slice Ab nb cb] 103)).heap.size (w.alloc (.cells #[.string nm, .bool sp, .int .i64 le, .int .i64 ti, .int .i64 ch, .int .i64 of_, .slice At nt ct, .slice Ag ng cg, .slice Ab nb cb] 103)) W → Calls Tryz.prog 138 #[.slice At nt ct, .pointer (some ⟨gc, 0, none⟩)] W fun e w' => e = .returned (.bool (sortB ni tk)) ∧ Below W.heap.size W w') := fun W hW => sorted_any (s := ⟨At, nt, ct⟩) ((h.take.below X0).below hW) (Nat.lt_of_lt_of_le (Nat.lt_of_lt_of_le g2 X0.size) hW.size) ((hW.cell (p := ⟨gc, 0, none⟩) (Nat.lt_of_lt_of_le g2 X0.size)).trans ((X0.cell (p := ⟨gc, 0, none⟩) g2).trans g4))
 have K1 : Hid (∀ W, Below (w.alloc (.cells #[.string nm, .bool sp, .int .i64 le, .int .i64 ti, .int .i64 ch, .int .i64 of_, .slice At nt ct, .slice Ag ng cg, .slice Ab nb cb] 103)).heap.size (w.alloc (.cells #[.string nm, .bool sp, .int .i64 le, .int .i64 ti, .int .i64 ch, .int .i64 of_, .slice At nt ct, .slice Ag ng cg, .slice Ab nb cb] 103)) W → Calls Tryz.prog 138 #[.slice Ag ng cg, .pointer (some ⟨gc, 0, none⟩)] W fun e w' => e = .returned (.bool (sortB ni gv)) ∧ Below W.heap.size W w') := fun W hW => sorted_any (s := ⟨Ag, ng, cg⟩) ((h.give.below X0).below hW) (Nat.lt_of_lt_of_le (Nat.lt_of_lt_of_le g2 X0.size) hW.size) ((hW.cell (p := ⟨gc, 0, none⟩) (Nat.lt_of_lt_of_le g2 X0.size)).trans ((X0.cell (p := ⟨gc, 0, none⟩) g2).trans g4))
 have K2 : Hid (∀ W, Below (w.alloc (.cells #[.string nm, .bool sp, .int .i64 le, .int .i64 ti, .int .i64 ch, .int .i64 of_, .slice At nt ct, .slice Ag ng cg, .slice Ab nb cb] 103)).heap.size (w.alloc (.cells #[.string nm, .bool sp, .int .i64 le, .int .i64 ti, .int .i64 ch, .int .i64 of_, .slice At nt ct, .slice Ag ng cg, .slice Ab nb cb] 103)) W → Calls Tryz.prog 138 #[.slice Ab nb cb, .pointer (some ⟨gc, 0, none⟩)] W fun e w' => e = .returned (.bool (sortB ni bk)) ∧ Below W.heap.size W w') := fun W hW => sorted_any (s := ⟨Ab, nb, cb⟩) ((h.back.below X0).below hW) (Nat.lt_of_lt_of_le (Nat.lt_of_lt_of_le g2 X0.size) hW.size) ((hW.cell (p := ⟨gc, 0, none⟩) (Nat.lt_of_lt_of_le g2 X0.size)).trans ((X0.cell (p := ⟨gc, 0, none⟩) g2).trans g4))
 have K3 : Hid (∀ W, Below (w.alloc (.cells #[.string nm, .bool sp, .int .i64 le, .int .i64 ti, .int .i64 ch, .int .i64 of_, .slice At nt ct, .slice Ag ng cg, .slice Ab nb cb] 103)).heap.size (w.alloc (.cells #[.string nm, .bool sp, .int .i64 le, .int .i64 ti, .int .i64 ch, .int .i64 of_, .slice At nt ct, .slice Ag ng cg, .slice Ab nb cb] 103)) W → Calls Tryz.prog 141 #[.agg #[.string nm, .bool sp, .int .i64 le, .int .i64 ti, .int .i64 ch, .int .i64 of_, .slice At nt ct, .slice Ag ng cg, .slice Ab nb cb]] W fun e w' => e = .returned (.bool (ruFormed ⟨nm, sp, le, ti, ch, of_, tk, gv, bk, ⟨At, nt, ct⟩, ⟨Ag, ng, cg⟩, ⟨Ab, nb, cb⟩⟩)) ∧ Below W.heap.size W w') := fun W hW => formed_ru ⟨nm, sp, le, ti, ch, of_, tk, gv, bk, ⟨At, nt, ct⟩, ⟨Ag, ng, cg⟩, ⟨Ab, nb, cb⟩⟩ W ((h.keep (.below X0)).keep (.below hW))
 have K4 : Hid (∀ W, Below (w.alloc (.cells #[.string nm, .bool sp, .int .i64 le, .int .i64 ti, .int .i64 ch, .int .i64 of_, .slice At nt ct, .slice Ag ng cg, .slice Ab nb cb] 103)).heap.size (w.alloc (.cells #[.string nm, .bool sp, .int .i64 le, .int .i64 ti, .int .i64 ch, .int .i64 of_, .slice At nt ct, .slice Ag ng cg, .slice Ab nb cb] 103)) W → Calls Tryz.prog 142 #[.slice At nt ct, .slice Ab nb cb] W fun e w' => e = .returned (.bool (contB tk bk)) ∧ Below W.heap.size W w') := fun W hW => contains_any (st := ⟨At, nt, ct⟩) (sb := ⟨Ab, nb, cb⟩) ((h.take.below X0).below hW) ((h.back.below X0).below hW)
 have C : Hid (∀ W, Below (w.alloc (.cells #[.string nm, .bool sp, .int .i64 le, .int .i64 ti, .int .i64 ch, .int .i64 of_, .slice At nt ct, .slice Ag ng cg, .slice Ab nb cb] 103)).heap.size (w.alloc (.cells #[.string nm, .bool sp, .int .i64 le, .int .i64 ti, .int .i64 ch, .int .i64 of_, .slice At nt ct, .slice Ag ng cg, .slice Ab nb cb] 103)) W → W.cell? ⟨gs, 0, none⟩ = some (.func (.func 138) #[] #[.pointer (some ⟨gc, 0, none⟩)])) := fun W hW => (hW.cell (p := ⟨gs, 0, none⟩) (Nat.lt_of_lt_of_le g1 X0.size)).trans ((X0.cell (p := ⟨gs, 0, none⟩) g1).trans g3)
 have B0 : Hid (∀ W, Below (w.alloc (.cells #[.string nm, .bool sp, .int .i64 le, .int .i64 ti, .int .i64 ch, .int .i64 of_, .slice At nt ct, .slice Ag ng cg, .slice Ab nb cb] 103)).heap.size (w.alloc (.cells #[.string nm, .bool sp, .int .i64 le, .int .i64 ti, .int .i64 ch, .int .i64 of_, .slice At nt ct, .slice Ag ng cg, .slice Ab nb cb] 103)) W → W.cell? ⟨w.heap.size, 0, none⟩ = some (.string nm)) := fun W hW => (hW.cell (p := ⟨w.heap.size, 0, none⟩) (by simp)).trans ((Bk.new w 103 [.string nm, .bool sp, .int .i64 le, .int .i64 ti, .int .i64 ch, .int .i64 of_, .slice At nt ct, .slice Ag ng cg, .slice Ab nb cb]).cell 0)
 have B1 : Hid (∀ W, Below (w.alloc (.cells #[.string nm, .bool sp, .int .i64 le, .int .i64 ti, .int .i64 ch, .int .i64 of_, .slice At nt ct, .slice Ag ng cg, .slice Ab nb cb] 103)).heap.size (w.alloc (.cells #[.string nm, .bool sp, .int .i64 le, .int .i64 ti, .int .i64 ch, .int .i64 of_, .slice At nt ct, .slice Ag ng cg, .slice Ab nb cb] 103)) W → W.cell? ⟨w.heap.size, 1, none⟩ = some (.bool sp)) := fun W hW => (hW.cell (p := ⟨w.heap.size, 1, none⟩) (by simp)).trans ((Bk.new w 103 [.string nm, .bool sp, .int .i64 le, .int .i64 ti, .int .i64 ch, .int .i64 of_, .slice At nt ct, .slice Ag ng cg, .slice Ab nb cb]).cell 1)
 have B2 : Hid (∀ W, Below (w.alloc (.cells #[.string nm, .bool sp, .int .i64 le, .int .i64 ti, .int .i64 ch, .int .i64 of_, .slice At nt ct, .slice Ag ng cg, .slice Ab nb cb] 103)).heap.size (w.alloc (.cells #[.string nm, .bool sp, .int .i64 le, .int .i64 ti, .int .i64 ch, .int .i64 of_, .slice At nt ct, .slice Ag ng cg, .slice Ab nb cb] 103)) W → W.cell? ⟨w.heap.size, 2, none⟩ = some (.int .i64 le)) := fun W hW => (hW.cell (p := ⟨w.heap.size, 2, none⟩) (by simp)).trans ((Bk.new w 103 [.string nm, .bool sp, .int .i64 le, .int .i64 ti, .int .i64 ch, .int .i64 of_, .slice At nt ct, .slice Ag ng cg, .slice Ab nb cb]).cell 2)
 have B3 : Hid (∀ W, Below (w.alloc (.cells #[.string nm, .bool sp, .int .i64 le, .int .i64 ti, .int .i64 ch, .int .i64 of_, .slice At nt ct, .slice Ag ng cg, .slice Ab nb cb] 103)).heap.size (w.alloc (.cells #[.string nm, .bool sp, .int .i64 le, .int .i64 ti, .int .i64 ch, .int .i64 of_, .slice At nt ct, .slice Ag ng cg, .slice Ab nb cb] 103)) W → W.cell? ⟨w.heap.size, 3, none⟩ = some (.int .i64 ti)) := fun W hW => (hW.cell (p := ⟨w.heap.size, 3, none⟩) (by simp)).trans ((Bk.new w 103 [.string nm, .bool sp, .int .i64 le, .int .i64 ti, .int .i64 ch, .int .i64 of_, .slice At nt ct, .slice Ag ng cg, .slice Ab nb cb]).cell 3)
 have B4 : Hid (∀ W, Below (w.alloc (.cells #[.string nm, .bool sp, .int .i64 le, .int .i64 ti, .int .i64 ch, .int .i64 of_, .slice At nt ct, .slice Ag ng cg, .slice Ab nb cb] 103)).heap.size (w.alloc (.cells #[.string nm, .bool sp, .int .i64 le, .int .i64 ti, .int .i64 ch, .int .i64 of_, .slice At nt ct, .slice Ag ng cg, .slice Ab nb cb] 103)) W → W.cell? ⟨w.heap.size, 4, none⟩ = some (.int .i64 ch)) := fun W hW => (hW.cell (p := ⟨w.heap.size, 4, none⟩) (by simp)).trans ((Bk.new w 103 [.string nm, .bool sp, .int .i64 le, .int .i64 ti, .int .i64 ch, .int .i64 of_, .slice At nt ct, .slice Ag ng cg, .slice Ab nb cb]).cell 4)
 have B5 : Hid (∀ W, Below (w.alloc (.cells #[.string nm, .bool sp, .int .i64 le, .int .i64 ti, .int .i64 ch, .int .i64 of_, .slice At nt ct, .slice Ag ng cg, .slice Ab nb cb] 103)).heap.size (w.alloc (.cells #[.string nm, .bool sp, .int .i64 le, .int .i64 ti, .int .i64 ch, .int .i64 of_, .slice At nt ct, .slice Ag ng cg, .slice Ab nb cb] 103)) W → W.cell? ⟨w.heap.size, 5, none⟩ = some (.int .i64 of_)) := fun W hW => (hW.cell (p := ⟨w.heap.size, 5, none⟩) (by simp)).trans ((Bk.new w 103 [.string nm, .bool sp, .int .i64 le, .int .i64 ti, .int .i64 ch, .int .i64 of_, .slice At nt ct, .slice Ag ng cg, .slice Ab nb cb]).cell 5)
 have B6 : Hid (∀ W, Below (w.alloc (.cells #[.string nm, .bool sp, .int .i64 le, .int .i64 ti, .int .i64 ch, .int .i64 of_, .slice At nt ct, .slice Ag ng cg, .slice Ab nb cb] 103)).heap.size (w.alloc (.cells #[.string nm, .bool sp, .int .i64 le, .int .i64 ti, .int .i64 ch, .int .i64 of_, .slice At nt ct, .slice Ag ng cg, .slice Ab nb cb] 103)) W → W.cell? ⟨w.heap.size, 6, none⟩ = some (.slice At nt ct)) := fun W hW => (hW.cell (p := ⟨w.heap.size, 6, none⟩) (by simp)).trans ((Bk.new w 103 [.string nm, .bool sp, .int .i64 le, .int .i64 ti, .int .i64 ch, .int .i64 of_, .slice At nt ct, .slice Ag ng cg, .slice Ab nb cb]).cell 6)
 have B7 : Hid (∀ W, Below (w.alloc (.cells #[.string nm, .bool sp, .int .i64 le, .int .i64 ti, .int .i64 ch, .int .i64 of_, .slice At nt ct, .slice Ag ng cg, .slice Ab nb cb] 103)).heap.size (w.alloc (.cells #[.string nm, .bool sp, .int .i64 le, .int .i64 ti, .int .i64 ch, .int .i64 of_, .slice At nt ct, .slice Ag ng cg, .slice Ab nb cb] 103)) W → W.cell? ⟨w.heap.size, 7, none⟩ = some (.slice Ag ng cg)) := fun W hW => (hW.cell (p := ⟨w.heap.size, 7, none⟩) (by simp)).trans ((Bk.new w 103 [.string nm, .bool sp, .int .i64 le, .int .i64 ti, .int .i64 ch, .int .i64 of_, .slice At nt ct, .slice Ag ng cg, .slice Ab nb cb]).cell 7)
 have B8 : Hid (∀ W, Below (w.alloc (.cells #[.string nm, .bool sp, .int .i64 le, .int .i64 ti, .int .i64 ch, .int .i64 of_, .slice At nt ct, .slice Ag ng cg, .slice Ab nb cb] 103)).heap.size (w.alloc (.cells #[.string nm, .bool sp, .int .i64 le, .int .i64 ti, .int .i64 ch, .int .i64 of_, .slice At nt ct, .slice Ag ng cg, .slice Ab nb cb] 103)) W → W.cell? ⟨w.heap.size, 8, none⟩ = some (.slice Ab nb cb)) := fun W hW => (hW.cell (p := ⟨w.heap.size, 8, none⟩) (by simp)).trans ((Bk.new w 103 [.string nm, .bool sp, .int .i64 le, .int .i64 ti, .int .i64 ch, .int .i64 of_, .slice At nt ct, .slice Ag ng cg, .slice Ab nb cb]).cell 8)
 have HV : Hid (wfR ni ⟨nm, sp, le, ti, ch, of_, tk, gv, bk, ⟨At, nt, ct⟩, ⟨Ag, ng, cg⟩, ⟨Ab, nb, cb⟩⟩ = (sortB ni tk && sortB ni gv && sortB ni bk && ruFormed ⟨nm, sp, le, ti, ch, of_, tk, gv, bk, ⟨At, nt, ct⟩, ⟨Ag, ng, cg⟩, ⟨Ab, nb, cb⟩⟩ && contB tk bk)) := rfl
 generalize wfR ni ⟨nm, sp, le, ti, ch, of_, tk, gv, bk, ⟨At, nt, ct⟩, ⟨Ag, ng, cg⟩, ⟨Ab, nb, cb⟩⟩ = R at *
 generalize ruFormed ⟨nm, sp, le, ti, ch, of_, tk, gv, bk, ⟨At, nt, ct⟩, ⟨Ag, ng, cg⟩, ⟨Ab, nb, cb⟩⟩ = q3 at *
 generalize sortB ni tk = q0 at *
 generalize sortB ni gv = q1 at *
 generalize sortB ni bk = q2 at *
 generalize contB tk bk = q4 at *
 have ce := ent138
 clear h
 go_enter Tryz.func140, Tryz.ntmps140
 go_wp2_with fail
 (with_reducible refine (K0.out _ G0).mono ?_)
 rintro e w1 ⟨rfl, hb1⟩
 have G1 := G0.trans (hb1.mono G0.size)
 have X1 := X0.trans (hb1.mono X0.size)
 have z1 := G1.size
 simp only [World.size_alloc] at z1
 have s1_0 := C.out _ G1
 have s1_1 := B0.out _ G1
 have s1_2 := B1.out _ G1
 have s1_3 := B2.out _ G1
 have s1_4 := B3.out _ G1
 have s1_5 := B4.out _ G1
 have s1_6 := B5.out _ G1
 have s1_7 := B6.out _ G1
 have s1_8 := B7.out _ G1
 have s1_9 := B8.out _ G1
 clear hb1
 cases q0
 ·go_wp2
  go_ret
  exact ⟨by rw [HV.out]; rfl, X1⟩
 ·skip
  go_wp2_with fail
  (with_reducible refine (K1.out _ G1).mono ?_)
  rintro e w2 ⟨rfl, hb2⟩
  have G2 := G1.trans (hb2.mono G1.size)
  have X2 := X1.trans (hb2.mono X1.size)
  have z2 := G2.size
  simp only [World.size_alloc] at z2
  clear s1_0
  have s2_0 := C.out _ G2
  clear s1_1
  have s2_1 := B0.out _ G2
  clear s1_2
  have s2_2 := B1.out _ G2
  clear s1_3
  have s2_3 := B2.out _ G2
  clear s1_4
  have s2_4 := B3.out _ G2
  clear s1_5
  have s2_5 := B4.out _ G2
  clear s1_6
  have s2_6 := B5.out _ G2
  clear s1_7
  have s2_7 := B6.out _ G2
  clear s1_8
  have s2_8 := B7.out _ G2
  clear s1_9
  have s2_9 := B8.out _ G2
  clear hb2
  cases q1
  ·go_wp2
   go_ret
   exact ⟨by rw [HV.out]; rfl, X2⟩
  ·skip
   go_wp2_with fail
   (with_reducible refine (K2.out _ G2).mono ?_)
   rintro e w3 ⟨rfl, hb3⟩
   have G3 := G2.trans (hb3.mono G2.size)
   have X3 := X2.trans (hb3.mono X2.size)
   have z3 := G3.size
   simp only [World.size_alloc] at z3
   clear s2_0
   have s3_0 := C.out _ G3
   clear s2_1
   have s3_1 := B0.out _ G3
   clear s2_2
   have s3_2 := B1.out _ G3
   clear s2_3
   have s3_3 := B2.out _ G3
   clear s2_4
   have s3_4 := B3.out _ G3
   clear s2_5
   have s3_5 := B4.out _ G3
   clear s2_6
   have s3_6 := B5.out _ G3
   clear s2_7
   have s3_7 := B6.out _ G3
   clear s2_8
   have s3_8 := B7.out _ G3
   clear s2_9
   have s3_9 := B8.out _ G3
   clear hb3
   cases q2
   ·go_wp2
    go_ret
    exact ⟨by rw [HV.out]; rfl, X3⟩
   ·skip
    go_wp2_with fail
    (with_reducible refine (K3.out _ G3).mono ?_)
    rintro e w4 ⟨rfl, hb4⟩
    have G4 := G3.trans (hb4.mono G3.size)
    have X4 := X3.trans (hb4.mono X3.size)
    have z4 := G4.size
    simp only [World.size_alloc] at z4
    clear s3_0
    have s4_0 := C.out _ G4
    clear s3_1
    have s4_1 := B0.out _ G4
    clear s3_2
    have s4_2 := B1.out _ G4
    clear s3_3
    have s4_3 := B2.out _ G4
    clear s3_4
    have s4_4 := B3.out _ G4
    clear s3_5
    have s4_5 := B4.out _ G4
    clear s3_6
    have s4_6 := B5.out _ G4
    clear s3_7
    have s4_7 := B6.out _ G4
    clear s3_8
    have s4_8 := B7.out _ G4
    clear s3_9
    have s4_9 := B8.out _ G4
    clear hb4
    cases q3
    ·go_wp2
     go_ret
     exact ⟨by rw [HV.out]; rfl, X4⟩
    ·skip
     go_wp2_with fail
     (with_reducible refine (K4.out _ G4).mono ?_)
     rintro e w5 ⟨rfl, hb5⟩
     have G5 := G4.trans (hb5.mono G4.size)
     have X5 := X4.trans (hb5.mono X4.size)
     have z5 := G5.size
     simp only [World.size_alloc] at z5
     clear s4_0
     have s5_0 := C.out _ G5
     clear s4_1
     have s5_1 := B0.out _ G5
     clear s4_2
     have s5_2 := B1.out _ G5
     clear s4_3
     have s5_3 := B2.out _ G5
     clear s4_4
     have s5_4 := B3.out _ G5
     clear s4_5
     have s5_5 := B4.out _ G5
     clear s4_6
     have s5_6 := B5.out _ G5
     clear s4_7
     have s5_7 := B6.out _ G5
     clear s4_8
     have s5_8 := B7.out _ G5
     clear s4_9
     have s5_9 := B8.out _ G5
     clear hb5
     cases q4
     ·go_wp2
      go_ret
      exact ⟨by rw [HV.out]; rfl, X5⟩
     ·go_wp2
      go_ret
      exact ⟨by rw [HV.out]; rfl, X5⟩
set_option maxHeartbeats 1000000 in
theorem wf_rw (t : RwM) (w : World) (h : t.Ok w) {gs ni : Nat} (hs : SortedAt w gs ni) : Calls Tryz.prog 145 #[t.val, .pointer (some ⟨gs, 0, none⟩)] w fun e w' => e = .returned (.bool (sortB ni t.give)) ∧ Below w.heap.size w w' := by
 obtain ⟨gc, Ai, ci, g1, g2, g3, g4⟩ := hs.ex
 obtain ⟨x, gv, ⟨Ag, ng, cg⟩⟩ := t
 have X0 : Below w.heap.size w (w.alloc (.cells #[.int .i64 x, .slice Ag ng cg] 109)) := (Below.refl _ _).alloc (Nat.le_refl _) _
 have hp : PrV w 136 ⟨Ag, ng, cg⟩ gv := h
 have K0 := Lib.hid (sorted_any (hp.below X0) (Nat.lt_of_lt_of_le g2 X0.size) ((X0.cell (p := ⟨gc, 0, none⟩) g2).trans g4))
 dsimp only at K0 ⊢
 generalize sortB ni gv = q at *
 have ce := ent138
 clear h hp
 go_enter Tryz.func145, Tryz.ntmps145
 go_wp2_with fail
 refine K0.out.mono ?_
 rintro e w1 ⟨rfl, hb1⟩
 go_wp2
 go_ret
 exact ⟨rfl, X0.trans (hb1.mono (by simp))⟩
theorem ev145 {w : World} {s : Sl} {l : List RwM} (h : RowsV w s l) {gs ni : Nat} (hs : SortedAt w gs ni) : Calls Tryz.prog 144 #[.slice s.A s.n s.c, .func (.func 145) #[] #[.pointer (some ⟨gs, 0, none⟩)]] w fun e w' => e = .returned (.bool (l.all fun r => sortB ni r.give)) ∧ Below w.heap.size w w' := by
 refine every_rw 145 #[.pointer (some ⟨gs, 0, none⟩)] ent145 (fun r => sortB ni r.give) h ?_
 intro t U ht hU
 exact wf_rw t U (PrV.below (h.each t ht) hU) (hs.below hU)
set_option maxHeartbeats 1000000 in
theorem wf_tb (t : TbM) (w : World) (h : t.Ok w) {gs ni : Nat} (hs : SortedAt w gs ni) : Calls Tryz.prog 143 #[t.val, .pointer (some ⟨gs, 0, none⟩)] w fun e w' => e = .returned (.bool (wfT ni t)) ∧ Below w.heap.size w w' := by
 have hl := h.rows.len
 have hsm := h.rows.small
 obtain ⟨nm, rows, ⟨A, n, c⟩⟩ := t
 dsimp only at hl hsm
 have X0 : Below w.heap.size w (w.alloc (.cells #[.string nm, .slice A n c] 107)) := (Below.refl _ _).alloc (Nat.le_refl _) _
 have HV : Hid (wfT ni ⟨nm, rows, ⟨A, n, c⟩⟩ = (decide (0 < n) && (rows.all fun r => sortB ni r.give))) := by show wfT ni _ = _; rw [hl]; rfl
 have K0 := Lib.hid (ev145 (h.rows.below X0) (hs.below X0))
 dsimp only at K0
 generalize wfT ni ⟨nm, rows, ⟨A, n, c⟩⟩ = R at *
 generalize (rows.all fun r => sortB ni r.give) = q at *
 clear h hl hs
 by_cases a : 0 < n
 ·have a1 : decide (0 < n) = true := decide_eq_true a
  have a2 : decide ((0 : Int) < (n : Int)) = true := decide_eq_true (by omega)
  rw [a1] at HV
  go_enter Tryz.func143, Tryz.ntmps143
  go_wp2_with fail
  refine K0.out.mono ?_
  rintro e w1 ⟨rfl, hb1⟩
  go_wp2
  go_ret
  exact ⟨by rw [HV.out]; rfl, X0.trans (hb1.mono (by simp))⟩
 ·have a1 : decide (0 < n) = false := decide_eq_false a
  have a2 : decide ((0 : Int) < (n : Int)) = false := decide_eq_false (by omega)
  rw [a1] at HV
  go_enter Tryz.func143, Tryz.ntmps143
  go_wp2
  go_ret
  exact ⟨by rw [HV.out]; rfl, X0⟩
theorem wf_tx (t : TxM) (w : World) (h : t.Ok w) : Calls Tryz.prog 146 #[t.val] w fun e w' => e = .returned (.bool (wfX t)) ∧ Below w.heap.size w w' :=
 tax_formed t.name t.sb.A t.sb.n t.sb.c t.brs w h.brs.row.row h.brs.len (by have := h.brs.small; omega)
theorem ev140 {w : World} {s : Sl} {l : List RuM} (h : RulesV w s l) {gs ni : Nat} (hs : SortedAt w gs ni) : Calls Tryz.prog 118 #[.slice s.A s.n s.c, .func (.func 140) #[] #[.pointer (some ⟨gs, 0, none⟩)]] w fun e w' => e = .returned (.bool (l.all (wfR ni))) ∧ Below w.heap.size w w' := by
 refine every_ru 140 #[.pointer (some ⟨gs, 0, none⟩)] ent140 (wfR ni) h ?_
 intro t U ht hU
 exact wf_ru t U ((h.each t ht).keep (.below hU)) (hs.below hU)
theorem ev143 {w : World} {s : Sl} {l : List TbM} (h : TablesV w s l) {gs ni : Nat} (hs : SortedAt w gs ni) : Calls Tryz.prog 120 #[.slice s.A s.n s.c, .func (.func 143) #[] #[.pointer (some ⟨gs, 0, none⟩)]] w fun e w' => e = .returned (.bool (l.all (wfT ni))) ∧ Below w.heap.size w w' := by
 refine every_tb 143 #[.pointer (some ⟨gs, 0, none⟩)] ent143 (wfT ni) h ?_
 intro t U ht hU
 exact wf_tb t U ⟨(h.each t ht).rows.below hU, (h.each t ht).name⟩ (hs.below hU)
theorem ev146 {w : World} {s : Sl} {l : List TxM} (h : TaxesV w s l) : Calls Tryz.prog 122 #[.slice s.A s.n s.c, .func (.func 146) #[] #[]] w fun e w' => e = .returned (.bool (l.all wfX)) ∧ Below w.heap.size w w' := by
 refine every_tx 146 #[] ent146 wfX h ?_
 intro t U ht hU
 rw [app_nil]
 exact wf_tx t U ⟨(h.each t ht).brs.below hU, (h.each t ht).name⟩
set_option maxRecDepth 100000 in
set_option maxHeartbeats 2000000 in
theorem wfC_any {w : World} {m : CatM} (h : m.Ok w) : Calls Tryz.prog 103 #[m.val] w fun e w' => e = .returned (.bool (wfC m)) ∧ Below w.heap.size w w' := by
 have hl := h.items.len
 obtain ⟨items, rules, tables, taxes, ⟨Ai, ni, ci⟩, ⟨Ar, nr, cr⟩, ⟨At, nt, ct⟩, ⟨Ax, nx, cx⟩⟩ := m
 dsimp only at hl
 have X0 : Below w.heap.size w ((w.alloc (.cells #[.slice Ai ni ci, .slice Ar nr cr, .slice At nt ct, .slice Ax nx cx] 28)).alloc (.cells #[.func (.func 138) #[] #[.pointer (some ⟨w.heap.size, 0, none⟩)]] 197)) := ((Below.refl _ _).alloc (Nat.le_refl _) _).alloc (by simp) _
 have G0 := Below.refl ((w.alloc (.cells #[.slice Ai ni ci, .slice Ar nr cr, .slice At nt ct, .slice Ax nx cx] 28)).alloc (.cells #[.func (.func 138) #[] #[.pointer (some ⟨w.heap.size, 0, none⟩)]] 197)).heap.size ((w.alloc (.cells #[.slice Ai ni ci, .slice Ar nr cr, .slice At nt ct, .slice Ax nx cx] 28)).alloc (.cells #[.func (.func 138) #[] #[.pointer (some ⟨w.heap.size, 0, none⟩)]] 197))
 have HS : SortedAt ((w.alloc (.cells #[.slice Ai ni ci, .slice Ar nr cr, .slice At nt ct, .slice Ax nx cx] 28)).alloc (.cells #[.func (.func 138) #[] #[.pointer (some ⟨w.heap.size, 0, none⟩)]] 197)) (w.heap.size + 1) ni := by
  refine ⟨w.heap.size, Ai, ci, by simp, by simp; omega, ?_, ((Bk.new w 28 [.slice Ai ni ci, .slice Ar nr cr, .slice At nt ct, .slice Ax nx cx]).alloc _).cell 0⟩
  have := (Bk.new (w.alloc (.cells #[.slice Ai ni ci, .slice Ar nr cr, .slice At nt ct, .slice Ax nx cx] 28)) 197 [.func (.func 138) #[] #[.pointer (some ⟨w.heap.size, 0, none⟩)]]).cell 0
  rw [World.size_alloc] at this
  exact this
 have K0 : Hid (∀ W, Below ((w.alloc (.cells #[.slice Ai ni ci, .slice Ar nr cr, .slice At nt ct, .slice Ax nx cx] 28)).alloc (.cells #[.func (.func 138) #[] #[.pointer (some ⟨w.heap.size, 0, none⟩)]] 197)).heap.size ((w.alloc (.cells #[.slice Ai ni ci, .slice Ar nr cr, .slice At nt ct, .slice Ax nx cx] 28)).alloc (.cells #[.func (.func 138) #[] #[.pointer (some ⟨w.heap.size, 0, none⟩)]] 197)) W → Calls Tryz.prog 124 #[.slice Ai ni ci, .func (.func 139) #[] #[]] W fun e w' => e = .returned (.bool (items.all itFormedB)) ∧ Below W.heap.size W w') := fun W hW => ev139 (s := ⟨Ai, ni, ci⟩) ((h.items.below X0).below hW)
 have K1 : Hid (∀ W, Below ((w.alloc (.cells #[.slice Ai ni ci, .slice Ar nr cr, .slice At nt ct, .slice Ax nx cx] 28)).alloc (.cells #[.func (.func 138) #[] #[.pointer (some ⟨w.heap.size, 0, none⟩)]] 197)).heap.size ((w.alloc (.cells #[.slice Ai ni ci, .slice Ar nr cr, .slice At nt ct, .slice Ax nx cx] 28)).alloc (.cells #[.func (.func 138) #[] #[.pointer (some ⟨w.heap.size, 0, none⟩)]] 197)) W → Calls Tryz.prog 118 #[.slice Ar nr cr, .func (.func 140) #[] #[.pointer (some ⟨w.heap.size + 1, 0, none⟩)]] W fun e w' => e = .returned (.bool (rules.all (wfR ni))) ∧ Below W.heap.size W w') := fun W hW => ev140 (s := ⟨Ar, nr, cr⟩) ((h.rules.below X0).below hW) (HS.below hW)
 have K2 : Hid (∀ W, Below ((w.alloc (.cells #[.slice Ai ni ci, .slice Ar nr cr, .slice At nt ct, .slice Ax nx cx] 28)).alloc (.cells #[.func (.func 138) #[] #[.pointer (some ⟨w.heap.size, 0, none⟩)]] 197)).heap.size ((w.alloc (.cells #[.slice Ai ni ci, .slice Ar nr cr, .slice At nt ct, .slice Ax nx cx] 28)).alloc (.cells #[.func (.func 138) #[] #[.pointer (some ⟨w.heap.size, 0, none⟩)]] 197)) W → Calls Tryz.prog 120 #[.slice At nt ct, .func (.func 143) #[] #[.pointer (some ⟨w.heap.size + 1, 0, none⟩)]] W fun e w' => e = .returned (.bool (tables.all (wfT ni))) ∧ Below W.heap.size W w') := fun W hW => ev143 (s := ⟨At, nt, ct⟩) ((h.tables.below X0).below hW) (HS.below hW)
 have K3 : Hid (∀ W, Below ((w.alloc (.cells #[.slice Ai ni ci, .slice Ar nr cr, .slice At nt ct, .slice Ax nx cx] 28)).alloc (.cells #[.func (.func 138) #[] #[.pointer (some ⟨w.heap.size, 0, none⟩)]] 197)).heap.size ((w.alloc (.cells #[.slice Ai ni ci, .slice Ar nr cr, .slice At nt ct, .slice Ax nx cx] 28)).alloc (.cells #[.func (.func 138) #[] #[.pointer (some ⟨w.heap.size, 0, none⟩)]] 197)) W → Calls Tryz.prog 122 #[.slice Ax nx cx, .func (.func 146) #[] #[]] W fun e w' => e = .returned (.bool (taxes.all wfX)) ∧ Below W.heap.size W w') := fun W hW => ev146 (s := ⟨Ax, nx, cx⟩) ((h.taxes.below X0).below hW)
 have B0 : Hid (∀ W, Below ((w.alloc (.cells #[.slice Ai ni ci, .slice Ar nr cr, .slice At nt ct, .slice Ax nx cx] 28)).alloc (.cells #[.func (.func 138) #[] #[.pointer (some ⟨w.heap.size, 0, none⟩)]] 197)).heap.size ((w.alloc (.cells #[.slice Ai ni ci, .slice Ar nr cr, .slice At nt ct, .slice Ax nx cx] 28)).alloc (.cells #[.func (.func 138) #[] #[.pointer (some ⟨w.heap.size, 0, none⟩)]] 197)) W → W.cell? ⟨w.heap.size, 0, none⟩ = some (.slice Ai ni ci)) := fun W hW => (hW.cell (p := ⟨w.heap.size, 0, none⟩) (by simp; omega)).trans (((Bk.new w 28 [.slice Ai ni ci, .slice Ar nr cr, .slice At nt ct, .slice Ax nx cx]).alloc _).cell 0)
 have B1 : Hid (∀ W, Below ((w.alloc (.cells #[.slice Ai ni ci, .slice Ar nr cr, .slice At nt ct, .slice Ax nx cx] 28)).alloc (.cells #[.func (.func 138) #[] #[.pointer (some ⟨w.heap.size, 0, none⟩)]] 197)).heap.size ((w.alloc (.cells #[.slice Ai ni ci, .slice Ar nr cr, .slice At nt ct, .slice Ax nx cx] 28)).alloc (.cells #[.func (.func 138) #[] #[.pointer (some ⟨w.heap.size, 0, none⟩)]] 197)) W → W.cell? ⟨w.heap.size, 1, none⟩ = some (.slice Ar nr cr)) := fun W hW => (hW.cell (p := ⟨w.heap.size, 1, none⟩) (by simp; omega)).trans (((Bk.new w 28 [.slice Ai ni ci, .slice Ar nr cr, .slice At nt ct, .slice Ax nx cx]).alloc _).cell 1)
 have B2 : Hid (∀ W, Below ((w.alloc (.cells #[.slice Ai ni ci, .slice Ar nr cr, .slice At nt ct, .slice Ax nx cx] 28)).alloc (.cells #[.func (.func 138) #[] #[.pointer (some ⟨w.heap.size, 0, none⟩)]] 197)).heap.size ((w.alloc (.cells #[.slice Ai ni ci, .slice Ar nr cr, .slice At nt ct, .slice Ax nx cx] 28)).alloc (.cells #[.func (.func 138) #[] #[.pointer (some ⟨w.heap.size, 0, none⟩)]] 197)) W → W.cell? ⟨w.heap.size, 2, none⟩ = some (.slice At nt ct)) := fun W hW => (hW.cell (p := ⟨w.heap.size, 2, none⟩) (by simp; omega)).trans (((Bk.new w 28 [.slice Ai ni ci, .slice Ar nr cr, .slice At nt ct, .slice Ax nx cx]).alloc _).cell 2)
 have B3 : Hid (∀ W, Below ((w.alloc (.cells #[.slice Ai ni ci, .slice Ar nr cr, .slice At nt ct, .slice Ax nx cx] 28)).alloc (.cells #[.func (.func 138) #[] #[.pointer (some ⟨w.heap.size, 0, none⟩)]] 197)).heap.size ((w.alloc (.cells #[.slice Ai ni ci, .slice Ar nr cr, .slice At nt ct, .slice Ax nx cx] 28)).alloc (.cells #[.func (.func 138) #[] #[.pointer (some ⟨w.heap.size, 0, none⟩)]] 197)) W → W.cell? ⟨w.heap.size, 3, none⟩ = some (.slice Ax nx cx)) := fun W hW => (hW.cell (p := ⟨w.heap.size, 3, none⟩) (by simp; omega)).trans (((Bk.new w 28 [.slice Ai ni ci, .slice Ar nr cr, .slice At nt ct, .slice Ax nx cx]).alloc _).cell 3)
 have HV : Hid (wfC ⟨items, rules, tables, taxes, ⟨Ai, ni, ci⟩, ⟨Ar, nr, cr⟩, ⟨At, nt, ct⟩, ⟨Ax, nx, cx⟩⟩ = (items.all itFormedB && rules.all (wfR ni) && tables.all (wfT ni) && taxes.all wfX)) := by show wfC _ = _; rw [hl]; rfl
 generalize wfC ⟨items, rules, tables, taxes, ⟨Ai, ni, ci⟩, ⟨Ar, nr, cr⟩, ⟨At, nt, ct⟩, ⟨Ax, nx, cx⟩⟩ = R at *
 generalize items.all itFormedB = q0 at *
 generalize rules.all (wfR ni) = q1 at *
 generalize tables.all (wfT ni) = q2 at *
 generalize taxes.all wfX = q3 at *
 clear h HS hl
 go_enter Tryz.func103, Tryz.ntmps103
 go_wp2_with fail
 (with_reducible refine (K0.out _ G0).mono ?_)
 rintro e w1 ⟨rfl, hb1⟩
 have G1 := G0.trans (hb1.mono G0.size)
 have X1 := X0.trans (hb1.mono X0.size)
 have z1 := G1.size
 simp only [World.size_alloc] at z1
 have s1_0 := B0.out _ G1
 have s1_1 := B1.out _ G1
 have s1_2 := B2.out _ G1
 have s1_3 := B3.out _ G1
 clear hb1
 cases q0
 ·go_wp2
  go_ret
  exact ⟨by rw [HV.out]; rfl, X1⟩
 ·skip
  go_wp2_with fail
  (with_reducible refine (K1.out _ G1).mono ?_)
  rintro e w2 ⟨rfl, hb2⟩
  have G2 := G1.trans (hb2.mono G1.size)
  have X2 := X1.trans (hb2.mono X1.size)
  have z2 := G2.size
  simp only [World.size_alloc] at z2
  clear s1_0
  have s2_0 := B0.out _ G2
  clear s1_1
  have s2_1 := B1.out _ G2
  clear s1_2
  have s2_2 := B2.out _ G2
  clear s1_3
  have s2_3 := B3.out _ G2
  clear hb2
  cases q1
  ·go_wp2
   go_ret
   exact ⟨by rw [HV.out]; rfl, X2⟩
  ·skip
   go_wp2_with fail
   (with_reducible refine (K2.out _ G2).mono ?_)
   rintro e w3 ⟨rfl, hb3⟩
   have G3 := G2.trans (hb3.mono G2.size)
   have X3 := X2.trans (hb3.mono X2.size)
   have z3 := G3.size
   simp only [World.size_alloc] at z3
   clear s2_0
   have s3_0 := B0.out _ G3
   clear s2_1
   have s3_1 := B1.out _ G3
   clear s2_2
   have s3_2 := B2.out _ G3
   clear s2_3
   have s3_3 := B3.out _ G3
   clear hb3
   cases q2
   ·go_wp2
    go_ret
    exact ⟨by rw [HV.out]; rfl, X3⟩
   ·skip
    go_wp2_with fail
    (with_reducible refine (K3.out _ G3).mono ?_)
    rintro e w4 ⟨rfl, hb4⟩
    have G4 := G3.trans (hb4.mono G3.size)
    have X4 := X3.trans (hb4.mono X3.size)
    have z4 := G4.size
    simp only [World.size_alloc] at z4
    clear s3_0
    have s4_0 := B0.out _ G4
    clear s3_1
    have s4_1 := B1.out _ G4
    clear s3_2
    have s4_2 := B2.out _ G4
    clear s3_3
    have s4_3 := B3.out _ G4
    clear hb4
    cases q3
    ·go_wp2
     go_ret
     exact ⟨by rw [HV.out]; rfl, X4⟩
    ·go_wp2
     go_ret
     exact ⟨by rw [HV.out]; rfl, X4⟩
end Go.Proofs.YthjfdfdgbpbanaaGreatDoor
