/- The contract of tos: a copy of counterparts. -/
import Derived.Test.YthjfdfdgbpbanaaGreatDoorP1
import Derived.Maps.AppendAt
import Derived.StillTailTactics
import Derived.Deep.QuietTactic
import Derived.BigQuiet
import Derived.Outline
import Derived.Deep.RegionHeld3
import Derived.Deep.AppendLies
namespace Go.Proofs.YthjfdfdgbpbanaaGreatDoor
open Go.RowKit

theorem info64 : (Tryz.prog.info? 64).map (fun i => (i.zero, i.size, i.bytes)) = some (some (.agg #[.int .i64 0, .int .i64 0, .int .i64 0]), 3, 24) := by kernel_rfl
theorem info68 : (Tryz.prog.info? 68).map (fun i => (i.zero, i.size, i.bytes)) = some (some (.agg #[.int .i64 0, .int .i64 0, .int .i64 0]), 3, 24) := by kernel_rfl
theorem info3 : (Tryz.prog.info? 3).map (fun i => (i.zero, i.size, i.bytes)) = some (some (.int .i64 0), 1, 8) := by kernel_rfl

/-- A slice of counterparts (or of its model). -/
structure TosV (w : World) (A : Option Addr) (n : Nat) (ts : List Tr) : Prop where
  row : Row w w.heap.size A (tcells ts)
  len : n = ts.length
theorem TosV.below {w w' : World} {A : Option Addr} {n : Nat} {ts : List Tr} (h : TosV w A n ts) (hb : Below w.heap.size w w') : TosV w' A n ts := ⟨(h.row.below hb).more hb.size, h.len⟩
theorem row_of_owns {W : World} {base : Nat} {e : TypeId} {size n : Nat} {v : Value} {xs : List Value} (h : W.ownsRow base e size v n xs) : ∃ A c, v = .slice A n c ∧ Row W W.heap.size A xs := by
  obtain ⟨hl, h⟩ := h
  rcases h with ⟨rfl, rfl⟩ | ⟨g, cap, cur, rfl, hb, hh, hn, hm, hs, ht⟩
  · exact ⟨none, 0, rfl, .inl (List.eq_nil_of_length_eq_zero (by simpa using hl))⟩
  · refine ⟨_, _, rfl, .inr ⟨g, 0, rfl, (Array.getElem?_eq_some_iff.1 hh).1, fun j u hu => ?_⟩⟩
    have hj : j < xs.length := (List.getElem?_eq_some_iff.1 hu).1
    rw [← ht] at hu
    have hu2 : cur.toList[j]? = some u := by
      rw [List.getElem?_take] at hu
      split at hu
      · exact hu
      · cases hu
    simp only [World.cell?, hh, Nat.zero_add]
    simpa using hu2
/-- What a function leaves that makes a row. -/
def RowPost (w : World) (E size n : Nat) (xs : List Value) (e : Ending) (w' : World) : Prop :=
  ∃ v, e = .returned v ∧ w'.ownsRow w.heap.size E size v n xs ∧ Below w.heap.size w w'

theorem take_tr (ts : List Tr) (k : Nat) (h : k < ts.length) : ts.take (k + 1) = ts.take k ++ [(itemAt ts k, numAt ts k, denAt ts k)] := by
  rw [List.take_succ_eq_append_getElem h]
  simp only [itemAt, numAt, denAt, List.getElem?_eq_getElem h, Option.getD_some]

theorem row_base {W : World} {base : Nat} {e : TypeId} {size n : Nat} {v : Value} {xs : List Value} (h : W.ownsRow base e size v n xs) : ∀ g, v.ownBlock = some g → base ≤ g := by
  intro g he
  rcases h.2 with ⟨rfl, _⟩ | ⟨g', cap, cur, rfl, hb, _⟩
  · simp [Value.ownBlock] at he
  · have : g' = g := by simpa [Value.ownBlock] using he
    omega
theorem new3 (w : World) (t : TypeId) (a b c : Value) : ∀ j u, ([a, b, c] : List Value)[j]? = some u → (w.alloc (.cells #[a, b, c] t)).cell? ((⟨w.heap.size, 0, none⟩ : Addr).add j) = some u := by
  intro j u hj
  match j, hj with
  | 0, hj => simp at hj; subst hj; simp [Addr.add]
  | 1, hj => simp at hj; subst hj; simp [Addr.add]
  | 2, hj => simp at hj; subst hj; simp [Addr.add]
  | j + 3, hj => simp at hj
theorem one3 (x y z : Int) : ∀ u ∈ ([.int .i64 x, .int .i64 y, .int .i64 z] : List Value), u.oneCell' = true := by
  intro u hu
  simp only [List.mem_cons, List.not_mem_nil, or_false] at hu
  rcases hu with rfl | rfl | rfl <;> rfl

set_option maxRecDepth 100000 in
set_option maxHeartbeats 1000000 in
theorem tos_any {w : World} {A : Option Addr} {n : Nat} (c : Nat) {ts : List Tr} (h : TosV w A n ts) (hs : n ≤ 1000000) :
    Calls Tryz.prog 25 #[.slice A n c] w (RowPost w 64 3 n (tcells ts)) := by
  obtain ⟨i0, hi, hz0, hz1, hz2⟩ := info_parts info64
  have Hn := Lib.hid h.len
  have H := Lib.hid h
  clear h
  go_enter Tryz.func25, Tryz.ntmps25
  go_wp2_with fail
  go_loopw [3, 4] (fun v i wr => ∃ k : Nat, k ≤ n ∧ i = .int .i64 k ∧ wr.ownsRow w.heap.size 64 3 v k (tcells (ts.take k)) ∧ Below w.heap.size w wr) (fun _ i _ => n - (intOf i).toNat)
  case atStart => exact ⟨0, Nat.zero_le _, rfl, World.ownsRow_nil _ _ _ _, Below.refl _ _⟩
  case round =>
    obtain ⟨k, hk, rfl, hown, hb⟩ := hrel
    by_cases hlt : k < n
    · have hkl : k < ts.length := by have := Hn.out; omega
      obtain ⟨b, off, rfl, hbb, hc⟩ := H.out.row.at_ 0 (by rw [tcells_length]; omega)
      obtain ⟨t1, t2, t3⟩ := tcells_at ts k hkl
      have c1 := hc _ _ t1
      have c2 := hc _ _ t2
      have c3 := hc _ _ t3
      simp only [← Nat.add_assoc] at c2 c3
      have HC : Hid (∀ U : World, Below w.heap.size w U → U.cell? ⟨b, off + k * 3, none⟩ = some (.int .i64 (itemAt ts k)) ∧ U.cell? ⟨b, off + k * 3 + 1, none⟩ = some (.int .i64 (numAt ts k)) ∧ U.cell? ⟨b, off + k * 3 + 2, none⟩ = some (.int .i64 (denAt ts k))) :=
        fun U hU => ⟨(hU.cell (p := ⟨b, _, none⟩) hbb).trans c1, (hU.cell (p := ⟨b, _, none⟩) hbb).trans c2, (hU.cell (p := ⟨b, _, none⟩) hbb).trans c3⟩
      have HT := Lib.hid (take_tr ts k hkl)
      have hsz := hb.size
      have OWN : Hid ((wr.drew.alloc (.cells #[.int .i64 (itemAt ts k), .int .i64 (numAt ts k), .int .i64 (denAt ts k)] 64)).ownsRow w.heap.size 64 3 u3 k (tcells (ts.take k))) := (hown.drew).alloc _
      clear t1 t2 t3 hc hown hkl c1 c2 c3
      generalize itemAt ts k = x at *
      generalize numAt ts k = y at *
      generalize denAt ts k = z at *
      have C1 := Lib.hid (new3 wr.drew 64 (.int .i64 x) (.int .i64 y) (.int .i64 z))
      have k0 : (0 : Int) ≤ (k : Int) := by omega
      have k1 : (k : Int) < (n : Int) := by omega
      have B1 : Below w.heap.size w (wr.drew.alloc (.cells #[.int .i64 x, .int .i64 y, .int .i64 z] 64)) := hb.drew.alloc hsz _
      have C3 : Hid (k + 1 ≤ maxLen) := by show k + 1 ≤ maxLen; unfold maxLen; omega
      have C5 : Hid (w.heap.size ≤ (wr.drew.alloc (.cells #[.int .i64 x, .int .i64 y, .int .i64 z] 64)).heap.size) := by show w.heap.size ≤ _; simp; omega
      have C6 : Hid ((wr.drew.alloc (.cells #[.int .i64 x, .int .i64 y, .int .i64 z] 64)).heap.size = wr.heap.size + 1) := by show _ = _; simp
      go_wp2_with fail
      go_region_held3 (fun U => U.cell? ⟨b, off + k * 3, none⟩ = some (.int .i64 x) ∧ U.cell? ⟨b, off + k * 3 + 1, none⟩ = some (.int .i64 y) ∧ U.cell? ⟨b, off + k * 3 + 2, none⟩ = some (.int .i64 z)) (first | exact HC.out _ hb.drew | exact HC.out _ B1 | exact HC.out _ BN)
        ((refine step_append_lies _ (by rfl) (.tmp 11) (.tmp 28) 33 (by rfl) w.heap.size 64 i0 (.agg #[.int .i64 0, .int .i64 0, .int .i64 0]) 3 24 Tryz.underlying33 hi hz0 hz1 hz2 rfl (by decide) _ k (tcells (ts.take k)) (by rfl) OWN.out ⟨wr.heap.size, 0, none⟩ 1 1 [.int .i64 x, .int .i64 y, .int .i64 z] (by rfl) rfl C1.out (one3 x y z) (by omega) C3.out (by omega) C5.out (wr.heap.size + 1) C6.out ?_; intro g' cap w3 hown hgr hat hlt3; have BN := B1.grown hgr C5.out (row_base OWN.out); have HO1 := Lib.hid hown; clear hown hgr hat))
      go_wp2
      go_roundw
      case rel => exact ⟨k + 1, by omega, by go_num, by rw [HT.out, tcells_snoc]; exact HO1.out, BN⟩
      case measure => simp [intOf]; omega
    · obtain rfl : k = n := by omega
      rw [List.take_of_length_le (by have := Hn.out; omega)] at hown
      have HO := Lib.hid hown
      clear hown
      go_wp2
      go_ret
      exact ⟨_, rfl, HO.out, hb⟩

end Go.Proofs.YthjfdfdgbpbanaaGreatDoor
