/- The contracts of Missing, Last, Start, and of Add where an item without counterpart is held. -/
import Derived.Test.YthjfdfdgbpbanaaGreatDoorA27
import Derived.Test.YthjfdfdgbpbanaaGreatDoorA23
namespace Go.Proofs.YthjfdfdgbpbanaaGreatDoor
open Go.RowKit

def missB (ts : List Tr) (hs : List Int) (i : Nat) : Bool := decide (0 < wAt hs i) && (decide (ts.length ≤ i) || decide (itemAt ts i < 0))
def missTo (ts : List Tr) (hs : List Int) : Nat → Option Nat
  | 0 => none
  | k + 1 => match missTo ts hs k with | some i => some i | none => if missB ts hs k = true then some k else none
theorem missTo_stays {ts : List Tr} {hs : List Int} {k i : Nat} (h : missTo ts hs k = some i) : ∀ m, k ≤ m → missTo ts hs m = some i := by
  intro m hm
  induction m with
  | zero => obtain rfl : k = 0 := by omega
            exact h
  | succ m ih =>
    by_cases e : k = m + 1
    · subst e; exact h
    · simp only [missTo, ih (by omega)]
def missI (ts : List Tr) (hs : List Int) : Option Nat := missTo ts hs hs.length
def MissPost (w : World) (ts : List Tr) (hs : List Int) (e : Ending) (w' : World) : Prop := e = .returned (.tuple #[.int .i64 (((missI ts hs).getD 0 : Nat) : Int), .bool (missI ts hs).isSome]) ∧ w = w'

set_option maxRecDepth 100000 in
set_option maxHeartbeats 1000000 in
theorem missing_any {w : World} {A A' : Option Addr} {m m' : Nat} (c c' : Nat) {ts : List Tr} {hs : List Int} (ht : TosV w A m ts) (hh : IntsV w A' m' hs) (hm : m ≤ 1000000) (hm' : m' ≤ 1000000) :
    Calls Tryz.prog 24 #[.slice A m c, .slice A' m' c'] w (MissPost w ts hs) := by
  have Hlt := Lib.hid ht.len
  have Hlh := Lib.hid hh.len
  have HT := Lib.hid ht
  have HU := Lib.hid hh
  clear ht hh
  go_enter Tryz.func24, Tryz.ntmps24
  go_wp2_with fail
  go_loop [10] (fun i => ∃ k : Nat, k ≤ m' ∧ i = .int .i64 k ∧ missTo ts hs k = none) (fun i => m' - (intOf i).toNat)
  case atStart => exact ⟨0, Nat.zero_le _, rfl, rfl⟩
  case round =>
    obtain ⟨k, hk, rfl, hN⟩ := hrel
    have HN := Lib.hid hN
    clear hN
    by_cases hlt : k < m'
    · obtain ⟨b', off', rfl, hbb', hc'⟩ := HU.out.row.at_ k (by rw [ints_length]; have := Hlh.out; omega)
      have d1 : w.cell? ⟨b', off' + k, none⟩ = some (.int .i64 (wAt hs k)) := hc' k _ (ints_at hs k (by have := Hlh.out; omega))
      have Hno : Hid (missB ts hs k = false → missTo ts hs (k + 1) = none) := fun h => by simp [missTo, HN.out, h]
      have Hyes : Hid (missB ts hs k = true → missI ts hs = some k) := fun h => by
        have : missTo ts hs (k + 1) = some k := by simp [missTo, HN.out, h]
        exact missTo_stays this _ (by have := Hlh.out; omega)
      have Hd : Hid (missB ts hs k = (decide (0 < wAt hs k) && (decide (m ≤ k) || decide (itemAt ts k < 0)))) := by show missB ts hs k = _; rw [Hlt.out]; rfl
      clear hc'
      by_cases h0 : 0 < wAt hs k
      · by_cases h1 : m ≤ k
        · have Hq := Lib.hid (Hyes.out (by rw [Hd.out]; simp [h0, h1]))
          clear Hyes Hno Hd
          generalize wAt hs k = x at *
          have e1 : decide (m ≤ k) = true := by simpa using h1
          go_wp2_with fail
          go_ret2
          exact ⟨by rw [Hq.out]; rfl, rfl⟩
        · obtain ⟨b, off, rfl, hbb, hc⟩ := HT.out.row.at_ 0 (by rw [tcells_length]; have := Hlt.out; omega)
          have c1 := hc _ _ (tcells_at ts k (by have := Hlt.out; omega)).1
          have e1 : decide (m ≤ k) = false := by simpa using h1
          have k0 : (0 : Int) ≤ (k : Int) := by omega
          have k1 : (k : Int) < (m : Int) := by omega
          clear hc
          by_cases h2 : itemAt ts k < 0
          · have Hq := Lib.hid (Hyes.out (by rw [Hd.out]; simp [h0, h2]))
            clear Hyes Hno Hd
            generalize wAt hs k = x at *
            generalize itemAt ts k = y at *
            go_wp2_with fail
            go_ret2
            exact ⟨by rw [Hq.out]; rfl, rfl⟩
          · have Hq := Lib.hid (Hno.out (by rw [Hd.out]; simp [e1]; omega))
            clear Hyes Hno Hd
            generalize wAt hs k = x at *
            generalize itemAt ts k = y at *
            go_wp2_with fail
            go_round
            case rel => exact ⟨k + 1, by omega, by go_num, Hq.out⟩
            case measure => simp [intOf]; omega
      · have Hq := Lib.hid (Hno.out (by rw [Hd.out]; simp [h0]))
        have e0 : decide (0 < wAt hs k) = false := by simpa using h0
        clear Hyes Hno Hd
        generalize wAt hs k = x at *
        go_wp2_with fail
        go_round
        case rel => exact ⟨k + 1, by omega, by go_num, Hq.out⟩
        case measure => simp [intOf]; omega
    · have hkn : k = hs.length := by have := Hlh.out; omega
      have Hq : Hid (missI ts hs = none) := by show missI ts hs = none; unfold missI; rw [← hkn]; exact HN.out
      clear hkn
      go_wp2_with fail
      go_ret2
      exact ⟨by rw [Hq.out]; rfl, rfl⟩

theorem last_any {w : World} {h n c : Nat} {A : Option Addr} (hn : n ≤ 1000000) (hc : w.cell? ⟨h, 0, none⟩ = some (.slice A n c)) :
    Calls Tryz.prog 38 #[.pointer (some ⟨h, 0, none⟩)] w fun e w' => e = .returned (.int .i64 ((n : Int) - 1)) ∧ w = w' := by
  go_enter Tryz.func38, Tryz.ntmps38
  go_wp2
  go_ret
  exact ⟨rfl, rfl⟩

/-- What Start leaves: a history with one version. -/
structure HistAt (W : World) (h gc : Nat) (A : Option Addr) (n c : Nat) (l : List It) : Prop where
  bh : Bk W h 143 [.slice (some ⟨gc, 0, none⟩) 1 1, nilS]
  bc : Bk W gc 28 [.slice A n c, nilS, nilS, nilS]
  items : ItemsV W A n l
theorem HistAt.grow {W W' : World} {h gc : Nat} {A : Option Addr} {n c : Nat} {l : List It} (H : HistAt W h gc A n c l) (hb : Below W.heap.size W W') : HistAt W' h gc A n c l := ⟨H.bh.below hb H.bh.lt, H.bc.below hb H.bc.lt, H.items.below hb⟩
def StartPost (w : World) (n : Nat) (l : List It) (e : Ending) (w' : World) : Prop := ∃ h gc a c, e = .returned (.tuple #[.pointer (some ⟨h, 0, none⟩), .int .i64 0]) ∧ HistAt w' h gc (some a) n c l ∧ Below w.heap.size w w'

set_option maxRecDepth 100000 in
set_option maxHeartbeats 1000000 in
theorem start_items {w : World} {a : Addr} {n : Nat} (c : Nat) {l : List It} (h : CatV w (some a) n l) (h1 : 0 < n) : Calls Tryz.prog 34 #[catV (some a) n c] w (StartPost w n l) := by
  have hb0 : Below w.heap.size w (w.alloc (catO (some a) n c)) := (Below.refl _ _).alloc (Nat.le_refl _) _
  have H := Lib.hid h
  clear h
  go_enter Tryz.func34, Tryz.ntmps34
  go_wp2_with fail
  refine (valid_items c (H.out.below hb0)).mono ?_
  rintro e w1 ⟨rfl, hb1⟩
  have k1 : Bk w1 w.heap.size 28 (catL (some a) n c) := (Bk.new w 28 (catL (some a) n c)).below hb1 (by simp)
  have G1 : Below w.heap.size w w1 := hb0.trans (hb1.mono (by simp))
  have KC := Lib.hid (copies_items c (H.out.items.below G1))
  have s0 : w1.cell? ⟨w.heap.size, 0, none⟩ = some (.slice (some a) n c) := k1.cell 0
  have s1 : w1.cell? ⟨w.heap.size, 1, none⟩ = some (.slice none 0 0) := k1.cell 1
  have s2 : w1.cell? ⟨w.heap.size, 2, none⟩ = some (.slice none 0 0) := k1.cell 2
  have s3 : w1.cell? ⟨w.heap.size, 3, none⟩ = some (.slice none 0 0) := k1.cell 3
  clear hb0 hb1 k1
  go_wp2_with fail
  refine KC.out.mono ?_
  rintro e w2 ⟨v, rfl, ho, hb2⟩
  obtain ⟨g, cap, rfl⟩ := row_some ho h1
  have hit : ItemsV w2 (some ⟨g, 0, none⟩) n l := by
    obtain ⟨A, c', e, hr⟩ := row_of_owns ho
    cases e
    exact ⟨hr, H.out.items.len, H.out.items.small, H.out.items.name⟩
  have G2 := G1.trans (hb2.mono G1.size)
  have Hit := Lib.hid hit
  clear s0 s1 s2 s3 hb2 ho hit KC
  go_wp2
  go_ret2
  have kb := Bk.new (w2.alloc (.cells #[.slice (some ⟨g, 0, none⟩) n cap, nilS, nilS, nilS] 28)) 143 [.slice (some ⟨w2.heap.size, 0, none⟩) 1 1, nilS]
  rw [World.size_alloc] at kb
  refine ⟨w2.heap.size + 1, w2.heap.size, ⟨g, 0, none⟩, cap, rfl, ⟨kb, (Bk.new w2 28 [.slice (some ⟨g, 0, none⟩) n cap, nilS, nilS, nilS]).alloc _, ?_⟩, ?_⟩
  · exact Hit.out.below (((Below.refl _ w2).alloc (Nat.le_refl _) _).alloc (by simp) _)
  · exact (G2.alloc G2.size _).alloc (by have := G2.size; simp; omega) _

end Go.Proofs.YthjfdfdgbpbanaaGreatDoor
