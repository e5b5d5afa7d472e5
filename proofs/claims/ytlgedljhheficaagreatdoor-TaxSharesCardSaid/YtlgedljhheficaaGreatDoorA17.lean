/- Contracts of the closure of tax.Net, of sort.Search over it, and of tax.Net. -/
import Derived.Test.YtlgedljhheficaaGreatDoorA16
import Derived.Test.YtlgedljhheficaaGreatDoorP2
namespace Go.Proofs.YtlgedljhheficaaGreatDoor
open Go.RowKit

/-- More than net is left of a sum. -/
def overB (brs : List (Int × Int)) (net x : Int) : Bool := decide (net < x - due brs x)

/-- What the closure captured. -/
structure NetCap (w : World) (bt bn : Nat) (nm : ByteArray) (A : Option Addr) (n c : Nat) (brs : List (Int × Int)) (net : Int) : Prop where
  lt : bt < w.heap.size
  ln : bn < w.heap.size
  c0 : w.cell? ⟨bt, 0, none⟩ = some (.string nm)
  c1 : w.cell? ⟨bt, 1, none⟩ = some (.slice A n c)
  cn : w.cell? ⟨bn, 0, none⟩ = some (.int .i64 net)
  row : Row w w.heap.size A (bcells brs)
  len : n = brs.length
  inr : InR brs
  n0 : 0 ≤ net
  n1 : net ≤ 1099511627776
theorem NetCap.below {w w' : World} {bt bn : Nat} {nm : ByteArray} {A : Option Addr} {n c : Nat} {brs : List (Int × Int)} {net : Int} (h : NetCap w bt bn nm A n c brs net) (hb : Below w.heap.size w w') : NetCap w' bt bn nm A n c brs net :=
  ⟨Nat.lt_of_lt_of_le h.lt hb.size, Nat.lt_of_lt_of_le h.ln hb.size, (hb.cell (p := ⟨bt, 0, none⟩) h.lt).trans h.c0, (hb.cell (p := ⟨bt, 1, none⟩) h.lt).trans h.c1, (hb.cell (p := ⟨bn, 0, none⟩) h.ln).trans h.cn, (h.row.below hb).more hb.size, h.len, h.inr, h.n0, h.n1⟩

set_option maxRecDepth 100000 in
set_option maxHeartbeats 1000000 in
theorem net1_any {w : World} {bt bn : Nat} {nm : ByteArray} {A : Option Addr} {n c : Nat} {brs : List (Int × Int)} {net : Int} (x : Int) (h : NetCap w bt bn nm A n c brs net) (x0 : 0 ≤ x) (x1 : x ≤ 1099511627776) :
    Calls Tryz.prog 42 #[.int .i64 x, .pointer (some ⟨bt, 0, none⟩), .pointer (some ⟨bn, 0, none⟩)] w fun e w' => e = .returned (.bool (overB brs net x)) ∧ Below w.heap.size w w' := by
  have hlt := h.lt
  have hln := h.ln
  have c0 := h.c0
  have c1 := h.c1
  have cn := h.cn
  have n0 := h.n0
  have n1 := h.n1
  have db := due_bd h.inr x1
  obtain ⟨d, hd⟩ : ∃ d, d = due brs x := ⟨_, rfl⟩
  have k1 : ∀ W : World, Row W W.heap.size A (bcells brs) → Calls Tryz.prog 38 #[.agg #[.string nm, .slice A n c], .int .i64 x] W fun e w' => e = .returned (.int .i64 d) ∧ Below W.heap.size W w' := fun W hW => by rw [hd]; exact due_any nm A n c brs x W hW h.len h.inr x0 x1
  have Ho : Hid (overB brs net x = decide (net < x - d)) := by show overB brs net x = _; rw [hd]; rfl
  rw [← hd] at db
  have Hr := Lib.hid h.row
  have K1 := Lib.hid k1
  clear k1 hd h
  have hw : IntKind.i64.wrap (x - d) = x - d := IntWalk.i64_in _ (by omega)
  go_enter Tryz.func42, Tryz.ntmps42
  go_wp2_with fail
  go_region_with (go_at_call 38; refine (K1.out _ ?_).mono ?_; exact Hr.out; rintro e wA ⟨rfl, hbA⟩; have GA := (Below.refl w.heap.size w).drew.trans hbA; have cA0 := (hbA.cell (p := ⟨bt, 0, none⟩) hlt).trans c0; have cA1 := (hbA.cell (p := ⟨bt, 1, none⟩) hlt).trans c1; have cAn := (hbA.cell (p := ⟨bn, 0, none⟩) hln).trans cn)
  all_goals go_wp2
  all_goals go_ret
  all_goals exact ⟨by rw [Ho.out]; rfl, GA⟩

theorem lo_next {brs : List (Int × Int)} {net : Int} {m : Nat} (hm : ∀ x y : Nat, x ≤ y → overB brs net x = true → overB brs net y = true) (ho : overB brs net m = false) : ∀ x : Nat, x < m + 1 → overB brs net x = false := by
  intro x hx
  cases hq : overB brs net x
  · rfl
  · have := hm x m (by omega) hq
    rw [ho] at this; cases this

/-- The least index at which more than net is left. -/
def SearchPost (w : World) (brs : List (Int × Int)) (net : Int) (e : Ending) (w' : World) : Prop :=
  ∃ k : Nat, k ≤ 1099511627777 ∧ (∀ x : Nat, x < k → overB brs net x = false) ∧ (k < 1099511627777 → overB brs net k = true) ∧ e = .returned (.int .i64 k) ∧ Below w.heap.size w w'

set_option maxRecDepth 100000 in
set_option maxHeartbeats 1000000 in
theorem search_any {w : World} {bt bn : Nat} {nm : ByteArray} {A : Option Addr} {n c : Nat} {brs : List (Int × Int)} {net : Int} (h : NetCap w bt bn nm A n c brs net)
    (hmono : ∀ x y : Nat, x ≤ y → overB brs net x = true → overB brs net y = true) :
    Calls Tryz.prog 41 #[.int .i64 1099511627777, .func (.func 42) #[] #[.pointer (some ⟨bt, 0, none⟩), .pointer (some ⟨bn, 0, none⟩)]] w
      (SearchPost w brs net) := by
  have H := Lib.hid h
  have Hm := Lib.hid hmono
  clear h hmono
  go_enter Tryz.func41, Tryz.ntmps41
  go_wp2_with fail
  go_loopw [5, 6] (fun i j wr => ∃ a b : Nat, a ≤ b ∧ b ≤ 1099511627777 ∧ i = .int .i64 a ∧ j = .int .i64 b ∧ (∀ x : Nat, x < a → overB brs net x = false) ∧ (b < 1099511627777 → overB brs net b = true) ∧ Below w.heap.size w wr) (fun i j _ => (intOf j).toNat - (intOf i).toNat)
  case atStart => exact ⟨0, 1099511627777, by omega, by omega, rfl, rfl, fun x hx => by omega, fun hx => by omega, Below.refl _ _⟩
  case round =>
    obtain ⟨a, b, hab, hb1, rfl, rfl, hlo, hhi, hbel⟩ := hrel
    have Hlo := Lib.hid hlo
    have Hhi := Lib.hid hhi
    clear hlo hhi
    by_cases hlt : a < b
    · go_wp2_with fail
      obtain ⟨m, hm, hm1, hm2⟩ : ∃ m : Nat, ((a : Int) + b) / 2 = m ∧ a ≤ m ∧ m < b := ⟨(a + b) / 2, by omega, by omega, by omega⟩
      rw [hm]
      clear hm
      refine (net1_any (m : Int) (H.out.below hbel) (by omega) (by omega)).mono ?_
      rintro e w1 ⟨rfl, hb2⟩
      have hbel2 := hbel.trans (hb2.mono hbel.size)
      cases ho : overB brs net m
      · have Ho := Lib.hid ho
        clear ho
        go_wp2_with fail
        go_roundw
        case rel => exact ⟨m + 1, b, by omega, hb1, by go_num, rfl, lo_next Hm.out Ho.out, Hhi.out, hbel2⟩
        case measure => simp [intOf]; omega
      · have Ho := Lib.hid ho
        clear ho
        go_wp2_with fail
        go_roundw
        case rel => exact ⟨a, m, hm1, by omega, rfl, rfl, Hlo.out, fun _ => Ho.out, hbel2⟩
        case measure => simp [intOf]; omega
    · obtain rfl : b = a := by omega
      go_wp2
      go_ret
      exact ⟨_, hb1, Hlo.out, Hhi.out, rfl, hbel⟩

theorem formed_first {brs : List (Int × Int)} (h : formedB brs = true) : 0 < brs.length ∧ fromAt brs 0 = 0 ∧ ∀ i, i + 1 < brs.length → fromAt brs i < fromAt brs (i + 1) := by
  simp only [formedB, Bool.and_eq_true, beq_iff_eq] at h
  refine ⟨?_, h.1.2, fun i hi => ?_⟩
  · have := h.1.1
    cases brs <;> simp_all
  · have := incB_at h.2 (i + 1) hi (by omega)
    simpa using this
theorem good_of_valid {nm : ByteArray} {brs : List (Int × Int)} (h : validE nm brs = 0) : Good brs := by
  have hI := inR_of_valid h
  have hf : formedB brs = true := by
    unfold validE at h
    split at h
    · omega
    · split at h
      · omega
      · split at h
        · omega
        · rename_i h3
          simpa using h3
  obtain ⟨a, b, c⟩ := formed_first hf
  exact ⟨hI, a, b, c⟩
theorem over_mono {brs : List (Int × Int)} (hG : Good brs) (net : Int) (x y : Nat) (hxy : x ≤ y) (h : overB brs net x = true) : overB brs net y = true := by
  have := due_le hG (show (x : Int) ≤ y by omega)
  simp only [overB, decide_eq_true_eq] at h ⊢
  omega

/-- m is the greatest sum of which at most net is left. -/
def NetIs (brs : List (Int × Int)) (net m : Int) : Prop := 0 ≤ m ∧ m ≤ 1099511627776 ∧ m - due brs m ≤ net ∧ (m < 1099511627776 → net < m + 1 - due brs (m + 1))
theorem NetIs.unique {brs : List (Int × Int)} (hG : Good brs) {net a b : Int} (ha : NetIs brs net a) (hb : NetIs brs net b) : a = b := by
  obtain ⟨a0, a1, a2, a3⟩ := ha
  obtain ⟨b0, b1, b2, b3⟩ := hb
  rcases Int.lt_trichotomy a b with h | h | h
  · have := due_le hG (show a + 1 ≤ b by omega)
    have := a3 (by omega)
    omega
  · exact h
  · have := due_le hG (show b + 1 ≤ a by omega)
    have := b3 (by omega)
    omega
/-- What Net returns. -/
def NetR (nm : ByteArray) (brs : List (Int × Int)) (net : Int) (r : Int × Int) : Prop :=
  if validE nm brs = 0 then (if inB net = true then r.2 = 0 ∧ NetIs brs net r.1 else r = (0, 5)) else r = (0, validE nm brs)
def NetPost (w : World) (nm : ByteArray) (brs : List (Int × Int)) (net : Int) (e : Ending) (w' : World) : Prop :=
  ∃ r : Int × Int, NetR nm brs net r ∧ e = .returned (.tuple #[.int .i64 r.1, .int .i64 r.2]) ∧ Below w.heap.size w w'

theorem net_of_search {brs : List (Int × Int)} (hG : Good brs) {net : Int} (n0 : 0 ≤ net) {k : Nat} (k1 : k ≤ 1099511627777) (lo : ∀ x : Nat, x < k → overB brs net x = false) (hi : k < 1099511627777 → overB brs net k = true) :
    1 ≤ k ∧ NetIs brs net ((k : Int) - 1) := by
  have hk : 1 ≤ k := by
    rcases Nat.eq_zero_or_pos k with h | h
    · subst h
      have := hi (by omega)
      have hz := due_zero hG
      simp [overB, hz] at this
      omega
    · exact h
  refine ⟨hk, by omega, by omega, ?_, fun h => ?_⟩
  · have := lo (k - 1) (by omega)
    simp only [overB, decide_eq_false_iff_not] at this
    have e : ((k - 1 : Nat) : Int) = (k : Int) - 1 := by omega
    rw [e] at this
    omega
  · have := hi (by omega)
    simp only [overB, decide_eq_true_eq] at this
    have e : (k : Int) - 1 + 1 = k := by omega
    rw [e]
    omega

set_option maxRecDepth 100000 in
set_option maxHeartbeats 1000000 in
theorem Net_any {w : World} {nm : ByteArray} {A : Option Addr} {n : Nat} (c : Nat) {brs : List (Int × Int)} (net : Int) (h : TaxV w nm A n brs) :
    Calls Tryz.prog 16 #[.agg #[.string nm, .slice A n c], .int .i64 net] w (NetPost w nm brs net) := by
  have hb0 : Below w.heap.size w ((w.alloc (.cells #[.string nm, .slice A n c] 25)).alloc (.cells #[.int .i64 net] 3)) := ((Below.refl _ _).alloc (Nat.le_refl _) _).alloc (by simp) _
  have H := Lib.hid h
  clear h
  go_enter Tryz.func16, Tryz.ntmps16
  go_wp2_with fail
  refine (valid_tax c (H.out.below hb0)).mono ?_
  rintro e w1 ⟨rfl, hb1⟩
  have G1 : Below w.heap.size w w1 := hb0.trans (hb1.mono (by simp; omega))
  rcases validE_cases nm brs with hv | hv
  · have hG := good_of_valid hv
    rw [hv]
    have Hv := Lib.hid hv
    have HG := Lib.hid hG
    clear hv hG
    have c0 : w1.cell? ⟨w.heap.size, 0, none⟩ = some (.string nm) := (hb1.cell (p := ⟨w.heap.size, 0, none⟩) (by simp; omega)).trans (by simp)
    have c1 : w1.cell? ⟨w.heap.size, 1, none⟩ = some (.slice A n c) := (hb1.cell (p := ⟨w.heap.size, 1, none⟩) (by simp; omega)).trans (by simp)
    have cn : w1.cell? ⟨w.heap.size + 1, 0, none⟩ = some (.int .i64 net) := (hb1.cell (p := ⟨w.heap.size + 1, 0, none⟩) (by simp)).trans (by simp)
    have s1 : w.heap.size + 1 < w1.heap.size := by have := hb1.size; simp at this; omega
    clear hb1
    go_wp2_with fail
    refine (inRange_any _ _).mono ?_
    rintro e w2 ⟨rfl, rfl⟩
    cases hi : inB net
    · have Hi := Lib.hid hi
      clear hi
      go_wp2
      go_ret2
      exact ⟨(0, 5), by unfold NetR; rw [if_pos Hv.out, if_neg (by rw [Hi.out]; decide)], rfl, G1⟩
    · obtain ⟨hs0, hs1⟩ := inB_true hi
      have Hi := Lib.hid hi
      clear hi
      have h1 := H.out.below G1
      have hcap : NetCap w1 w.heap.size (w.heap.size + 1) nm A n c brs net := ⟨by omega, s1, c0, c1, cn, h1.row, h1.len, HG.out.inr, hs0, hs1⟩
      have Hc := Lib.hid hcap
      clear h1 hcap
      go_wp2_with fail
      refine (search_any Hc.out (over_mono HG.out net)).mono ?_
      rintro e w2 ⟨k, k1, klo, khi, rfl, hb2⟩
      obtain ⟨kpos, hnet⟩ := net_of_search HG.out hs0 k1 klo khi
      have Hn := Lib.hid hnet
      clear hnet klo khi
      go_wp2
      go_ret2
      exact ⟨((k : Int) - 1, 0), by unfold NetR; rw [if_pos Hv.out, if_pos Hi.out]; exact ⟨rfl, Hn.out⟩, rfl, G1.trans (hb2.mono G1.size)⟩
  · have hne : ¬ validE nm brs = 0 := by simpa using hv
    have Hne := Lib.hid hne
    have Hr : Hid (NetR nm brs net (0, validE nm brs)) := by show NetR nm brs net _; unfold NetR; rw [if_neg hne]
    generalize validE nm brs = E at *
    clear hne Hne
    go_wp2
    go_ret2
    exact ⟨(0, E), Hr.out, rfl, G1⟩

end Go.Proofs.YtlgedljhheficaaGreatDoor
