/- The contract of catalog.fits on short names that are words, or begin with a byte of no kind, or are empty. -/
import Derived.Test.YthjfdfdgbpbanaaGreatDoorA16
namespace Go.Proofs.YthjfdfdgbpbanaaGreatDoor
open Go.RowKit

structure PlainName (s : ByteArray) : Prop where
  len : s.size ≤ 16
  each : ∀ p, p < s.size → (kindAt s p = 3 ∧ ∀ i, p ≤ i → i < s.size → wordB (kindAt s i) = true) ∨ kindAt s p = 0

def pS (s : ByteArray) (p : Nat) : Nat := min p s.size
def pN (s : ByteArray) (p : Nat) : Tok := if kindAt s p = 3 then ⟨0, s.extract p s.size, 0, p, 0⟩ else ⟨0, ⟨#[]⟩, 0, p, 2⟩

theorem pS_ok {s : ByteArray} (h : PlainName s) : SkipOk s (pS s) := by
  intro p w hp hT
  have e : pS s p = p := by unfold pS; omega
  rw [e]
  have hk : kindAt s p ≠ 1 ∧ kindAt s p ≠ 2 := by
    by_cases hlt : p < s.size
    · rcases h.each p hlt with ⟨h3, _⟩ | h0 <;> omega
    · have : kindAt s p = 0 := by simp [kindAt, hlt]
      omega
  exact skip_stay s p w hT hk.1 hk.2
theorem pN_ok {s : ByteArray} (h : PlainName s) : NextOk s (pN s) := by
  intro p w hp hT
  rcases h.each p hp with ⟨h3, ha⟩ | h0
  · have e : pN s p = ⟨0, s.extract p s.size, 0, p, 0⟩ := by unfold pN; rw [if_pos h3]
    rw [e]
    exact next_word s p w hT h3 ha hp h.len
  · have e : pN s p = ⟨0, ⟨#[]⟩, 0, p, 2⟩ := by unfold pN; rw [if_neg (by omega)]
    rw [e]
    exact next_other s p w hT h0 h.len hp
theorem size_extract_le (s : ByteArray) (p : Nat) : p ≤ s.size → p + (s.extract p s.size).size = s.size := by
  intro h
  rw [ByteArray.size_extract]
  omega
theorem pN_le (s : ByteArray) (p : Nat) (hp : p < s.size) : p + (pN s p).text.size ≤ s.size := by
  unfold pN
  split
  · have := size_extract_le s p (by omega)
    simp only
    omega
  · show p + 0 ≤ s.size
    omega

def pToks (s : ByteArray) : List Tok := if s.size = 0 then [] else [pN s 0]
theorem pLx {s : ByteArray} : Lx (pS s) (pN s) s.size (pS s 0) (pToks s) := by
  have e0 : pS s 0 = 0 := by simp [pS]
  rw [e0]
  unfold pToks
  split
  · exact .done 0 (by omega)
  · rename_i hne
    by_cases h3 : kindAt s 0 = 3
    · have hN : pN s 0 = ⟨0, s.extract 0 s.size, 0, 0, 0⟩ := by unfold pN; rw [if_pos h3]; rfl
      have hsz : (pN s 0).text.size = s.size := by
        rw [hN]
        have := size_extract_le s 0 (by omega)
        show (s.extract 0 s.size).size = s.size
        omega
      refine .step 0 [] (by omega) (by rw [hN]) ?_ ?_
      · rw [hsz]; simp [pS]; omega
      · rw [hsz]
        exact .done _ (by simp [pS])
    · have hN : pN s 0 = ⟨0, ⟨#[]⟩, 0, 0, 2⟩ := by unfold pN; rw [if_neg h3]; rfl
      exact .err 0 (by omega) (by rw [hN]; decide)

def fitsB (s : ByteArray) : Bool := decide (s.size ≠ 0) && decide (kindAt s 0 = 3)

theorem extract_all (s : ByteArray) : s.extract 0 s.size = s := by
  apply ByteArray.ext
  simp

set_option maxRecDepth 100000 in
set_option maxHeartbeats 1000000 in
theorem fits_plain (s : ByteArray) (h : PlainName s) (w : World) (hT : Tab w) :
    Calls Tryz.prog 126 #[.string s] w fun e w' => e = .returned (.bool (fitsB s)) ∧ Below w.heap.size w w' := by
  have hl := h.len
  have htok := tokens_any s (by omega) (pS s) (pN s) (pS_ok h) (pN_ok h) (fun p => by simp [pS]; omega) (fun p hp => pN_le s p hp) (pToks s) (by unfold pToks; split <;> simp) pLx w hT
  have Ht := Lib.hid htok
  clear htok hT h
  go_enter Tryz.func126, Tryz.ntmps126
  go_wp2_with fail
  refine Ht.out.mono ?_
  rintro e w' (⟨he, v, rfl, hown, hB⟩ | ⟨init, last, hp, hi, hl, rfl, hB⟩)
  · by_cases hz : s.size = 0
    · have e0 : pToks s = [] := by simp [pToks, hz]
      rw [e0] at hown
      have hex : ∃ A c, v = .slice A 0 c := by
        rcases hown.2 with ⟨rfl, _⟩ | ⟨g, cap, cur, rfl, _⟩
        · exact ⟨_, _, rfl⟩
        · exact ⟨_, _, rfl⟩
      obtain ⟨A, c, rfl⟩ := hex
      have Hf : Hid (fitsB s = false) := by show fitsB s = false; simp [fitsB, hz]
      go_wp2
      go_ret
      exact ⟨by rw [Hf.out]; rfl, hB⟩
    · have e1 : pToks s = [pN s 0] := by simp [pToks, hz]
      rw [e1] at hown he
      have h3 : kindAt s 0 = 3 := by
        have := he _ (List.mem_singleton.2 rfl)
        unfold pN at this
        split at this
        · assumption
        · simp at this
      have hN : pN s 0 = ⟨0, s, 0, 0, 0⟩ := by unfold pN; rw [if_pos h3, extract_all]; rfl
      rw [hN] at hown
      have hex : ∃ g c, v = .slice (some ⟨g, 0, none⟩) 1 c := by
        rcases hown.2 with ⟨_, h0⟩ | ⟨g, cap, cur, rfl, _⟩
        · simp at h0
        · exact ⟨_, _, rfl⟩
      obtain ⟨g, c, rfl⟩ := hex
      have c0 := hown.cellAt 0 (by decide)
      have c1 := hown.cellAt 1 (by decide)
      simp [kcells, Tok.cells] at c0 c1
      have Hf : Hid (fitsB s = true) := by show fitsB s = true; simp [fitsB, hz, h3]
      clear e1 he hown hN h3 hz Ht
      go_wp2
      go_ret
      exact ⟨by rw [Hf.out]; rfl, hB⟩
  · have Hf : Hid (fitsB s = false) := by
      show fitsB s = false
      unfold pToks at hp
      by_cases hz : s.size = 0
      · simp [fitsB, hz]
      · rw [if_neg hz] at hp
        have hlast : last = pN s 0 := by
          have hlen := hp.length_le
          rw [List.length_append, List.length_singleton, List.length_singleton] at hlen
          have : init = [] := List.eq_nil_of_length_eq_zero (by omega)
          subst this
          simpa using hp
        rw [hlast] at hl
        unfold pN at hl
        split at hl
        · simp at hl
        · rename_i h3
          simp [fitsB, h3]
    have hl2 : (last.err == 0) = false := by simpa using hl
    clear hl hp hi Ht
    go_wp2
    go_ret
    exact ⟨by rw [Hf.out]; rfl, hB⟩

end Go.Proofs.YthjfdfdgbpbanaaGreatDoor
