/- The contracts of slices.Clone on brackets and of tax.New. -/
import Derived.Test.YtlgedljhheficaaGreatDoorA31
import Derived.Carry
namespace Go.Proofs.YtlgedljhheficaaGreatDoor
open Go.RowKit

theorem bcells_int (brs : List (Int × Int)) : ∀ u ∈ bcells brs, ∃ x, u = .int .i64 x := by
  intro u hu
  simp only [bcells, List.mem_flatMap, List.mem_cons, List.not_mem_nil, or_false] at hu
  obtain ⟨p, _, h | h⟩ := hu <;> exact ⟨_, h⟩

set_option maxRecDepth 100000 in
set_option maxHeartbeats 1000000 in
theorem clone_any {w : World} {b off n : Nat} (c : Nat) {brs : List (Int × Int)} (hc : ∀ j u, (bcells brs)[j]? = some u → w.cell? ⟨b, off + j, none⟩ = some u) (hb : b < w.heap.size) (hn : n = brs.length) (h1 : 1 ≤ n) (h16 : n ≤ 16) :
    Calls Tryz.prog 45 #[.slice (some ⟨b, off, none⟩) n c] w fun e w' => ∃ v, e = .returned v ∧ w'.ownsRow w.heap.size 65 2 v n (bcells brs) ∧ Below w.heap.size w w' := by
  obtain ⟨i0, hi, hz0, hz1, hz2⟩ := info_parts info65
  have hlen := bcells_length brs
  rw [← hn] at hlen
  have hown : (w.alloc (.cells #[] 65)).ownsRow w.heap.size 65 2 (.slice (some ⟨w.heap.size, 0, none⟩) 0 0) 0 [] :=
    ⟨rfl, .inr ⟨w.heap.size, 0, _, rfl, Nat.le_refl _, heap_alloc_new w _, by omega, by unfold maxLen; omega, rfl, rfl⟩⟩
  have HO := Lib.hid hown
  have HC := Lib.hid hc
  have HN := Lib.hid hn
  clear hown hc hn
  have hnil : ∀ W : World, (binOp .eql 23 (.slice (some ⟨b, off, none⟩) n c) (.slice none 0 0)).run Tryz.prog W = .ok (.bool false) W := fun W => by kernel_rfl
  go_enter Tryz.func45, Tryz.ntmps45
  go_wp2_with (at_builtin; refine wpList_append_own_at _ rfl _ _ 23 rfl w.heap.size 65 i0 (.agg #[.int .i64 0, .int .i64 0]) 2 16 Tryz.underlying23 hi hz0 hz1 hz2 rfl (by decide) _ 0 [] rfl HO.out ⟨b, off, none⟩ n c (bcells brs) rfl hlen ?c1a ?c2a ?c3a ?c4a ?c5a ?_)
  case c1a =>
    intro j u hj
    have e1 : (⟨b, off, none⟩ : Addr).add j = ⟨b, off + j, none⟩ := by
      unfold Addr.add; split
      · subst_vars; rfl
      · rfl
    rw [e1, World.cell?_alloc_past _ _ _ hb]
    exact HC.out j u hj
  case c2a =>
    intro u hu
    obtain ⟨x, rfl⟩ := bcells_int brs u hu
    rfl
  case c3a => unfold maxLen; omega
  case c4a => omega
  case c5a => simp
  intro v' w1 hown' hgrow _ _
  have HO' := Lib.hid hown'
  have hb1 : Below w.heap.size w w1 := ((Below.refl _ w).alloc (Nat.le_refl _) _).grown hgrow (by simp) (fun k e => by cases e; exact Nat.le_refl _)
  clear hown' hgrow
  obtain ⟨v, hv⟩ : ∃ v, v' = v := ⟨_, rfl⟩
  rw [hv] at HO' ⊢
  go_wp2
  go_ret
  exact ⟨_, rfl, HO'.out, hb1⟩

/-- What New leaves when it succeeds. -/
def NewPost (w : World) (nm : ByteArray) (n : Nat) (brs : List (Int × Int)) (p : Int) (e : Ending) (w' : World) : Prop :=
  ∃ g b A c, e = .returned (.tuple #[.pointer (some ⟨g, 0, none⟩), .int .i64 0]) ∧ MeterAt w' g b 0 nm A n c brs p (fun _ => none) ∧ w.heap.size ≤ g ∧ w.heap.size ≤ b ∧ Below w.heap.size w w'

theorem row_at_some {w : World} {B n : Nat} {A : Option Addr} {brs : List (Int × Int)} (h : Row w B A (bcells brs)) (hn : n = brs.length) (h1 : 1 ≤ n) :
    ∃ b off, A = some ⟨b, off, none⟩ ∧ b < B ∧ ∀ j u, (bcells brs)[j]? = some u → w.cell? ⟨b, off + j, none⟩ = some u :=
  h.at_ 0 (by rw [bcells_length]; omega)

set_option maxRecDepth 100000 in
set_option maxHeartbeats 1000000 in
theorem New_good {w : World} {nm : ByteArray} {A : Option Addr} {n : Nat} (c : Nat) {brs : List (Int × Int)} (p : Int) (h : TaxV w nm A n brs) (hv : validE nm brs = 0) (p0 : 1 ≤ p) (p1 : p ≤ 1099511627776) :
    Calls Tryz.prog 25 #[.agg #[.string nm, .slice A n c], .int .i64 p] w (NewPost w nm n brs p) := by
  have hG := good_of_valid hv
  have hI := inR_of_valid hv
  have hl16 := hI.len
  have hne := hG.pos
  have hb0 : Below w.heap.size w (w.alloc (.cells #[.string nm, .slice A n c] 25)) := (Below.refl _ _).alloc (Nat.le_refl _) _
  have H := Lib.hid h
  clear h
  go_enter Tryz.func25, Tryz.ntmps25
  go_wp2_with fail
  refine (valid_tax c (H.out.below hb0)).mono ?_
  rintro e w1 ⟨rfl, hb1⟩
  have G1 : Below w.heap.size w w1 := hb0.trans (hb1.mono (by simp))
  rw [hv]
  have k1 : Bk w1 w.heap.size 25 [.string nm, .slice A n c] := (Bk.new w 25 [.string nm, .slice A n c]).below hb1 (by simp)
  have H1 := H.out.below G1
  have hn := H1.len
  obtain ⟨b, off, rfl, hb, hcells⟩ := row_at_some H1.row H1.len (by omega)
  have c0 : w1.cell? ⟨w.heap.size, 0, none⟩ = some (.string nm) := k1.cell 0
  have c1 : w1.cell? ⟨w.heap.size, 1, none⟩ = some (.slice (some ⟨b, off, none⟩) n c) := k1.cell 1
  have hcl := clone_any c hcells hb hn (by omega) (by omega)
  have HC := Lib.hid hcl
  have HK := Lib.hid k1
  have HG1 := Lib.hid G1
  have Hlen := Lib.hid hn
  have HT := Lib.hid H1.tab
  have hsz : w.heap.size < w1.heap.size := k1.lt
  have Hsm := Lib.hid H1.small
  clear hcl k1 hcells hb hb0 hb1 G1 H1 hv hG hI hl16 hne hn
  go_wp2_with fail
  refine HC.out.mono ?_
  rintro e w2 ⟨v, rfl, hown, hb2⟩
  have hshape : ∃ A' c', v = .slice A' n c' ∧ Row w2 w2.heap.size A' (bcells brs) := row_of_owns hown
  obtain ⟨A', c', hv, hrow⟩ := hshape
  rw [hv] at hown ⊢
  have k2 : Bk w2 w.heap.size 25 [.string nm, .slice (some ⟨b, off, none⟩) n c] := HK.out.below hb2 hsz
  have d0 : w2.cell? ⟨w.heap.size, 0, none⟩ = some (.string nm) := k2.cell 0
  have d1 : w2.cell? ⟨w.heap.size, 1, none⟩ = some (.slice (some ⟨b, off, none⟩) n c) := k2.cell 1
  have f1 : w2.frozen? ⟨w.heap.size, 1, none⟩ = false := k2.frozen 1
  have s2 : w.heap.size < w2.heap.size := k2.lt
  have B2 : Below w.heap.size w w2 := HG1.out.trans (hb2.mono (by omega))
  have hne2 : (Value.slice A' n c').ownBlock ≠ some w.heap.size := fun e => by
    have := row_base hown _ e
    omega
  have g2 : w2.grownBy (w2.setCell ⟨w.heap.size, 1, none⟩ (.slice A' n c')) (some w.heap.size) := ⟨rfl, rfl, rfl, by simp [World.setCell], fun i _ hi => Below.heap_setCell _ _ _ _ (fun e => hi (by rw [e]))⟩
  have own3 := hown.kept g2 (.inr hne2)
  have B3 : Below w.heap.size w (w2.setCell ⟨w.heap.size, 1, none⟩ (.slice A' n c')) := B2.setCell (Nat.le_refl _) _
  have hmm := @run_makeMap Tryz.prog
  have HB3 := Lib.hid B3
  have HO3 := Lib.hid own3
  have HT2 := Lib.hid (HT.out.below hb2 (by have := HT.out.1; omega))
  have HB2 := Lib.hid hb2
  clear hown hrow k2 B2 g2 own3 B3 hne2 c0 c1 hb2
  go_wp2
  go_ret2
  obtain ⟨W3, hW3⟩ : ∃ W3, w2.setCell ⟨w.heap.size, 1, none⟩ (.slice A' n c') = W3 := ⟨_, rfl⟩
  have hs3 : W3.heap.size = w2.heap.size := by rw [← hW3]; simp [World.setCell]
  rw [hW3] at HB3 HO3 ⊢
  have hT3 : Tab W3 := by
    rw [← hW3]
    exact ⟨by simpa [World.setCell] using HT2.out.1, fun i hi => (World.cell?_of_block (w := w2) (Below.heap_setCell _ _ _ _ (by have := HT2.out.1; have := HT.out.1; have := H.out.tab.1; simp; omega))).trans (HT2.out.2 i hi)⟩
  obtain ⟨A2, c2, hv2, hrow3⟩ := row_of_owns HO3.out
  obtain ⟨rfl, rfl⟩ : A' = A2 ∧ c' = c2 := by simpa using hv2
  have b4 : Below W3.heap.size W3 ((W3.alloc (.map #[] 0)).alloc (.cells #[.string nm, .slice A' n c', .int .i64 p, .map (some w2.heap.size)] 73)) := ((Below.refl _ W3).alloc (Nat.le_refl _) _).alloc (by simp) _
  have hbk := Bk.new (W3.alloc (.map #[] 0)) 73 [.string nm, .slice A' n c', .int .i64 p, .map (some w2.heap.size)]
  rw [World.size_alloc, hs3] at hbk
  have hmp := (MapT.made W3).kept (World.grownBy_alloc (W3.alloc (.map #[] 0)) (.cells #[.string nm, .slice A' n c', .int .i64 p, .map (some w2.heap.size)] 73) none) (by simp)
  rw [hs3] at hmp
  have htx : TaxV W3 nm A' n brs := ⟨hrow3, Hlen.out, Hsm.out, H.out.name, hT3⟩
  exact ⟨w2.heap.size + 1, w2.heap.size, A', c', rfl, ⟨hbk, hmp, htx.below b4, p0, p1, fun _ _ h => by cases h⟩, by omega, by omega, HB3.out.trans (b4.mono (by omega))⟩

end Go.Proofs.YtlgedljhheficaaGreatDoor
